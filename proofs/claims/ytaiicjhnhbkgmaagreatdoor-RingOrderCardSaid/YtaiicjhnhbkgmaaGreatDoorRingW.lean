/-
  caulkerref10.ahead; insertion (plain).
  Conditions: none.
-/
import Derived.Test.YtaiicjhnhbkgmaaGreatDoorRingU
import Derived.Test.YtaiicjhnhbkgmaaGreatDoorRsum
namespace Go.Proofs.YtaiicjhnhbkgmaaGreatDoor
open Go.RowKit Go.Maps Go.ChangeMaps
set_option maxRecDepth 100000
set_option linter.unusedVariables false

theorem eqB_iff (p q : Ub) : p.eqB q = true ↔ p = q := by
  constructor
  · intro h
    unfold Ub.eqB Pt.eqB at h
    simp only [Bool.and_eq_true, beq_iff_eq, decide_eq_true_eq] at h
    obtain ⟨t1, ⟨r1, b1, l1, s1⟩, n1, p1⟩ := p
    obtain ⟨t2, ⟨r2, b2, l2, s2⟩, n2, p2⟩ := q
    simp only at h
    simp_all
  · rintro rfl; exact eqB_reflR p
theorem best_bad {L out : List Ub} {u : Ub} (hb : IsBest L out) (hu : u.may = false) : IsBest (L ++ [u]) out := by
  refine ⟨hb.1, fun v => ?_⟩
  rw [hb.2 v, List.mem_append, List.mem_singleton]
  constructor
  · rintro ⟨h1, h2⟩; exact ⟨.inl h1, h2⟩
  · rintro ⟨h1 | rfl, h2⟩
    · exact ⟨h1, h2⟩
    · rw [hu] at h2; cases h2
theorem best_dup {L out : List Ub} {u : Ub} (hb : IsBest L out) (hu : u ∈ out) : IsBest (L ++ [u]) out := by
  refine ⟨hb.1, fun v => ?_⟩
  rw [List.mem_append, List.mem_singleton]
  constructor
  · intro h
    exact ⟨.inl ((hb.2 v).1 h).1, ((hb.2 v).1 h).2⟩
  · rintro ⟨h1 | rfl, h2⟩
    · exact (hb.2 v).2 ⟨h1, h2⟩
    · exact hu
theorem best_ins {L out : List Ub} {u : Ub} {j : Nat} (hb : IsBest L out) (hfit : ∀ x ∈ out, UbFit x) (hu : UbFit u) (h1 : ∀ i x, i < j → out[i]? = some x → ltU x u = true) (h2 : ∀ x, out[j]? = some x → ltU x u = false ∧ x ≠ u) :
    IsBest (L ++ [u]) (out.take j ++ u :: out.drop j) := by
  have hsplit : out.take j ++ out.drop j = out := List.take_append_drop j out
  have hp := hb.1
  rw [← hsplit, List.pairwise_append] at hp
  obtain ⟨hp1, hp2, hp3⟩ := hp
  have hlt : ∀ y ∈ out.drop j, ltU u y = true := by
    cases hd : out.drop j with
    | nil => intro y hy; cases hy
    | cons x0 t =>
      have hx : out[j]? = some x0 := by
        have : (out.drop j)[0]? = some x0 := by rw [hd]; rfl
        rwa [List.getElem?_drop, Nat.add_zero] at this
      have hx0 : ltU u x0 = true := ltU_of (h2 x0 hx).1 (fun e => (h2 x0 hx).2 (packU_inj (hfit x0 (List.mem_of_getElem? hx)) hu e.symm))
      rw [hd, List.pairwise_cons] at hp2
      intro y hy
      rcases List.mem_cons.1 hy with rfl | hy
      · exact hx0
      · exact ltU_trans _ _ _ hx0 (hp2.1 y hy)
  have hle : ∀ y ∈ out.take j, ltU y u = true := fun y hy => by
    obtain ⟨i, hi, he⟩ := List.getElem_of_mem hy
    rw [List.length_take] at hi
    refine h1 i y (by omega) ?_
    rw [List.getElem_take] at he
    rw [← he]; exact List.getElem?_eq_getElem _
  refine ⟨?_, fun v => ?_⟩
  · rw [List.pairwise_append, List.pairwise_cons]
    refine ⟨hp1, ⟨hlt, hp2⟩, fun a ha b hb => ?_⟩
    rcases List.mem_cons.1 hb with rfl | hb
    · exact hle a ha
    · exact hp3 a ha b hb
  · have hm : v ∈ out.take j ++ u :: out.drop j ↔ v = u ∨ v ∈ out := by
      rw [List.mem_append, List.mem_cons]
      constructor
      · rintro (h | rfl | h)
        · exact .inr (List.mem_of_mem_take h)
        · exact .inl rfl
        · exact .inr (List.mem_of_mem_drop h)
      · rintro (rfl | h)
        · exact .inr (.inl rfl)
        · rw [← hsplit, List.mem_append] at h
          rcases h with h | h
          · exact .inl h
          · exact .inr (.inr h)
    rw [hm, hb.2 v, List.mem_append, List.mem_singleton]
    constructor
    · rintro (rfl | h)
      · exact ⟨.inr rfl, hu.2.2⟩
      · exact ⟨.inl h.1, h.2⟩
    · rintro ⟨h | h, h3⟩
      · exact .inr ⟨h, h3⟩
      · exact .inl h
set_option maxHeartbeats 8000000 in
theorem rahead_any (w : World) (uv vv : Value) (U V : Ub) (hu : UbV w uv U) (hv : UbV w vv V) : Calls Tryz.prog 35 #[.agg (ubCs uv U).toArray, .agg (ubCs vv V).toArray] w (TherePost w (ltU U V)) := by
  obtain ⟨au, cu, hv_, -, -⟩ := hu.root.rd.form
  have hv2_ : uv = .slice au (U).root.addrs.length cu := hv_
  clear hv_
  subst hv2_
  have hlu := ubCs_len (v := .slice au (U).root.addrs.length cu) hu.root.sum hu.pool
  have HCu := Lib.hid (oneCell_ub (oa := au) (n := (U).root.addrs.length) (ca := cu) (U))
  have HUu := Lib.hid hu
  obtain ⟨lcu, hlcu⟩ : ∃ x, ubCs (.slice au (U).root.addrs.length cu) (U) = x := ⟨_, rfl⟩
  rw [hlcu] at hlu HCu
  try rw [hlcu]
  have HLCu := Lib.hid hlcu
  clear hlcu
  clear hu
  obtain ⟨av, cv, hv_, -, -⟩ := hv.root.rd.form
  have hv2_ : vv = .slice av (V).root.addrs.length cv := hv_
  clear hv_
  subst hv2_
  have hlv := ubCs_len (v := .slice av (V).root.addrs.length cv) hv.root.sum hv.pool
  have HCv := Lib.hid (oneCell_ub (oa := av) (n := (V).root.addrs.length) (ca := cv) (V))
  have HUv := Lib.hid hv
  obtain ⟨lcv, hlcv⟩ : ∃ x, ubCs (.slice av (V).root.addrs.length cv) (V) = x := ⟨_, rfl⟩
  rw [hlcv] at hlv HCv
  try rw [hlcv]
  have HLCv := Lib.hid hlcv
  clear hlcv
  clear hv
  obtain ⟨w1, hw1, k1, hb1, s1⟩ := alloc_facts w lcu.toArray 36
  obtain ⟨w2, hw2, k2, hb2, s2⟩ := alloc_facts w1 lcv.toArray 36
  have HBu := Lib.hid (k2.blk hb1 id); have HBv := Lib.hid hb2
  have HK := Lib.hid (k1.trans k2)
  have HUu := Lib.hid (HUu.out.keep HK.out fun _ _ => id); have HUv := Lib.hid (HUv.out.keep HK.out fun _ _ => id)
  have ctu := (ub_mem (o := 0) (u := U) HUu.out.root.sum (by rw [HLCu.out]; exact rangeAt_whole HBu.out)).1
  have ctv := (ub_mem (o := 0) (u := V) HUv.out.root.sum (by rw [HLCv.out]; exact rangeAt_whole HBv.out)).1
  obtain ⟨tu, htu⟩ : ∃ t, U.txg = t := ⟨_, rfl⟩
  obtain ⟨tv, htv⟩ : ∃ t, V.txg = t := ⟨_, rfl⟩
  rw [htu] at ctu; rw [htv] at ctv
  have HTu := Lib.hid htu; have HTv := Lib.hid htv
  clear k1 k2 hb1 hb2 s1 s2 htu htv
  by_cases ht : tu = tv
  · have hbn : (tu != tv) = false := by simpa using ht
    have hbe : (tu == tv) = true := by simpa using ht
    have HRES : Hid (ltU U V = byLt (packU U) (packU V)) := Lib.hid (by
      unfold ltU
      rw [HTu.out, HTv.out, hbe, decide_eq_false (by omega)]; rfl)
    rw [HRES.out]
    clear ht hbe
    go_enter Tryz.func35, Tryz.ntmps35
    go_wp2_with ((with_reducible show wpList _ _ _ (⟨_, .load 36 (.tmp 2), _, _, _, _⟩ :: _) _ _); refine wpList_load_mid rfl 36 (.tmp 2) rfl w.heap.size 0 rfl lcu _ (rangeAt_whole HBu.out) ubUnder rfl (sizeUbL hlu) ?_)
    refine (show Calls Tryz.prog 60 #[.agg lcu.toArray] w2 (UPackPost w2 U) from by rw [← HLCu.out]; exact rupack_any w2 _ U HUu.out).mono ?_
    rintro e w3 ⟨v3, rfl, ho3, hk3⟩
    have HUv := Lib.hid (HUv.out.keep hk3 fun _ _ => id); have HBv := Lib.hid (hk3.blk HBv.out id); have HK := Lib.hid (HK.out.trans hk3)
    have hr3 := Rd.of_owns ho3
    obtain ⟨a3, c3, hv3, -, -⟩ := hr3.form
    subst hv3
    have HR3 := Lib.hid hr3
    obtain ⟨n3, hn3⟩ : ∃ n, (packU U).length = n := ⟨_, rfl⟩
    have HN3 := Lib.hid hn3
    obtain ⟨e3, he3⟩ : ∃ x : Int, (if U.may = true then (0 : Int) else 2) = x := ⟨_, rfl⟩
    rw [hn3, he3]
    clear ho3 hk3 hr3 hn3 he3
    go_wp2_with ((with_reducible show wpList _ _ _ (⟨_, .load 36 (.tmp 3), _, _, _, _⟩ :: _) _ _); refine wpList_load_mid rfl 36 (.tmp 3) rfl w1.heap.size 0 rfl lcv _ (rangeAt_whole HBv.out) ubUnder rfl (sizeUbL hlv) ?_)
    refine (show Calls Tryz.prog 60 #[.agg lcv.toArray] w3 (UPackPost w3 V) from by rw [← HLCv.out]; exact rupack_any w3 _ V HUv.out).mono ?_
    rintro e w4 ⟨v4, rfl, ho4, hk4⟩
    have HK := Lib.hid (HK.out.trans hk4)
    have hr4 := Rd.of_owns ho4
    obtain ⟨a4, c4, hv4, -, -⟩ := hr4.form
    subst hv4
    obtain ⟨n4, hn4⟩ : ∃ n, (packU V).length = n := ⟨_, rfl⟩
    obtain ⟨e4, he4⟩ : ∃ x : Int, (if V.may = true then (0 : Int) else 2) = x := ⟨_, rfl⟩
    have hcv4 := conv_rd hr4
    have hcv3 := conv_rd (HR3.out.keep hk4 fun _ _ => id)
    have hlt := strB_less (packU U) (packU V)
    obtain ⟨st3, hs3⟩ : ∃ s, strB (packU U) = s := ⟨_, rfl⟩
    obtain ⟨st4, hs4⟩ : ∃ s, strB (packU V) = s := ⟨_, rfl⟩
    obtain ⟨bl, hbl⟩ : ∃ b, byLt (packU U) (packU V) = b := ⟨_, rfl⟩
    rw [hs3, HN3.out] at hcv3; rw [hs4, hn4] at hcv4; rw [hs3, hs4, hbl] at hlt
    rw [hn4, he4]
    have HBL := Lib.hid hbl
    clear ho4 hk4 hr4 hs3 hs4 hn4 he4 hbl
    go_wp2_with fail
    go_ret
    exact ⟨by rw [HBL.out]; rfl, HK.out⟩
  · have hbn : (tu != tv) = true := by simpa using ht
    have hbe : (tu == tv) = false := by simpa using ht
    have HRES : Hid (ltU U V = decide (tv < tu)) := Lib.hid (by
      unfold ltU
      rw [HTu.out, HTv.out, hbe, Bool.false_and, Bool.or_false])
    rw [HRES.out]
    clear ht hbe
    go_enter Tryz.func35, Tryz.ntmps35
    go_wp2_with fail
    go_ret
    exact ⟨rfl, HK.out⟩

end Go.Proofs.YtaiicjhnhbkgmaaGreatDoor
