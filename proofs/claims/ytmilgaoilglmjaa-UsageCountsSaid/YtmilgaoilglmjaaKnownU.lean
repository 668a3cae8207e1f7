/-
  SameInts, three, awake; UsageKnown: the chapter's examples are answered as it says.
  Conditions: none.
-/
import Derived.Test.YtmilgaoilglmjaaHoldU
import Derived.Test.YtmilgaoilglmjaaOfAddr
import Derived.Test.YtmilgaoilglmjaaSameAddr
namespace Go.Proofs.Ytmilgaoilglmjaa
open Go.RowKit Go.Maps Go.ChangeMaps
set_option maxRecDepth 100000
set_option linter.unusedVariables false

theorem yes_of {P : Program} {f : FuncId} {args : Array Value} {w : World} {b b' : Bool} (h : Calls P f args w fun e w' => e = .returned (.bool b) ∧ Keep noBlk w w') (hb : b = b') : Calls P f args w fun e w' => e = .returned (.bool b') ∧ Keep noBlk w w' := hb ▸ h
theorem canon_dec {e m : List Ad} (h1 : Rises e) (h2 : ∀ x ∈ e, x ∈ m) (h3 : ∀ x ∈ m, x ∈ e) : canon m = e := (canon_eq h1 fun x => ⟨h2 x, h3 x⟩).symm
instance (l : List Ad) : Decidable (Rises l) := by unfold Rises; infer_instance
instance (x : Int) : Decidable (In64 x) := by unfold In64; infer_instance
/-- The chapter's holders. -/
def hs3 : List (List Ad) := [[⟨0, 5⟩, ⟨1, 5⟩], [⟨1, 5⟩, ⟨1, 6⟩, ⟨1, 5⟩], []]
theorem ho3 : ∀ L ∈ hs3, AdsOk L := by
  have h : ∀ L ∈ hs3, ∀ x ∈ L, (0 ≤ x.1 ∧ x.1 ≤ 9) ∧ (0 ≤ x.2 ∧ x.2 ≤ 9) := by decide
  intro L hL x hx
  obtain ⟨⟨h1, h2⟩, h3, h4⟩ := h L hL x hx
  exact ⟨⟨by omega, by omega⟩, by omega, by omega⟩
theorem ok3 (p : Ad → Bool) : AdsOk (canon (hs3.flatten.filter p)) := adsOk_canon fun x hx => by
  obtain ⟨L, hL, h⟩ := List.mem_flatten.1 (List.mem_filter.1 hx).1
  exact ho3 L hL x h
theorem ok3' : AdsOk (canon hs3.flatten) := adsOk_canon fun x hx => by
  obtain ⟨L, hL, h⟩ := List.mem_flatten.1 hx
  exact ho3 L hL x h
def ThreePost (w : World) (e : Ending) (w' : World) : Prop := ∃ p, e = .returned (.slice (some ⟨p, 0, none⟩) 3 3) ∧ Rows2 w' (.slice (some ⟨p, 0, none⟩) 3 3) hs3 ∧ Keep noBlk w w'
theorem refd {P : Program} {f : FuncId} {args : Array Value} {w : World} {m e : List Ad} {c : Int} (h : Calls P f args w (RefPost w (canon m).length)) (he : canon m = e) (hc : (e.length : Int) = c) : Calls P f args w fun e w' => e = .returned (.int .i64 c) ∧ Keep noBlk w w' := by
  rw [he] at h
  subst hc
  exact h

set_option maxHeartbeats 4000000 in
theorem sameInts_any (w : World) (v v2 : Value) (l m : List Int) (hl : Rd w 1 v l.length (l.map fun x => .int .i64 x)) (hm : Rd w 1 v2 m.length (m.map fun x => .int .i64 x)) : Calls Try.prog 24 #[v, v2] w (TherePost w (decide (l = m))) := by
  obtain ⟨la, lc, rfl, -, -⟩ := hl.form
  obtain ⟨ma, mc, rfl, -, -⟩ := hm.form
  have hlx : l.length ≤ maxLen := by obtain ⟨_, a', c', h1, h2, h3, -⟩ := hl; omega
  unfold maxLen at hlx
  obtain ⟨bb, hbb⟩ : ∃ b, decide (l = m) = b := ⟨_, rfl⟩
  have HBB := Lib.hid hbb
  rw [hbb]
  clear hbb
  obtain ⟨n, hn⟩ : ∃ n, l.length = n := ⟨_, rfl⟩
  obtain ⟨q, hq⟩ : ∃ n, m.length = n := ⟨_, rfl⟩
  have HL := Lib.hid hl; have HM := Lib.hid hm; have HN := Lib.hid hn; have HQ := Lib.hid hq
  rw [hn] at HL hlx ⊢
  rw [hq] at HM ⊢
  clear hl hm hn hq
  by_cases hne : n = q
  · subst hne
    go_enter Try.func24, Try.ntmps24
    go_wp2_with fail
    go_loopw [5] (fun t wr => ∃ k : Nat, k ≤ n ∧ t = .int .i64 k ∧ Hid (l.take k = m.take k) ∧ Hid (Keep noBlk w wr)) (fun t _ => n - (intOf t).toNat)
    case atStart => exact ⟨0, Nat.zero_le _, rfl, Lib.hid (by simp), Lib.hid (Keep.refl _ _)⟩
    case round =>
    obtain ⟨k, hk, rfl, HT, HK⟩ := hrel
    by_cases hlt : k < n
    · have hki : (k : Int) < (n : Int) := by omega
      have hk0 : (0 : Int) ≤ (k : Int) := by omega
      obtain ⟨x, hx⟩ : ∃ x, l[k]? = some x := ⟨l[k]'(by rw [HN.out]; exact hlt), List.getElem?_eq_getElem _⟩
      obtain ⟨y, hy⟩ : ∃ x, m[k]? = some x := ⟨m[k]'(by rw [HQ.out]; exact hlt), List.getElem?_eq_getElem _⟩
      have hr := HL.out.keep HK.out fun _ _ => id
      rw [← HN.out] at hr
      obtain ⟨p, o, cap, hv, hc⟩ := rd_int hr hx
      rw [HN.out] at hv
      have e1 : la = some ⟨p, o, none⟩ := by cases hv; rfl
      subst e1
      have hr2 := HM.out.keep HK.out fun _ _ => id
      rw [← HQ.out] at hr2
      obtain ⟨p2, o2, cap2, hv2, hc2⟩ := rd_int hr2 hy
      rw [HQ.out] at hv2
      have e1 : ma = some ⟨p2, o2, none⟩ := by cases hv2; rfl
      subst e1
      have HX := Lib.hid hx; have HY := Lib.hid hy
      obtain ⟨bi, hbi⟩ : ∃ b, (x != y) = b := ⟨_, rfl⟩
      have HBI := Lib.hid hbi
      clear hr hr2 hv hv2 hx hy hbi
      go_wp2_with fail
      obtain ⟨S, hS0⟩ : ∃ S : World → Prop, S = fun w' => Keep noBlk wr w' := ⟨_, rfl⟩
      have HSE := Lib.hid (show ∀ w', S w' → Keep noBlk wr w' from fun w' h => by rw [hS0] at h; exact h)
      have HSI := Lib.hid (show ∀ w', Keep noBlk wr w' → S w' from fun w' h => by rw [hS0]; exact h)
      have hS : S wr.drew := by rw [hS0]; exact (Keep.refl _ _).drew
      clear hS0
      refine wp_region_held (S := S) (by kernel_rfl) ?_
      change wpAnyH _ _ _ _ _ _ _ _ wr.drew
      generalize wr.drew = wq41 at hS ⊢
      refine wpAnyH_take (i := 0) (v := .slice (some ⟨p, o, none⟩) n lc) rfl (by kernel_rfl) (by kernel_rfl) (by kernel_rfl) (fun _ _ _ h => h) (.inl ⟨by rfl, fun _ _ => rfl⟩) hS ?_
      simp only [Act.put, List.setIfInBounds_toArray, List.set_cons_zero, List.set_cons_succ, List.getElem_toArray, List.getElem_cons_zero]
      refine wpAnyH_take (i := 1) (v := .int .i64 (k : Int)) rfl (by kernel_rfl) (by kernel_rfl) (by kernel_rfl) (fun _ _ _ h => h) (.inl ⟨by rfl, fun _ _ => rfl⟩) hS ?_
      simp only [Act.put, List.setIfInBounds_toArray, List.set_cons_zero, List.set_cons_succ, List.getElem_toArray, List.getElem_cons_succ, List.getElem_cons_zero]
      refine wpAnyH_take (i := 2) (v := .pointer (some ⟨p, o + k, none⟩)) rfl (by kernel_rfl) (by kernel_rfl) (by kernel_rfl) (fun _ _ _ h => h) (.inl ⟨by rfl, fun _ _ => by go_simp⟩) hS ?_
      simp only [Act.put, List.setIfInBounds_toArray, List.set_cons_zero, List.set_cons_succ, List.getElem_toArray, List.getElem_cons_succ, List.getElem_cons_zero]
      refine wpAnyH_take (i := 3) (v := .int .i64 x) rfl (by kernel_rfl) (by kernel_rfl) (by kernel_rfl) (fun _ _ _ h => h) (.inl ⟨by rfl, fun w' hw' => by have c := (HSE.out w' hw').cell hc id; go_simp⟩) hS ?_
      simp only [Act.put, List.setIfInBounds_toArray, List.set_cons_zero, List.set_cons_succ, List.getElem_toArray, List.getElem_cons_succ, List.getElem_cons_zero]
      refine wpAnyH_take (i := 4) (v := .slice (some ⟨p2, o2, none⟩) n mc) rfl (by kernel_rfl) (by kernel_rfl) (by kernel_rfl) (fun _ _ _ h => h) (.inl ⟨by rfl, fun _ _ => rfl⟩) hS ?_
      simp only [Act.put, List.setIfInBounds_toArray, List.set_cons_zero, List.set_cons_succ, List.getElem_toArray, List.getElem_cons_succ, List.getElem_cons_zero]
      refine wpAnyH_take (i := 5) (v := .int .i64 (k : Int)) rfl (by kernel_rfl) (by kernel_rfl) (by kernel_rfl) (fun _ _ _ h => h) (.inl ⟨by rfl, fun _ _ => rfl⟩) hS ?_
      simp only [Act.put, List.setIfInBounds_toArray, List.set_cons_zero, List.set_cons_succ, List.getElem_toArray, List.getElem_cons_succ, List.getElem_cons_zero]
      refine wpAnyH_take (i := 6) (v := .pointer (some ⟨p2, o2 + k, none⟩)) rfl (by kernel_rfl) (by kernel_rfl) (by kernel_rfl) (fun _ _ _ h => h) (.inl ⟨by rfl, fun _ _ => by go_simp⟩) hS ?_
      simp only [Act.put, List.setIfInBounds_toArray, List.set_cons_zero, List.set_cons_succ, List.getElem_toArray, List.getElem_cons_succ, List.getElem_cons_zero]
      refine wpAnyH_take (i := 7) (v := .int .i64 y) rfl (by kernel_rfl) (by kernel_rfl) (by kernel_rfl) (fun _ _ _ h => h) (.inl ⟨by rfl, fun w' hw' => by have c := (HSE.out w' hw').cell hc2 id; go_simp⟩) hS ?_
      simp only [Act.put, List.setIfInBounds_toArray, List.set_cons_zero, List.set_cons_succ, List.getElem_toArray, List.getElem_cons_succ, List.getElem_cons_zero]
      refine wpAnyH_take (i := 8) (v := .bool bi) rfl (by kernel_rfl) (by kernel_rfl) (by kernel_rfl) (fun _ _ _ h => h) (.inl ⟨by rfl, fun _ _ => by have e := HBI.out; subst e; go_simp⟩) hS ?_
      simp only [Act.put, List.setIfInBounds_toArray, List.set_cons_zero, List.set_cons_succ, List.getElem_toArray, List.getElem_cons_succ, List.getElem_cons_zero]
      refine wpAnyH_done (by kernel_rfl) ?_ _
      have HKR := Lib.hid (HSE.out _ hS)
      clear hS HSE HSI
      have HK := Lib.hid (HK.out.trans HKR.out)
      clear HKR hc hc2
      cases bi
      · have e : x = y := by simpa using HBI.out
        have HTE : Hid (l.take (k + 1) = m.take (k + 1)) := Lib.hid (by rw [List.take_add_one, List.take_add_one, HT.out, HX.out, HY.out, e])
        go_wp2_with fail
        go_roundw
        case rel => exact ⟨k + 1, by omega, by go_num, HTE, HK⟩
        case measure => simp [intOf]; omega
      · have e : x ≠ y := by simpa using HBI.out
        have hb : bb = false := by
          rw [← HBB.out]
          refine decide_eq_false fun e2 => e ?_
          have h := HX.out
          rw [e2, HY.out] at h
          exact (Option.some.inj h).symm
        subst hb
        go_wp2_with fail
        go_ret
        exact ⟨rfl, HK.out⟩
    · obtain rfl : k = n := by omega
      have hb : bb = true := by
        rw [← HBB.out]
        have h := HT.out
        rw [List.take_of_length_le (by rw [HN.out]; exact Nat.le_refl _), List.take_of_length_le (by rw [HQ.out]; exact Nat.le_refl _)] at h
        exact decide_eq_true h
      subst hb
      go_wp2_with fail
      go_ret
      exact ⟨rfl, HK.out⟩
  · have hd : decide ((n : Int) = (q : Int)) = false := decide_eq_false (by omega)
    have hni : (n : Int) ≠ (q : Int) := by omega
    have hb1 : ((n : Int) != (q : Int)) = true := bne_iff_ne.2 hni
    have hb2 : ((n : Int) == (q : Int)) = false := beq_false_of_ne hni
    have hb : bb = false := by rw [← HBB.out]; exact decide_eq_false fun e => hne (by rw [← HN.out, ← HQ.out, e])
    subst hb
    go_enter Try.func24, Try.ntmps24
    go_wp2_with fail
    go_ret
    exact ⟨rfl, Keep.refl _ _⟩

set_option maxHeartbeats 4000000 in
theorem three_any (w : World) : Calls Try.prog 28 #[] w (ThreePost w) := by
  have HK := Lib.hid (Keep.refl noBlk w)
  go_enter Try.func28, Try.ntmps28
  go_wp2_with fail
  refine (lawof_any _ _ [0, 5, 1, 5] (rd_blk (n := 4) (size := 1) (heap_alloc_new _ _) rfl (by unfold maxLen; omega)) (by decide)).mono ?_
  rintro e w1 ⟨v, rfl, ho2, hk1⟩
  have hk2 : Keep noBlk w w1 := ((Keep.refl noBlk w).alloc _).trans hk1
  clear hk1
  have HK := Lib.hid (HK.out.trans hk2)
  obtain ⟨La, hLa⟩ : ∃ l : List Ad, pairs [0, 5, 1, 5] = l := ⟨_, rfl⟩
  have HELa := Lib.hid hLa
  have HALa : Hid (AdsOk La) := Lib.hid (by rw [← hLa]; exact (fun x hx => by simp only [pairs, List.mem_cons, List.not_mem_nil, or_false] at hx; rcases hx with rfl | rfl <;> exact ⟨⟨by decide, by decide⟩, by decide, by decide⟩))
  rw [hLa] at ho2
  clear hLa
  obtain ⟨na, hna⟩ : ∃ k, La.length = k := ⟨_, rfl⟩
  have HNLa := Lib.hid hna
  rw [hna] at ho2
  obtain ⟨aLa, cLa, hvLa, -, -⟩ := (Rd.of_owns ho2).form
  subst hvLa
  have HRLa := Lib.hid (Rd.of_owns ho2)
  clear ho2 hk2 hna
  go_wp2_with fail
  refine (lawof_any _ _ [1, 5, 1, 6, 1, 5] (rd_blk (n := 6) (size := 1) (heap_alloc_new _ _) rfl (by unfold maxLen; omega)) (by decide)).mono ?_
  rintro e w2 ⟨v, rfl, ho2, hk1⟩
  have hk2 : Keep noBlk w1 w2 := ((Keep.refl noBlk w1).alloc _).trans hk1
  clear hk1
  have HK := Lib.hid (HK.out.trans hk2)
  have HRLa := Lib.hid (HRLa.out.keep hk2 fun _ _ => id)
  obtain ⟨Lb, hLb⟩ : ∃ l : List Ad, pairs [1, 5, 1, 6, 1, 5] = l := ⟨_, rfl⟩
  have HELb := Lib.hid hLb
  have HALb : Hid (AdsOk Lb) := Lib.hid (by rw [← hLb]; exact (fun x hx => by simp only [pairs, List.mem_cons, List.not_mem_nil, or_false] at hx; rcases hx with rfl | rfl | rfl <;> exact ⟨⟨by decide, by decide⟩, by decide, by decide⟩))
  rw [hLb] at ho2
  clear hLb
  obtain ⟨nb, hnb⟩ : ∃ k, Lb.length = k := ⟨_, rfl⟩
  have HNLb := Lib.hid hnb
  rw [hnb] at ho2
  obtain ⟨aLb, cLb, hvLb, -, -⟩ := (Rd.of_owns ho2).form
  subst hvLb
  have HRLb := Lib.hid (Rd.of_owns ho2)
  clear ho2 hk2 hnb
  obtain ⟨w8, hw8, hk8, hb8, hs8⟩ := alloc_facts w2 #[.slice aLa na cLa, .slice aLb nb cLb, .slice none 0 0] 30
  have HB8 := Lib.hid hb8; have HKF := Lib.hid (HK.out.trans hk8)
  have HRA := Lib.hid (HRLa.out.keep hk8 fun _ _ => id); have HRB := Lib.hid (HRLb.out.keep hk8 fun _ _ => id)
  have hea : [⟨0, 5⟩, ⟨1, 5⟩] = La := HELa.out
  have heb : [⟨1, 5⟩, ⟨1, 6⟩, ⟨1, 5⟩] = Lb := HELb.out
  subst hea heb
  have hna : 2 = na := HNLa.out
  have hnb : 3 = nb := HNLb.out
  subst hna hnb
  clear hb8 hs8 hk8 HRLa HRLb
  go_wp2_with fail
  go_ret
  refine ⟨_, rfl, ⟨[.slice aLa 2 cLa, .slice aLb 3 cLb, .slice none 0 0], rd_blk (n := 3) (size := 1) HB8.out rfl (by unfold maxLen; omega), fun i L hi => ?_⟩, HKF.out⟩
  rcases i with _ | _ | _ | i
  · have e : [⟨0, 5⟩, ⟨1, 5⟩] = L := Option.some.inj hi
    subst e
    exact ⟨_, rfl, HRA.out⟩
  · have e : [⟨1, 5⟩, ⟨1, 6⟩, ⟨1, 5⟩] = L := Option.some.inj hi
    subst e
    exact ⟨_, rfl, HRB.out⟩
  · have e : [] = L := Option.some.inj hi
    subst e
    exact ⟨_, rfl, Rd.nil _ _⟩
  · cases hi

set_option maxHeartbeats 8000000 in
theorem awakeU_any (w : World) : Calls Try.prog 8 #[] w (TherePost w true) := by
  have HK := Lib.hid (Keep.refl noBlk w)
  go_enter Try.func8, Try.ntmps8
  go_wp2_with fail
  refine (three_any _).mono ?_
  rintro e w3 ⟨p3, rfl, hr3, hk⟩
  have HR3 := Lib.hid hr3; have HK := Lib.hid (HK.out.trans hk)
  clear hr3 hk
  go_wp2_with fail
  refine (refd (referenced_any _ (.slice (some ⟨p3, 0, none⟩) 3 3) hs3 1 ho3 HR3.out (by decide) (by decide)) (show _ = ([⟨1, 5⟩, ⟨1, 6⟩] : List Ad) from (canon_dec (by decide +kernel) (by decide +kernel) (by decide +kernel))) rfl).mono ?_
  rintro e w4 ⟨rfl, hk⟩
  have HK := Lib.hid (HK.out.trans hk)
  have HR3 := Lib.hid (HR3.out.keep hk)
  clear hk
  go_wp2_with fail
  refine (unique_any _ (.slice (some ⟨p3, 0, none⟩) 3 3) hs3 0 (by decide) ho3 HR3.out (by decide) (by decide)).mono ?_
  rintro e w5 ⟨v, rfl, ho2, hk1⟩
  have hk2 := hk1
  clear hk1
  have HK := Lib.hid (HK.out.trans hk2)
  have HR3 := Lib.hid (HR3.out.keep hk2)
  obtain ⟨La, hLa⟩ : ∃ l : List Ad, canon (hs3.flatten.filter fun a => subB (hw hs3 a) (wordOf hs3.length [0])) = l := ⟨_, rfl⟩
  have HELa := Lib.hid hLa
  have HALa : Hid (AdsOk La) := Lib.hid (by rw [← hLa]; exact (ok3 _))
  rw [hLa] at ho2
  clear hLa
  obtain ⟨nLa, hnLa⟩ : ∃ k, La.length = k := ⟨_, rfl⟩
  have HNLa := Lib.hid hnLa
  rw [hnLa] at ho2
  obtain ⟨aLa, cLa, hvLa, -, -⟩ := (Rd.of_owns ho2).form
  subst hvLa
  have HRLa := Lib.hid (Rd.of_owns ho2)
  clear ho2 hk2 hnLa
  go_wp2_with fail
  refine (lawof_any _ _ [0, 5] (rd_blk (n := 2) (size := 1) (heap_alloc_new _ _) rfl (by unfold maxLen; omega)) (by decide)).mono ?_
  rintro e w6 ⟨v, rfl, ho2, hk1⟩
  have hk2 : Keep noBlk w5 w6 := ((Keep.refl noBlk w5).alloc _).trans hk1
  clear hk1
  have HK := Lib.hid (HK.out.trans hk2)
  have HR3 := Lib.hid (HR3.out.keep hk2)
  have HRLa := Lib.hid (HRLa.out.keep hk2 fun _ _ => id)
  obtain ⟨Lae, hLae⟩ : ∃ l : List Ad, pairs [0, 5] = l := ⟨_, rfl⟩
  have HELae := Lib.hid hLae
  have HALae : Hid (AdsOk Lae) := Lib.hid (by rw [← hLae]; exact (fun x hx => by simp only [pairs, List.mem_cons, List.not_mem_nil, or_false] at hx; rcases hx with rfl <;> exact ⟨⟨by decide, by decide⟩, by decide, by decide⟩))
  rw [hLae] at ho2
  clear hLae
  obtain ⟨nLae, hnLae⟩ : ∃ k, Lae.length = k := ⟨_, rfl⟩
  have HNLae := Lib.hid hnLae
  rw [hnLae] at ho2
  obtain ⟨aLae, cLae, hvLae, -, -⟩ := (Rd.of_owns ho2).form
  subst hvLae
  have HRLae := Lib.hid (Rd.of_owns ho2)
  clear ho2 hk2 hnLae
  go_wp2_with fail
  refine (same_any _ _ _ La Lae (by rw [HNLa.out]; exact HRLa.out) (by rw [HNLae.out]; exact HRLae.out) true (decide_eq_true (by rw [← HELa.out, ← HELae.out]; exact (canon_dec (by decide +kernel) (by decide +kernel) (by decide +kernel))))).mono ?_
  rintro e w7 ⟨rfl, hk⟩
  have HK := Lib.hid (HK.out.trans hk)
  have HR3 := Lib.hid (HR3.out.keep hk)
  have HRLa := Lib.hid (HRLa.out.keep hk fun _ _ => id)
  have HRLae := Lib.hid (HRLae.out.keep hk fun _ _ => id)
  clear hk
  go_wp2_with fail
  clear HRLa HRLae
  refine (all_any _ (.slice (some ⟨p3, 0, none⟩) 3 3) hs3 ho3 HR3.out (by decide) (by decide)).mono ?_
  rintro e w8 ⟨v, rfl, ho2, hk1⟩
  have hk2 := hk1
  clear hk1
  have HK := Lib.hid (HK.out.trans hk2)
  have HR3 := Lib.hid (HR3.out.keep hk2)
  obtain ⟨Lb, hLb⟩ : ∃ l : List Ad, canon hs3.flatten = l := ⟨_, rfl⟩
  have HELb := Lib.hid hLb
  have HALb : Hid (AdsOk Lb) := Lib.hid (by rw [← hLb]; exact ok3')
  rw [hLb] at ho2
  clear hLb
  obtain ⟨nLb, hnLb⟩ : ∃ k, Lb.length = k := ⟨_, rfl⟩
  have HNLb := Lib.hid hnLb
  rw [hnLb] at ho2
  obtain ⟨aLb, cLb, hvLb, -, -⟩ := (Rd.of_owns ho2).form
  subst hvLb
  have HRLb := Lib.hid (Rd.of_owns ho2)
  clear ho2 hk2 hnLb
  go_wp2_with fail
  refine (lawof_any _ _ [0, 5, 1, 5, 1, 6] (rd_blk (n := 6) (size := 1) (heap_alloc_new _ _) rfl (by unfold maxLen; omega)) (by decide)).mono ?_
  rintro e w9 ⟨v, rfl, ho2, hk1⟩
  have hk2 : Keep noBlk w8 w9 := ((Keep.refl noBlk w8).alloc _).trans hk1
  clear hk1
  have HK := Lib.hid (HK.out.trans hk2)
  have HR3 := Lib.hid (HR3.out.keep hk2)
  have HRLb := Lib.hid (HRLb.out.keep hk2 fun _ _ => id)
  obtain ⟨Lbe, hLbe⟩ : ∃ l : List Ad, pairs [0, 5, 1, 5, 1, 6] = l := ⟨_, rfl⟩
  have HELbe := Lib.hid hLbe
  have HALbe : Hid (AdsOk Lbe) := Lib.hid (by rw [← hLbe]; exact (fun x hx => by simp only [pairs, List.mem_cons, List.not_mem_nil, or_false] at hx; rcases hx with rfl | rfl | rfl <;> exact ⟨⟨by decide, by decide⟩, by decide, by decide⟩))
  rw [hLbe] at ho2
  clear hLbe
  obtain ⟨nLbe, hnLbe⟩ : ∃ k, Lbe.length = k := ⟨_, rfl⟩
  have HNLbe := Lib.hid hnLbe
  rw [hnLbe] at ho2
  obtain ⟨aLbe, cLbe, hvLbe, -, -⟩ := (Rd.of_owns ho2).form
  subst hvLbe
  have HRLbe := Lib.hid (Rd.of_owns ho2)
  clear ho2 hk2 hnLbe
  go_wp2_with fail
  refine (same_any _ _ _ Lb Lbe (by rw [HNLb.out]; exact HRLb.out) (by rw [HNLbe.out]; exact HRLbe.out) true (decide_eq_true (by rw [← HELb.out, ← HELbe.out]; exact (canon_dec (by decide +kernel) (by decide +kernel) (by decide +kernel))))).mono ?_
  rintro e wa ⟨rfl, hk⟩
  have HK := Lib.hid (HK.out.trans hk)
  have HR3 := Lib.hid (HR3.out.keep hk)
  have HRLb := Lib.hid (HRLb.out.keep hk fun _ _ => id)
  have HRLbe := Lib.hid (HRLbe.out.keep hk fun _ _ => id)
  clear hk
  go_wp2_with fail
  clear HRLb HRLbe
  refine (holders_any _ (.slice (some ⟨p3, 0, none⟩) 3 3) hs3 ⟨1, 5⟩ ⟨⟨by decide, by decide⟩, by decide, by decide⟩ ho3 HR3.out (by decide)).mono ?_
  rintro e wb ⟨v, rfl, ho2, hk2⟩
  have HK := Lib.hid (HK.out.trans hk2)
  have HR3 := Lib.hid (HR3.out.keep hk2)
  have hlen : hoL hs3 ⟨1, 5⟩ hs3.length = [0, 1] := by decide +kernel
  rw [hlen] at ho2
  obtain ⟨a2, c2, rfl, -, -⟩ := (Rd.of_owns ho2).form
  have HRI := Lib.hid (Rd.of_owns ho2)
  clear ho2 hk2 hlen
  go_wp2_with fail
  refine (sameInts_any _ _ _ [0, 1] [0, 1] (HRI.out.keep ((Keep.refl _ _).alloc _) fun _ _ => id) (rd_blk (n := 2) (size := 1) (vs := [.int .i64 0, .int .i64 1]) (heap_alloc_new _ _) rfl (by unfold maxLen; omega))).mono ?_
  rintro e wf ⟨rfl, hk1⟩
  have hk2 : Keep noBlk wb wf := ((Keep.refl noBlk wb).alloc _).trans hk1
  have HK := Lib.hid (HK.out.trans hk2)
  clear hk1 hk2
  go_wp2_with fail
  go_ret
  exact ⟨rfl, HK.out⟩

set_option maxHeartbeats 8000000 in
theorem usageKnown_walk (w : World) : Calls Try.prog 4 #[] w (TherePost w true) := by
  have HK := Lib.hid (Keep.refl noBlk w)
  go_enter Try.func4, Try.ntmps4
  go_wp2_with fail
  refine (three_any _).mono ?_
  rintro e w3 ⟨p3, rfl, hr3, hk⟩
  have HR3 := Lib.hid hr3; have HK := Lib.hid (HK.out.trans hk)
  clear hr3 hk
  go_wp2_with fail
  refine (refd (referenced_any _ (.slice (some ⟨p3, 0, none⟩) 3 3) hs3 0 ho3 HR3.out (by decide) (by decide)) (show _ = ([⟨0, 5⟩, ⟨1, 5⟩] : List Ad) from (canon_dec (by decide +kernel) (by decide +kernel) (by decide +kernel))) rfl).mono ?_
  rintro e w4 ⟨rfl, hk⟩
  have HK := Lib.hid (HK.out.trans hk)
  have HR3 := Lib.hid (HR3.out.keep hk)
  clear hk
  go_wp2_with fail
  refine (refd (referenced_any _ (.slice (some ⟨p3, 0, none⟩) 3 3) hs3 2 ho3 HR3.out (by decide) (by decide)) (show _ = ([] : List Ad) from (canon_dec (by decide +kernel) (by decide +kernel) (by decide +kernel))) rfl).mono ?_
  rintro e w5 ⟨rfl, hk⟩
  have HK := Lib.hid (HK.out.trans hk)
  have HR3 := Lib.hid (HR3.out.keep hk)
  clear hk
  go_wp2_with fail
  refine (refd (referenced_any _ (.slice (some ⟨p3, 0, none⟩) 3 3) hs3 3 ho3 HR3.out (by decide) (by decide)) (show _ = ([] : List Ad) from (canon_dec (by decide +kernel) (by decide +kernel) (by decide +kernel))) rfl).mono ?_
  rintro e w6 ⟨rfl, hk⟩
  have HK := Lib.hid (HK.out.trans hk)
  have HR3 := Lib.hid (HR3.out.keep hk)
  clear hk
  go_wp2_with fail
  refine (unique_any _ (.slice (some ⟨p3, 0, none⟩) 3 3) hs3 1 (by decide) ho3 HR3.out (by decide) (by decide)).mono ?_
  rintro e w7 ⟨v, rfl, ho2, hk1⟩
  have hk2 := hk1
  clear hk1
  have HK := Lib.hid (HK.out.trans hk2)
  have HR3 := Lib.hid (HR3.out.keep hk2)
  obtain ⟨La, hLa⟩ : ∃ l : List Ad, canon (hs3.flatten.filter fun a => subB (hw hs3 a) (wordOf hs3.length [1])) = l := ⟨_, rfl⟩
  have HELa := Lib.hid hLa
  have HALa : Hid (AdsOk La) := Lib.hid (by rw [← hLa]; exact (ok3 _))
  rw [hLa] at ho2
  clear hLa
  obtain ⟨nLa, hnLa⟩ : ∃ k, La.length = k := ⟨_, rfl⟩
  have HNLa := Lib.hid hnLa
  rw [hnLa] at ho2
  obtain ⟨aLa, cLa, hvLa, -, -⟩ := (Rd.of_owns ho2).form
  subst hvLa
  have HRLa := Lib.hid (Rd.of_owns ho2)
  clear ho2 hk2 hnLa
  go_wp2_with fail
  refine (lawof_any _ _ [1, 6] (rd_blk (n := 2) (size := 1) (heap_alloc_new _ _) rfl (by unfold maxLen; omega)) (by decide)).mono ?_
  rintro e w8 ⟨v, rfl, ho2, hk1⟩
  have hk2 : Keep noBlk w7 w8 := ((Keep.refl noBlk w7).alloc _).trans hk1
  clear hk1
  have HK := Lib.hid (HK.out.trans hk2)
  have HR3 := Lib.hid (HR3.out.keep hk2)
  have HRLa := Lib.hid (HRLa.out.keep hk2 fun _ _ => id)
  obtain ⟨Lae, hLae⟩ : ∃ l : List Ad, pairs [1, 6] = l := ⟨_, rfl⟩
  have HELae := Lib.hid hLae
  have HALae : Hid (AdsOk Lae) := Lib.hid (by rw [← hLae]; exact (fun x hx => by simp only [pairs, List.mem_cons, List.not_mem_nil, or_false] at hx; rcases hx with rfl <;> exact ⟨⟨by decide, by decide⟩, by decide, by decide⟩))
  rw [hLae] at ho2
  clear hLae
  obtain ⟨nLae, hnLae⟩ : ∃ k, Lae.length = k := ⟨_, rfl⟩
  have HNLae := Lib.hid hnLae
  rw [hnLae] at ho2
  obtain ⟨aLae, cLae, hvLae, -, -⟩ := (Rd.of_owns ho2).form
  subst hvLae
  have HRLae := Lib.hid (Rd.of_owns ho2)
  clear ho2 hk2 hnLae
  go_wp2_with fail
  refine (same_any _ _ _ La Lae (by rw [HNLa.out]; exact HRLa.out) (by rw [HNLae.out]; exact HRLae.out) true (decide_eq_true (by rw [← HELa.out, ← HELae.out]; exact (canon_dec (by decide +kernel) (by decide +kernel) (by decide +kernel))))).mono ?_
  rintro e w9 ⟨rfl, hk⟩
  have HK := Lib.hid (HK.out.trans hk)
  have HR3 := Lib.hid (HR3.out.keep hk)
  have HRLa := Lib.hid (HRLa.out.keep hk fun _ _ => id)
  have HRLae := Lib.hid (HRLae.out.keep hk fun _ _ => id)
  clear hk
  go_wp2_with fail
  clear HRLa HRLae
  refine (freed_any _ (.slice (some ⟨p3, 0, none⟩) 3 3) _ hs3 [0] ho3 (HR3.out.keep ((Keep.refl _ _).alloc _)) (by decide) (by decide) (rd_blk (n := 1) (size := 1) (vs := [.int .i64 0]) (heap_alloc_new _ _) rfl (by unfold maxLen; omega)) (by decide)).mono ?_
  rintro e wa ⟨v, rfl, ho2, hk1⟩
  have hk2 : Keep noBlk w9 wa := ((Keep.refl noBlk w9).alloc _).trans hk1
  clear hk1
  have HK := Lib.hid (HK.out.trans hk2)
  have HR3 := Lib.hid (HR3.out.keep hk2)
  obtain ⟨Lb, hLb⟩ : ∃ l : List Ad, canon (hs3.flatten.filter fun a => subB (hw hs3 a) (wordOf hs3.length [0])) = l := ⟨_, rfl⟩
  have HELb := Lib.hid hLb
  have HALb : Hid (AdsOk Lb) := Lib.hid (by rw [← hLb]; exact (ok3 _))
  rw [hLb] at ho2
  clear hLb
  obtain ⟨nLb, hnLb⟩ : ∃ k, Lb.length = k := ⟨_, rfl⟩
  have HNLb := Lib.hid hnLb
  rw [hnLb] at ho2
  obtain ⟨aLb, cLb, hvLb, -, -⟩ := (Rd.of_owns ho2).form
  subst hvLb
  have HRLb := Lib.hid (Rd.of_owns ho2)
  clear ho2 hk2 hnLb
  go_wp2_with fail
  refine (lawof_any _ _ [0, 5] (rd_blk (n := 2) (size := 1) (heap_alloc_new _ _) rfl (by unfold maxLen; omega)) (by decide)).mono ?_
  rintro e wb ⟨v, rfl, ho2, hk1⟩
  have hk2 : Keep noBlk wa wb := ((Keep.refl noBlk wa).alloc _).trans hk1
  clear hk1
  have HK := Lib.hid (HK.out.trans hk2)
  have HR3 := Lib.hid (HR3.out.keep hk2)
  have HRLb := Lib.hid (HRLb.out.keep hk2 fun _ _ => id)
  obtain ⟨Lbe, hLbe⟩ : ∃ l : List Ad, pairs [0, 5] = l := ⟨_, rfl⟩
  have HELbe := Lib.hid hLbe
  have HALbe : Hid (AdsOk Lbe) := Lib.hid (by rw [← hLbe]; exact (fun x hx => by simp only [pairs, List.mem_cons, List.not_mem_nil, or_false] at hx; rcases hx with rfl <;> exact ⟨⟨by decide, by decide⟩, by decide, by decide⟩))
  rw [hLbe] at ho2
  clear hLbe
  obtain ⟨nLbe, hnLbe⟩ : ∃ k, Lbe.length = k := ⟨_, rfl⟩
  have HNLbe := Lib.hid hnLbe
  rw [hnLbe] at ho2
  obtain ⟨aLbe, cLbe, hvLbe, -, -⟩ := (Rd.of_owns ho2).form
  subst hvLbe
  have HRLbe := Lib.hid (Rd.of_owns ho2)
  clear ho2 hk2 hnLbe
  go_wp2_with fail
  refine (same_any _ _ _ Lb Lbe (by rw [HNLb.out]; exact HRLb.out) (by rw [HNLbe.out]; exact HRLbe.out) true (decide_eq_true (by rw [← HELb.out, ← HELbe.out]; exact (canon_dec (by decide +kernel) (by decide +kernel) (by decide +kernel))))).mono ?_
  rintro e wc ⟨rfl, hk⟩
  have HK := Lib.hid (HK.out.trans hk)
  have HR3 := Lib.hid (HR3.out.keep hk)
  have HRLb := Lib.hid (HRLb.out.keep hk fun _ _ => id)
  have HRLbe := Lib.hid (HRLbe.out.keep hk fun _ _ => id)
  clear hk
  go_wp2_with fail
  clear HRLb HRLbe
  refine (freed_any _ (.slice (some ⟨p3, 0, none⟩) 3 3) _ hs3 [0, 1, 7] ho3 (HR3.out.keep ((Keep.refl _ _).alloc _)) (by decide) (by decide) (rd_blk (n := 3) (size := 1) (vs := [.int .i64 0, .int .i64 1, .int .i64 7]) (heap_alloc_new _ _) rfl (by unfold maxLen; omega)) (by decide)).mono ?_
  rintro e wd ⟨v, rfl, ho2, hk1⟩
  have hk2 : Keep noBlk wc wd := ((Keep.refl noBlk wc).alloc _).trans hk1
  clear hk1
  have HK := Lib.hid (HK.out.trans hk2)
  have HR3 := Lib.hid (HR3.out.keep hk2)
  obtain ⟨Lc, hLc⟩ : ∃ l : List Ad, canon (hs3.flatten.filter fun a => subB (hw hs3 a) (wordOf hs3.length [0, 1, 7])) = l := ⟨_, rfl⟩
  have HELc := Lib.hid hLc
  have HALc : Hid (AdsOk Lc) := Lib.hid (by rw [← hLc]; exact (ok3 _))
  rw [hLc] at ho2
  clear hLc
  obtain ⟨nLc, hnLc⟩ : ∃ k, Lc.length = k := ⟨_, rfl⟩
  have HNLc := Lib.hid hnLc
  rw [hnLc] at ho2
  obtain ⟨aLc, cLc, hvLc, -, -⟩ := (Rd.of_owns ho2).form
  subst hvLc
  have HRLc := Lib.hid (Rd.of_owns ho2)
  clear ho2 hk2 hnLc
  go_wp2_with fail
  refine (lawof_any _ _ [0, 5, 1, 5, 1, 6] (rd_blk (n := 6) (size := 1) (heap_alloc_new _ _) rfl (by unfold maxLen; omega)) (by decide)).mono ?_
  rintro e we ⟨v, rfl, ho2, hk1⟩
  have hk2 : Keep noBlk wd we := ((Keep.refl noBlk wd).alloc _).trans hk1
  clear hk1
  have HK := Lib.hid (HK.out.trans hk2)
  have HR3 := Lib.hid (HR3.out.keep hk2)
  have HRLc := Lib.hid (HRLc.out.keep hk2 fun _ _ => id)
  obtain ⟨Lce, hLce⟩ : ∃ l : List Ad, pairs [0, 5, 1, 5, 1, 6] = l := ⟨_, rfl⟩
  have HELce := Lib.hid hLce
  have HALce : Hid (AdsOk Lce) := Lib.hid (by rw [← hLce]; exact (fun x hx => by simp only [pairs, List.mem_cons, List.not_mem_nil, or_false] at hx; rcases hx with rfl | rfl | rfl <;> exact ⟨⟨by decide, by decide⟩, by decide, by decide⟩))
  rw [hLce] at ho2
  clear hLce
  obtain ⟨nLce, hnLce⟩ : ∃ k, Lce.length = k := ⟨_, rfl⟩
  have HNLce := Lib.hid hnLce
  rw [hnLce] at ho2
  obtain ⟨aLce, cLce, hvLce, -, -⟩ := (Rd.of_owns ho2).form
  subst hvLce
  have HRLce := Lib.hid (Rd.of_owns ho2)
  clear ho2 hk2 hnLce
  go_wp2_with fail
  refine (same_any _ _ _ Lc Lce (by rw [HNLc.out]; exact HRLc.out) (by rw [HNLce.out]; exact HRLce.out) true (decide_eq_true (by rw [← HELc.out, ← HELce.out]; exact (canon_dec (by decide +kernel) (by decide +kernel) (by decide +kernel))))).mono ?_
  rintro e wf ⟨rfl, hk⟩
  have HK := Lib.hid (HK.out.trans hk)
  have HR3 := Lib.hid (HR3.out.keep hk)
  have HRLc := Lib.hid (HRLc.out.keep hk fun _ _ => id)
  have HRLce := Lib.hid (HRLce.out.keep hk fun _ _ => id)
  clear hk
  go_wp2_with fail
  clear HRLc HRLce
  refine (freed_any _ (.slice (some ⟨p3, 0, none⟩) 3 3) _ hs3 [] ho3 HR3.out (by decide) (by decide) (Rd.nil _ _) (by decide)).mono ?_
  rintro e wg ⟨v, rfl, ho2, hk1⟩
  have hk2 := hk1
  clear hk1
  have HK := Lib.hid (HK.out.trans hk2)
  have HR3 := Lib.hid (HR3.out.keep hk2)
  obtain ⟨Ld, hLd⟩ : ∃ l : List Ad, canon (hs3.flatten.filter fun a => subB (hw hs3 a) (wordOf hs3.length [])) = l := ⟨_, rfl⟩
  have HELd := Lib.hid hLd
  have HALd : Hid (AdsOk Ld) := Lib.hid (by rw [← hLd]; exact (ok3 _))
  rw [hLd] at ho2
  clear hLd
  obtain ⟨nLd, hnLd⟩ : ∃ k, Ld.length = k := ⟨_, rfl⟩
  have HNLd := Lib.hid hnLd
  rw [hnLd] at ho2
  obtain ⟨aLd, cLd, hvLd, -, -⟩ := (Rd.of_owns ho2).form
  subst hvLd
  have HRLd := Lib.hid (Rd.of_owns ho2)
  clear ho2 hk2 hnLd
  have hz : nLd = 0 := by rw [← HNLd.out, ← HELd.out, show _ = ([] : List Ad) from (canon_dec (by decide +kernel) (by decide +kernel) (by decide +kernel))]; rfl
  subst hz
  go_wp2_with fail
  clear HRLd
  refine (shared_any _ (.slice (some ⟨p3, 0, none⟩) 3 3) _ hs3 [0, 1] ho3 (HR3.out.keep ((Keep.refl _ _).alloc _)) (by decide) (by decide) (rd_blk (n := 2) (size := 1) (vs := [.int .i64 0, .int .i64 1]) (heap_alloc_new _ _) rfl (by unfold maxLen; omega)) (by decide)).mono ?_
  rintro e wh ⟨v, rfl, ho2, hk1⟩
  have hk2 : Keep noBlk wg wh := ((Keep.refl noBlk wg).alloc _).trans hk1
  clear hk1
  have HK := Lib.hid (HK.out.trans hk2)
  have HR3 := Lib.hid (HR3.out.keep hk2)
  obtain ⟨Le, hLe⟩ : ∃ l : List Ad, canon (hs3.flatten.filter fun a => (someB (wordOf hs3.length [0, 1]) && subB (wordOf hs3.length [0, 1]) (hw hs3 a))) = l := ⟨_, rfl⟩
  have HELe := Lib.hid hLe
  have HALe : Hid (AdsOk Le) := Lib.hid (by rw [← hLe]; exact (ok3 _))
  rw [hLe] at ho2
  clear hLe
  obtain ⟨nLe, hnLe⟩ : ∃ k, Le.length = k := ⟨_, rfl⟩
  have HNLe := Lib.hid hnLe
  rw [hnLe] at ho2
  obtain ⟨aLe, cLe, hvLe, -, -⟩ := (Rd.of_owns ho2).form
  subst hvLe
  have HRLe := Lib.hid (Rd.of_owns ho2)
  clear ho2 hk2 hnLe
  go_wp2_with fail
  refine (lawof_any _ _ [1, 5] (rd_blk (n := 2) (size := 1) (heap_alloc_new _ _) rfl (by unfold maxLen; omega)) (by decide)).mono ?_
  rintro e wi ⟨v, rfl, ho2, hk1⟩
  have hk2 : Keep noBlk wh wi := ((Keep.refl noBlk wh).alloc _).trans hk1
  clear hk1
  have HK := Lib.hid (HK.out.trans hk2)
  have HR3 := Lib.hid (HR3.out.keep hk2)
  have HRLe := Lib.hid (HRLe.out.keep hk2 fun _ _ => id)
  obtain ⟨Lee, hLee⟩ : ∃ l : List Ad, pairs [1, 5] = l := ⟨_, rfl⟩
  have HELee := Lib.hid hLee
  have HALee : Hid (AdsOk Lee) := Lib.hid (by rw [← hLee]; exact (fun x hx => by simp only [pairs, List.mem_cons, List.not_mem_nil, or_false] at hx; rcases hx with rfl <;> exact ⟨⟨by decide, by decide⟩, by decide, by decide⟩))
  rw [hLee] at ho2
  clear hLee
  obtain ⟨nLee, hnLee⟩ : ∃ k, Lee.length = k := ⟨_, rfl⟩
  have HNLee := Lib.hid hnLee
  rw [hnLee] at ho2
  obtain ⟨aLee, cLee, hvLee, -, -⟩ := (Rd.of_owns ho2).form
  subst hvLee
  have HRLee := Lib.hid (Rd.of_owns ho2)
  clear ho2 hk2 hnLee
  go_wp2_with fail
  refine (same_any _ _ _ Le Lee (by rw [HNLe.out]; exact HRLe.out) (by rw [HNLee.out]; exact HRLee.out) true (decide_eq_true (by rw [← HELe.out, ← HELee.out]; exact (canon_dec (by decide +kernel) (by decide +kernel) (by decide +kernel))))).mono ?_
  rintro e wj ⟨rfl, hk⟩
  have HK := Lib.hid (HK.out.trans hk)
  have HR3 := Lib.hid (HR3.out.keep hk)
  have HRLe := Lib.hid (HRLe.out.keep hk fun _ _ => id)
  have HRLee := Lib.hid (HRLee.out.keep hk fun _ _ => id)
  clear hk
  go_wp2_with fail
  clear HRLe HRLee
  refine (shared_any _ (.slice (some ⟨p3, 0, none⟩) 3 3) _ hs3 [0, 2] ho3 (HR3.out.keep ((Keep.refl _ _).alloc _)) (by decide) (by decide) (rd_blk (n := 2) (size := 1) (vs := [.int .i64 0, .int .i64 2]) (heap_alloc_new _ _) rfl (by unfold maxLen; omega)) (by decide)).mono ?_
  rintro e wk ⟨v, rfl, ho2, hk1⟩
  have hk2 : Keep noBlk wj wk := ((Keep.refl noBlk wj).alloc _).trans hk1
  clear hk1
  have HK := Lib.hid (HK.out.trans hk2)
  have HR3 := Lib.hid (HR3.out.keep hk2)
  obtain ⟨Lf, hLf⟩ : ∃ l : List Ad, canon (hs3.flatten.filter fun a => (someB (wordOf hs3.length [0, 2]) && subB (wordOf hs3.length [0, 2]) (hw hs3 a))) = l := ⟨_, rfl⟩
  have HELf := Lib.hid hLf
  have HALf : Hid (AdsOk Lf) := Lib.hid (by rw [← hLf]; exact (ok3 _))
  rw [hLf] at ho2
  clear hLf
  obtain ⟨nLf, hnLf⟩ : ∃ k, Lf.length = k := ⟨_, rfl⟩
  have HNLf := Lib.hid hnLf
  rw [hnLf] at ho2
  obtain ⟨aLf, cLf, hvLf, -, -⟩ := (Rd.of_owns ho2).form
  subst hvLf
  have HRLf := Lib.hid (Rd.of_owns ho2)
  clear ho2 hk2 hnLf
  have hz : nLf = 0 := by rw [← HNLf.out, ← HELf.out, show _ = ([] : List Ad) from (canon_dec (by decide +kernel) (by decide +kernel) (by decide +kernel))]; rfl
  subst hz
  go_wp2_with fail
  clear HRLf
  refine (shared_any _ (.slice (some ⟨p3, 0, none⟩) 3 3) _ hs3 [0, 9] ho3 (HR3.out.keep ((Keep.refl _ _).alloc _)) (by decide) (by decide) (rd_blk (n := 2) (size := 1) (vs := [.int .i64 0, .int .i64 9]) (heap_alloc_new _ _) rfl (by unfold maxLen; omega)) (by decide)).mono ?_
  rintro e wl ⟨v, rfl, ho2, hk1⟩
  have hk2 : Keep noBlk wk wl := ((Keep.refl noBlk wk).alloc _).trans hk1
  clear hk1
  have HK := Lib.hid (HK.out.trans hk2)
  have HR3 := Lib.hid (HR3.out.keep hk2)
  obtain ⟨Lg, hLg⟩ : ∃ l : List Ad, canon (hs3.flatten.filter fun a => (someB (wordOf hs3.length [0, 9]) && subB (wordOf hs3.length [0, 9]) (hw hs3 a))) = l := ⟨_, rfl⟩
  have HELg := Lib.hid hLg
  have HALg : Hid (AdsOk Lg) := Lib.hid (by rw [← hLg]; exact (ok3 _))
  rw [hLg] at ho2
  clear hLg
  obtain ⟨nLg, hnLg⟩ : ∃ k, Lg.length = k := ⟨_, rfl⟩
  have HNLg := Lib.hid hnLg
  rw [hnLg] at ho2
  obtain ⟨aLg, cLg, hvLg, -, -⟩ := (Rd.of_owns ho2).form
  subst hvLg
  have HRLg := Lib.hid (Rd.of_owns ho2)
  clear ho2 hk2 hnLg
  go_wp2_with fail
  refine (lawof_any _ _ [0, 5, 1, 5] (rd_blk (n := 4) (size := 1) (heap_alloc_new _ _) rfl (by unfold maxLen; omega)) (by decide)).mono ?_
  rintro e wm ⟨v, rfl, ho2, hk1⟩
  have hk2 : Keep noBlk wl wm := ((Keep.refl noBlk wl).alloc _).trans hk1
  clear hk1
  have HK := Lib.hid (HK.out.trans hk2)
  have HR3 := Lib.hid (HR3.out.keep hk2)
  have HRLg := Lib.hid (HRLg.out.keep hk2 fun _ _ => id)
  obtain ⟨Lge, hLge⟩ : ∃ l : List Ad, pairs [0, 5, 1, 5] = l := ⟨_, rfl⟩
  have HELge := Lib.hid hLge
  have HALge : Hid (AdsOk Lge) := Lib.hid (by rw [← hLge]; exact (fun x hx => by simp only [pairs, List.mem_cons, List.not_mem_nil, or_false] at hx; rcases hx with rfl | rfl <;> exact ⟨⟨by decide, by decide⟩, by decide, by decide⟩))
  rw [hLge] at ho2
  clear hLge
  obtain ⟨nLge, hnLge⟩ : ∃ k, Lge.length = k := ⟨_, rfl⟩
  have HNLge := Lib.hid hnLge
  rw [hnLge] at ho2
  obtain ⟨aLge, cLge, hvLge, -, -⟩ := (Rd.of_owns ho2).form
  subst hvLge
  have HRLge := Lib.hid (Rd.of_owns ho2)
  clear ho2 hk2 hnLge
  go_wp2_with fail
  refine (same_any _ _ _ Lg Lge (by rw [HNLg.out]; exact HRLg.out) (by rw [HNLge.out]; exact HRLge.out) true (decide_eq_true (by rw [← HELg.out, ← HELge.out]; exact (canon_dec (by decide +kernel) (by decide +kernel) (by decide +kernel))))).mono ?_
  rintro e wn ⟨rfl, hk⟩
  have HK := Lib.hid (HK.out.trans hk)
  have HR3 := Lib.hid (HR3.out.keep hk)
  have HRLg := Lib.hid (HRLg.out.keep hk fun _ _ => id)
  have HRLge := Lib.hid (HRLge.out.keep hk fun _ _ => id)
  clear hk
  go_wp2_with fail
  clear HRLg HRLge
  refine (shared_any _ (.slice (some ⟨p3, 0, none⟩) 3 3) _ hs3 [] ho3 HR3.out (by decide) (by decide) (Rd.nil _ _) (by decide)).mono ?_
  rintro e wo ⟨v, rfl, ho2, hk1⟩
  have hk2 := hk1
  clear hk1
  have HK := Lib.hid (HK.out.trans hk2)
  have HR3 := Lib.hid (HR3.out.keep hk2)
  obtain ⟨Lh, hLh⟩ : ∃ l : List Ad, canon (hs3.flatten.filter fun a => (someB (wordOf hs3.length []) && subB (wordOf hs3.length []) (hw hs3 a))) = l := ⟨_, rfl⟩
  have HELh := Lib.hid hLh
  have HALh : Hid (AdsOk Lh) := Lib.hid (by rw [← hLh]; exact (ok3 _))
  rw [hLh] at ho2
  clear hLh
  obtain ⟨nLh, hnLh⟩ : ∃ k, Lh.length = k := ⟨_, rfl⟩
  have HNLh := Lib.hid hnLh
  rw [hnLh] at ho2
  obtain ⟨aLh, cLh, hvLh, -, -⟩ := (Rd.of_owns ho2).form
  subst hvLh
  have HRLh := Lib.hid (Rd.of_owns ho2)
  clear ho2 hk2 hnLh
  have hz : nLh = 0 := by rw [← HNLh.out, ← HELh.out, show _ = ([] : List Ad) from (canon_dec (by decide +kernel) (by decide +kernel) (by decide +kernel))]; rfl
  subst hz
  go_wp2_with fail
  clear HRLh
  refine (awakeU_any _).mono ?_
  rintro e wp ⟨rfl, hk⟩
  have HK := Lib.hid (HK.out.trans hk)
  have HR3 := Lib.hid (HR3.out.keep hk)
  clear hk
  go_wp2_with fail
  refine (holders_any _ (.slice (some ⟨p3, 0, none⟩) 3 3) hs3 ⟨2, 5⟩ ⟨⟨by decide, by decide⟩, by decide, by decide⟩ ho3 HR3.out (by decide)).mono ?_
  rintro e wq ⟨v, rfl, ho2, hk2⟩
  have HK := Lib.hid (HK.out.trans hk2)
  have HR3 := Lib.hid (HR3.out.keep hk2)
  have hlen : hoL hs3 ⟨2, 5⟩ hs3.length = [] := by decide +kernel
  rw [hlen] at ho2
  obtain ⟨a2, c2, rfl, -, -⟩ := (Rd.of_owns ho2).form
  clear ho2 hk2 hlen
  go_wp2_with fail
  go_ret
  exact ⟨rfl, HK.out⟩

end Go.Proofs.Ytmilgaoilglmjaa
