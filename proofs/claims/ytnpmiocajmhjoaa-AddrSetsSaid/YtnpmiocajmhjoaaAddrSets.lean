/-
  AddrSets: which sets lists make, by themselves and together.
  Conditions: none but those of the given statement.
-/
import Derived.Test.YtnpmiocajmhjoaaAddrKnown
namespace Go.Proofs.Ytnpmiocajmhjoaa
open Go.RowKit Go.Maps Go.ChangeMaps
set_option maxRecDepth 100000
set_option linter.unusedVariables false

theorem Rd.keep_lt {S : Nat → Prop} {w w' : World} {size n : Nat} {v : Value} {l : List Value} (h : Rd w size v n l) (hk : Keep S w w') (hS : ∀ k, k < w.heap.size → ¬ S k) : Rd w' size v n l := by
  obtain ⟨h0, a, cap, rfl, h1, h2, h3, h4⟩ := h
  refine ⟨h0, a, cap, rfl, h1, h2, h3, fun h0 => ?_⟩
  obtain ⟨g, o, rfl, hc⟩ := h4 h0
  exact ⟨g, o, rfl, fun i u hu => hk.cell (hc i u hu) (hS g (World.block_lt_of_cell? w _ (hc i u hu)))⟩

set_option maxHeartbeats 16000000 in
theorem addrSets_walk (w : World) (va : Value) (xs : List Ad) (ho : AdsOk xs) (hr : Rd w 2 va xs.length (adCells xs)) (vb : Value) (ys : List Ad) (hoy : AdsOk ys) (hrb : Rd w 2 vb ys.length (adCells ys)) (x : Ad) :
    Calls Try.prog 6 #[va, vb, .agg (adCs x).toArray] w (TherePost w true) := by
  have CW := Lib.hid (fun w => (awake_any w).mono fun e w' (h : TherePost w true e w') => (show e = .returned (.bool true) ∧ Keep noBlk w w' from h))
  have HAxs := Lib.hid ho; have HAys := Lib.hid hoy
  obtain ⟨xd, hxd⟩ : ∃ d, x.dev = d := ⟨_, rfl⟩
  have HX0 : Hid ((adCs x).toArray[0]? = some (.int .i64 xd)) := Lib.hid (by rw [← hxd]; rfl)
  clear hxd
  obtain ⟨hx, hhx⟩ : ∃ b, decide (x ∈ xs) = b := ⟨_, rfl⟩
  obtain ⟨ap, hap⟩ : ∃ b, decide ((xs.map (·.dev)).Nodup) = b := ⟨_, rfl⟩
  have HHX := Lib.hid hhx; have HAP := Lib.hid hap
  clear hhx hap
  obtain ⟨oa, ca, rfl, -, hmm⟩ := hr.form
  have hmx_n : xs.length ≤ maxLen := by have h := hr.2; obtain ⟨a', cap', h1, h2, h3, -⟩ := h; omega
  unfold maxLen at hmx_n
  clear hmm
  have HRxs := Lib.hid hr
  obtain ⟨n, hn_n⟩ : ∃ n, xs.length = n := ⟨_, rfl⟩
  have HNxs := Lib.hid hn_n
  rw [hn_n] at HRxs hmx_n
  try rw [hn_n]
  clear hr hn_n
  obtain ⟨ob, cb, rfl, -, hmm⟩ := hrb.form
  have hmx_m : ys.length ≤ maxLen := by have h := hrb.2; obtain ⟨a', cap', h1, h2, h3, -⟩ := h; omega
  unfold maxLen at hmx_m
  clear hmm
  have HRys := Lib.hid hrb
  obtain ⟨m, hn_m⟩ : ∃ n, ys.length = n := ⟨_, rfl⟩
  have HNys := Lib.hid hn_m
  rw [hn_m] at HRys hmx_m
  try rw [hn_m]
  clear hrb hn_m
  obtain ⟨U0, hU0⟩ : ∃ l : List Ad, canon xs = l := ⟨_, rfl⟩
  have HE0 := Lib.hid hU0
  obtain ⟨n0, hn0⟩ : ∃ k, U0.length = k := ⟨_, rfl⟩
  have HN0 := Lib.hid hn0
  clear hU0 hn0
  obtain ⟨U1, hU1⟩ : ∃ l : List Ad, canon (xs ++ ys) = l := ⟨_, rfl⟩
  have HE1 := Lib.hid hU1
  obtain ⟨n1, hn1⟩ : ∃ k, U1.length = k := ⟨_, rfl⟩
  have HN1 := Lib.hid hn1
  clear hU1 hn1
  obtain ⟨U2, hU2⟩ : ∃ l : List Ad, canon (xs.filter fun x => !decide (x ∈ ys)) = l := ⟨_, rfl⟩
  have HE2 := Lib.hid hU2
  obtain ⟨n2, hn2⟩ : ∃ k, U2.length = k := ⟨_, rfl⟩
  have HN2 := Lib.hid hn2
  clear hU2 hn2
  obtain ⟨U3, hU3⟩ : ∃ l : List Ad, canon (xs.filter fun x => decide (x ∈ ys)) = l := ⟨_, rfl⟩
  have HE3 := Lib.hid hU3
  obtain ⟨n3, hn3⟩ : ∃ k, U3.length = k := ⟨_, rfl⟩
  have HN3 := Lib.hid hn3
  clear hU3 hn3
  obtain ⟨U4, hU4⟩ : ∃ l : List Ad, canon (xs.filter fun x => decide (x.dev = xd)) = l := ⟨_, rfl⟩
  have HE4 := Lib.hid hU4
  obtain ⟨n4, hn4⟩ : ∃ k, U4.length = k := ⟨_, rfl⟩
  have HN4 := Lib.hid hn4
  clear hU4 hn4
  obtain ⟨w0, hw0, hk0, hb0, hs0⟩ := alloc_facts w (adCs x).toArray 23
  have HRxs := Lib.hid (HRxs.out.keep hk0 fun _ _ => id); have HRys := Lib.hid (HRys.out.keep hk0 fun _ _ => id)
  have HBX := Lib.hid hb0; have HK := Lib.hid hk0
  have hwx : w.heap.size < w0.heap.size := by omega
  clear hk0 hb0 hs0
  go_enter Try.func6, Try.ntmps6
  go_wp2_with fail
  clear hw0
  refine (long_any _ _ _ n m _ _).mono ?_
  rintro e w2 ⟨rfl, rfl⟩
  by_cases hlong : 200 < n ∨ 200 < m
  · rw [decide_eq_true hlong]
    go_wp2_with fail
    refine (CW.out _).mono ?_
    rintro e w1 ⟨rfl, hk⟩
    have HRxs := Lib.hid (HRxs.out.keep hk fun _ _ => id)
    have HRys := Lib.hid (HRys.out.keep hk fun _ _ => id)
    have HBX := Lib.hid (hk.blk HBX.out id)
    have HK := Lib.hid (HK.out.trans hk)
    clear hk
    go_wp2_with fail
    go_ret
    exact ⟨rfl, HK.out⟩
  · rw [decide_eq_false hlong]
    have hn200 : n ≤ 200 := by omega
    have hm200 : m ≤ 200 := by omega
    have hxn : xs.length ≤ 200 := by rw [HNxs.out]; exact hn200
    have hyn : ys.length ≤ 200 := by rw [HNys.out]; exact hm200
    have hlx := Lib.hid hxn; have hly := Lib.hid hyn
    clear hlong hxn hyn
    go_wp2_with fail
    refine (told_of (copyAddrs_any _ _ xs (by rw [HNxs.out]; exact HRxs.out) (by have := hlx.out; omega)) (rfl)).mono ?_
    rintro e w1 ⟨v, rfl, ho2, hk2⟩
    have HRxs := Lib.hid (HRxs.out.keep hk2 fun _ _ => id)
    have HRys := Lib.hid (HRys.out.keep hk2 fun _ _ => id)
    have HBX := Lib.hid (hk2.blk HBX.out id)
    have HK := Lib.hid (HK.out.trans hk2)
    rw [HNxs.out] at ho2
    obtain ⟨aI, cI, hvI, -, -⟩ := (Rd.of_owns ho2).form
    subst hvI
    have HRI := Lib.hid (Rd.of_owns ho2)
    clear ho2 hk2
    go_wp2_with fail
    refine (told_of (copyAddrs_any _ _ ys (by rw [HNys.out]; exact HRys.out) (by have := hly.out; omega)) (rfl)).mono ?_
    rintro e w2 ⟨v, rfl, ho2, hk2⟩
    have HRxs := Lib.hid (HRxs.out.keep hk2 fun _ _ => id)
    have HRys := Lib.hid (HRys.out.keep hk2 fun _ _ => id)
    have HBX := Lib.hid (hk2.blk HBX.out id)
    have HK := Lib.hid (HK.out.trans hk2)
    have HRI := Lib.hid (HRI.out.keep hk2 fun _ _ => id)
    rw [HNys.out] at ho2
    obtain ⟨aJ, cJ, hvJ, -, -⟩ := (Rd.of_owns ho2).form
    subst hvJ
    have HRJ := Lib.hid (Rd.of_owns ho2)
    clear ho2 hk2
    go_wp2_with fail
    obtain ⟨B, hB⟩ : ∃ b, w2.heap.size = b := ⟨_, rfl⟩
    have hwB : w.heap.size < B := by have := lt_of_block HBX.out; omega
    have HBE := Lib.hid hB
    have hB' : B ≤ w2.heap.size := Nat.le_of_eq hB.symm
    clear hB
    have HRxA := HRxs; have HRyA := HRys; have HRIA := HRI; have HRJA := HRJ; have HBXA := HBX; have HKA := HK
    have HKZ := Lib.hid (Keep.refl noBlk w2)
    obtain ⟨S, hS0⟩ : ∃ S : World → Prop, S = fun w' => Keep noBlk w2 w' := ⟨_, rfl⟩
    have HSE := Lib.hid (show ∀ w', S w' → Keep noBlk w2 w' from fun w' h => by rw [hS0] at h; exact h)
    have HSI := Lib.hid (show ∀ w', Keep noBlk w2 w' → S w' from fun w' h => by rw [hS0]; exact h)
    have hS : S w2.drew := by rw [hS0]; exact (Keep.refl _ _).drew
    clear hS0
    refine wp_region_held (S := S) (by kernel_rfl) ?_
    change wpAnyH _ _ _ _ _ _ _ _ w2.drew
    generalize w2.drew = w3 at hS ⊢
    refine wpAnyH_take (i := 0) (v := .slice aI n cI) rfl (by kernel_rfl) (by kernel_rfl) (by kernel_rfl) (fun _ _ _ h => h) (.inl ⟨by rfl, fun _ _ => rfl⟩) hS ?_
    simp only [Act.put, List.setIfInBounds_toArray, List.set_cons_zero, List.set_cons_succ, List.getElem_toArray, List.getElem_cons_succ, List.getElem_cons_zero]
    refine wpAnyH_take (i := 2) (v := .slice aI n cI) rfl (by kernel_rfl) (by kernel_rfl) (by kernel_rfl) (fun _ _ _ h => h) (.inl ⟨by rfl, fun _ _ => rfl⟩) hS ?_
    simp only [Act.put, List.setIfInBounds_toArray, List.set_cons_zero, List.set_cons_succ, List.getElem_toArray, List.getElem_cons_succ, List.getElem_cons_zero]
    refine wpAnyH_take (i := 3) (v := .slice aJ m cJ) rfl (by kernel_rfl) (by kernel_rfl) (by kernel_rfl) (fun _ _ _ h => h) (.inl ⟨by rfl, fun _ _ => rfl⟩) hS ?_
    simp only [Act.put, List.setIfInBounds_toArray, List.set_cons_zero, List.set_cons_succ, List.getElem_toArray, List.getElem_cons_succ, List.getElem_cons_zero]
    refine wpAnyH_take (i := 5) (v := .slice aI n cI) rfl (by kernel_rfl) (by kernel_rfl) (by kernel_rfl) (fun _ _ _ h => h) (.inl ⟨by rfl, fun _ _ => rfl⟩) hS ?_
    simp only [Act.put, List.setIfInBounds_toArray, List.set_cons_zero, List.set_cons_succ, List.getElem_toArray, List.getElem_cons_succ, List.getElem_cons_zero]
    refine wpAnyH_take (i := 6) (v := .slice aJ m cJ) rfl (by kernel_rfl) (by kernel_rfl) (by kernel_rfl) (fun _ _ _ h => h) (.inl ⟨by rfl, fun _ _ => rfl⟩) hS ?_
    simp only [Act.put, List.setIfInBounds_toArray, List.set_cons_zero, List.set_cons_succ, List.getElem_toArray, List.getElem_cons_succ, List.getElem_cons_zero]
    refine wpAnyH_take (i := 8) (v := .slice aI n cI) rfl (by kernel_rfl) (by kernel_rfl) (by kernel_rfl) (fun _ _ _ h => h) (.inl ⟨by rfl, fun _ _ => rfl⟩) hS ?_
    simp only [Act.put, List.setIfInBounds_toArray, List.set_cons_zero, List.set_cons_succ, List.getElem_toArray, List.getElem_cons_succ, List.getElem_cons_zero]
    refine wpAnyH_take (i := 9) (v := .slice aJ m cJ) rfl (by kernel_rfl) (by kernel_rfl) (by kernel_rfl) (fun _ _ _ h => h) (.inl ⟨by rfl, fun _ _ => rfl⟩) hS ?_
    simp only [Act.put, List.setIfInBounds_toArray, List.set_cons_zero, List.set_cons_succ, List.getElem_toArray, List.getElem_cons_succ, List.getElem_cons_zero]
    refine wpAnyH_take (i := 11) (v := .slice aI n cI) rfl (by kernel_rfl) (by kernel_rfl) (by kernel_rfl) (fun _ _ _ h => h) (.inl ⟨by rfl, fun _ _ => rfl⟩) hS ?_
    simp only [Act.put, List.setIfInBounds_toArray, List.set_cons_zero, List.set_cons_succ, List.getElem_toArray, List.getElem_cons_succ, List.getElem_cons_zero]
    refine wpAnyH_take (i := 12) (v := .pointer (some ⟨w.heap.size, 0, none⟩)) rfl (by kernel_rfl) (by kernel_rfl) (by kernel_rfl) (fun _ _ _ h => h) (.inl ⟨by rfl, fun _ _ => by go_simp⟩) hS ?_
    simp only [Act.put, List.setIfInBounds_toArray, List.set_cons_zero, List.set_cons_succ, List.getElem_toArray, List.getElem_cons_succ, List.getElem_cons_zero]
    refine wpAnyH_take (i := 13) (v := .int .i64 xd) rfl (by kernel_rfl) (by kernel_rfl) (by kernel_rfl) (fun _ _ _ h => h) (.inl ⟨by rfl, fun w' hw' => by have c := (HSE.out w' hw').cell (blk_cell HBX.out HX0.out) id; go_simp⟩) hS ?_
    simp only [Act.put, List.setIfInBounds_toArray, List.set_cons_zero, List.set_cons_succ, List.getElem_toArray, List.getElem_cons_succ, List.getElem_cons_zero]
    refine wpAnyH_one (k := 1) rfl (by kernel_rfl) ?_
    go_wp2_with fail
    refine (told_of (sort_any _ _ xs HAxs.out (by rw [HNxs.out]; exact HRI.out.keep (HSE.out _ hS) fun _ _ => id) (by have := hlx.out; omega)) HE0.out).mono ?_
    rintro e w4 ⟨v, rfl, ho2, hk⟩
    rw [HN0.out] at ho2
    obtain ⟨aP0, cP0, hvP0, -, -⟩ := (Rd.of_owns ho2).form
    subst hvP0
    obtain ⟨bP0, hbP0⟩ : ∃ b, w3.heap.size = b := ⟨_, rfl⟩
    rw [hbP0] at ho2
    have hBP0 : B ≤ bP0 := by rw [← hbP0]; exact Nat.le_trans hB' (HSE.out _ hS).size
    obtain ⟨eP0, heP0⟩ : ∃ b, w4.heap.size = b := ⟨_, rfl⟩
    have hEP0 : bP0 ≤ eP0 := by rw [← hbP0, ← heP0]; exact hk.size
    have hzP0 : eP0 ≤ w4.heap.size := Nat.le_of_eq heP0.symm
    have HFP0 : Hid (∀ k, (Value.slice aP0 n0 cP0).ownBlock = some k → bP0 ≤ k ∧ k < eP0) := Lib.hid (fun k hk' => by have := ho2.lt k hk'; omega)
    have HOP0 := Lib.hid ho2
    skip
    clear ho2 hbP0 heP0
    have hS1 := HSI.out _ ((HSE.out _ hS).trans hk)
    clear hS hk
    go_wp2_with fail
    refine ⟨hS1, ?_⟩
    refine wpAnyH_one (k := 4) rfl (by kernel_rfl) ?_
    go_wp2_with fail
    refine (told_of (union_any _ _ _ xs ys HAxs.out HAys.out (by rw [HNxs.out]; exact HRI.out.keep (HSE.out _ hS1) fun _ _ => id) (by rw [HNys.out]; exact HRJ.out.keep (HSE.out _ hS1) fun _ _ => id) (by have := hlx.out; have := hly.out; omega)) HE1.out).mono ?_
    rintro e w5 ⟨v, rfl, ho2, hk⟩
    rw [HN1.out] at ho2
    obtain ⟨aP1, cP1, hvP1, -, -⟩ := (Rd.of_owns ho2).form
    subst hvP1
    obtain ⟨bP1, hbP1⟩ : ∃ b, w4.heap.size = b := ⟨_, rfl⟩
    rw [hbP1] at ho2
    have hBP1 : eP0 ≤ bP1 := by rw [← hbP1]; omega
    obtain ⟨eP1, heP1⟩ : ∃ b, w5.heap.size = b := ⟨_, rfl⟩
    have hEP1 : bP1 ≤ eP1 := by rw [← hbP1, ← heP1]; exact hk.size
    have hzP1 : eP1 ≤ w5.heap.size := Nat.le_of_eq heP1.symm
    have HFP1 : Hid (∀ k, (Value.slice aP1 n1 cP1).ownBlock = some k → bP1 ≤ k ∧ k < eP1) := Lib.hid (fun k hk' => by have := ho2.lt k hk'; omega)
    have HOP1 := Lib.hid ho2
    have HOP0 := Lib.hid (hk.owns HOP0.out fun _ _ => id)
    clear ho2 hbP1 heP1
    have hS2 := HSI.out _ ((HSE.out _ hS1).trans hk)
    clear hS1 hk
    go_wp2_with fail
    refine ⟨hS2, ?_⟩
    refine wpAnyH_one (k := 7) rfl (by kernel_rfl) ?_
    go_wp2_with fail
    refine (told_of (minus_any _ _ _ xs ys HAxs.out HAys.out (by rw [HNxs.out]; exact HRI.out.keep (HSE.out _ hS2) fun _ _ => id) (by rw [HNys.out]; exact HRJ.out.keep (HSE.out _ hS2) fun _ _ => id) (by have := hlx.out; omega)) HE2.out).mono ?_
    rintro e w6 ⟨v, rfl, ho2, hk⟩
    rw [HN2.out] at ho2
    obtain ⟨aP2, cP2, hvP2, -, -⟩ := (Rd.of_owns ho2).form
    subst hvP2
    obtain ⟨bP2, hbP2⟩ : ∃ b, w5.heap.size = b := ⟨_, rfl⟩
    rw [hbP2] at ho2
    have hBP2 : eP1 ≤ bP2 := by rw [← hbP2]; omega
    obtain ⟨eP2, heP2⟩ : ∃ b, w6.heap.size = b := ⟨_, rfl⟩
    have hEP2 : bP2 ≤ eP2 := by rw [← hbP2, ← heP2]; exact hk.size
    have hzP2 : eP2 ≤ w6.heap.size := Nat.le_of_eq heP2.symm
    have HFP2 : Hid (∀ k, (Value.slice aP2 n2 cP2).ownBlock = some k → bP2 ≤ k ∧ k < eP2) := Lib.hid (fun k hk' => by have := ho2.lt k hk'; omega)
    have HOP2 := Lib.hid ho2
    have HOP0 := Lib.hid (hk.owns HOP0.out fun _ _ => id)
    have HOP1 := Lib.hid (hk.owns HOP1.out fun _ _ => id)
    clear ho2 hbP2 heP2
    have hS3 := HSI.out _ ((HSE.out _ hS2).trans hk)
    clear hS2 hk
    go_wp2_with fail
    refine ⟨hS3, ?_⟩
    refine wpAnyH_one (k := 10) rfl (by kernel_rfl) ?_
    go_wp2_with fail
    refine (told_of (both_any _ _ _ xs ys HAxs.out HAys.out (by rw [HNxs.out]; exact HRI.out.keep (HSE.out _ hS3) fun _ _ => id) (by rw [HNys.out]; exact HRJ.out.keep (HSE.out _ hS3) fun _ _ => id) (by have := hlx.out; omega)) HE3.out).mono ?_
    rintro e w7 ⟨v, rfl, ho2, hk⟩
    rw [HN3.out] at ho2
    obtain ⟨aP3, cP3, hvP3, -, -⟩ := (Rd.of_owns ho2).form
    subst hvP3
    obtain ⟨bP3, hbP3⟩ : ∃ b, w6.heap.size = b := ⟨_, rfl⟩
    rw [hbP3] at ho2
    have hBP3 : eP2 ≤ bP3 := by rw [← hbP3]; omega
    obtain ⟨eP3, heP3⟩ : ∃ b, w7.heap.size = b := ⟨_, rfl⟩
    have hEP3 : bP3 ≤ eP3 := by rw [← hbP3, ← heP3]; exact hk.size
    have hzP3 : eP3 ≤ w7.heap.size := Nat.le_of_eq heP3.symm
    have HFP3 : Hid (∀ k, (Value.slice aP3 n3 cP3).ownBlock = some k → bP3 ≤ k ∧ k < eP3) := Lib.hid (fun k hk' => by have := ho2.lt k hk'; omega)
    have HOP3 := Lib.hid ho2
    have HOP0 := Lib.hid (hk.owns HOP0.out fun _ _ => id)
    have HOP1 := Lib.hid (hk.owns HOP1.out fun _ _ => id)
    have HOP2 := Lib.hid (hk.owns HOP2.out fun _ _ => id)
    clear ho2 hbP3 heP3
    have hS4 := HSI.out _ ((HSE.out _ hS3).trans hk)
    clear hS3 hk
    go_wp2_with fail
    refine ⟨hS4, ?_⟩
    refine wpAnyH_one (k := 14) rfl (by kernel_rfl) ?_
    go_wp2_with fail
    refine (told_of (on_any _ _ xs xd HAxs.out (by rw [HNxs.out]; exact HRI.out.keep (HSE.out _ hS4) fun _ _ => id) (by have := hlx.out; omega)) HE4.out).mono ?_
    rintro e w8 ⟨v, rfl, ho2, hk⟩
    rw [HN4.out] at ho2
    obtain ⟨aP4, cP4, hvP4, -, -⟩ := (Rd.of_owns ho2).form
    subst hvP4
    obtain ⟨bP4, hbP4⟩ : ∃ b, w7.heap.size = b := ⟨_, rfl⟩
    rw [hbP4] at ho2
    have hBP4 : eP3 ≤ bP4 := by rw [← hbP4]; omega
    obtain ⟨eP4, heP4⟩ : ∃ b, w8.heap.size = b := ⟨_, rfl⟩
    have hEP4 : bP4 ≤ eP4 := by rw [← hbP4, ← heP4]; exact hk.size
    have hzP4 : eP4 ≤ w8.heap.size := Nat.le_of_eq heP4.symm
    have HFP4 : Hid (∀ k, (Value.slice aP4 n4 cP4).ownBlock = some k → bP4 ≤ k ∧ k < eP4) := Lib.hid (fun k hk' => by have := ho2.lt k hk'; omega)
    have HOP4 := Lib.hid ho2
    have HOP0 := Lib.hid (hk.owns HOP0.out fun _ _ => id)
    have HOP1 := Lib.hid (hk.owns HOP1.out fun _ _ => id)
    have HOP2 := Lib.hid (hk.owns HOP2.out fun _ _ => id)
    have HOP3 := Lib.hid (hk.owns HOP3.out fun _ _ => id)
    clear ho2 hbP4 heP4
    have hS5 := HSI.out _ ((HSE.out _ hS4).trans hk)
    clear hS4 hk
    go_wp2_with fail
    refine ⟨hS5, ?_⟩
    refine wpAnyH_one (k := 15) rfl (by kernel_rfl) ?_
    obtain ⟨w9, hw9, hk, hb9, hs9⟩ := alloc_facts w8 (([.slice aP0 n0 cP0, .slice aP1 n1 cP1, .slice aP2 n2 cP2, .slice aP3 n3 cP3, .slice aP4 n4 cP4] : List Value)).toArray 29
    obtain ⟨tP, htP⟩ : ∃ b, w8.heap.size = b := ⟨_, rfl⟩
    have hTP : eP4 ≤ tP := by omega
    rw [htP] at hb9
    have HTP := Lib.hid hb9
    have hzP : tP < w9.heap.size := by omega
    have HOP0 := Lib.hid (hk.owns HOP0.out fun _ _ => id)
    have HOP1 := Lib.hid (hk.owns HOP1.out fun _ _ => id)
    have HOP2 := Lib.hid (hk.owns HOP2.out fun _ _ => id)
    have HOP3 := Lib.hid (hk.owns HOP3.out fun _ _ => id)
    have HOP4 := Lib.hid (hk.owns HOP4.out fun _ _ => id)
    have HTEP := Lib.hid htP
    clear hb9 hs9
    go_wp2_with fail
    try rw [hw9]
    try rw [htP]
    clear hw9 htP
    have hS6 := HSI.out _ ((HSE.out _ hS5).trans hk)
    clear hS5 hk
    refine ⟨hS6, ?_⟩
    refine wpAnyH_take (i := 16) (v := .slice (some ⟨tP, 0, none⟩) 5 5) rfl (by kernel_rfl) (by kernel_rfl) (by kernel_rfl) (fun _ _ _ h => h) (.inl ⟨by rfl, fun _ _ => rfl⟩) hS6 ?_
    simp only [Act.put, List.setIfInBounds_toArray, List.set_cons_zero, List.set_cons_succ, List.getElem_toArray, List.getElem_cons_succ, List.getElem_cons_zero]
    refine wpAnyH_done (by kernel_rfl) ?_ _
    have HKR := Lib.hid (HSE.out _ hS6)
    clear hS6 HSE HSI
    have HRxs := Lib.hid (HRxs.out.keep HKR.out fun _ _ => id)
    have HRys := Lib.hid (HRys.out.keep HKR.out fun _ _ => id)
    have HBX := Lib.hid (HKR.out.blk HBX.out id)
    have HK := Lib.hid (HK.out.trans HKR.out)
    have HRI := Lib.hid (HRI.out.keep HKR.out fun _ _ => id)
    have HRJ := Lib.hid (HRJ.out.keep HKR.out fun _ _ => id)
    have HKZ := Lib.hid (HKZ.out.trans HKR.out)
    clear HKR
    go_wp2_with fail
    skip
    obtain ⟨E, hE⟩ : ∃ b, w9.heap.size = b := ⟨_, rfl⟩
    have hEP : eP4 ≤ E := by have := lt_of_block HTP.out; omega
    have hE' : E ≤ w9.heap.size := Nat.le_of_eq hE.symm
    have hTB : tP < E := by have := lt_of_block HTP.out; omega
    clear hE
    obtain ⟨S, hS0⟩ : ∃ S : World → Prop, S = fun w' => Keep noBlk w9 w' := ⟨_, rfl⟩
    have HSE := Lib.hid (show ∀ w', S w' → Keep noBlk w9 w' from fun w' h => by rw [hS0] at h; exact h)
    have HSI := Lib.hid (show ∀ w', Keep noBlk w9 w' → S w' from fun w' h => by rw [hS0]; exact h)
    have hS : S w9.drew := by rw [hS0]; exact (Keep.refl _ _).drew
    clear hS0
    refine wp_region_held (S := S) (by kernel_rfl) ?_
    change wpAnyH _ _ _ _ _ _ _ _ w9.drew
    generalize w9.drew = wa at hS ⊢
    refine wpAnyH_take (i := 0) (v := .slice oa n ca) rfl (by kernel_rfl) (by kernel_rfl) (by kernel_rfl) (fun _ _ _ h => h) (.inl ⟨by rfl, fun _ _ => rfl⟩) hS ?_
    simp only [Act.put, List.setIfInBounds_toArray, List.set_cons_zero, List.set_cons_succ, List.getElem_toArray, List.getElem_cons_succ, List.getElem_cons_zero]
    refine wpAnyH_take (i := 2) (v := .slice oa n ca) rfl (by kernel_rfl) (by kernel_rfl) (by kernel_rfl) (fun _ _ _ h => h) (.inl ⟨by rfl, fun _ _ => rfl⟩) hS ?_
    simp only [Act.put, List.setIfInBounds_toArray, List.set_cons_zero, List.set_cons_succ, List.getElem_toArray, List.getElem_cons_succ, List.getElem_cons_zero]
    refine wpAnyH_take (i := 3) (v := .slice ob m cb) rfl (by kernel_rfl) (by kernel_rfl) (by kernel_rfl) (fun _ _ _ h => h) (.inl ⟨by rfl, fun _ _ => rfl⟩) hS ?_
    simp only [Act.put, List.setIfInBounds_toArray, List.set_cons_zero, List.set_cons_succ, List.getElem_toArray, List.getElem_cons_succ, List.getElem_cons_zero]
    refine wpAnyH_take (i := 5) (v := .slice oa n ca) rfl (by kernel_rfl) (by kernel_rfl) (by kernel_rfl) (fun _ _ _ h => h) (.inl ⟨by rfl, fun _ _ => rfl⟩) hS ?_
    simp only [Act.put, List.setIfInBounds_toArray, List.set_cons_zero, List.set_cons_succ, List.getElem_toArray, List.getElem_cons_succ, List.getElem_cons_zero]
    refine wpAnyH_take (i := 6) (v := .slice ob m cb) rfl (by kernel_rfl) (by kernel_rfl) (by kernel_rfl) (fun _ _ _ h => h) (.inl ⟨by rfl, fun _ _ => rfl⟩) hS ?_
    simp only [Act.put, List.setIfInBounds_toArray, List.set_cons_zero, List.set_cons_succ, List.getElem_toArray, List.getElem_cons_succ, List.getElem_cons_zero]
    refine wpAnyH_take (i := 8) (v := .slice oa n ca) rfl (by kernel_rfl) (by kernel_rfl) (by kernel_rfl) (fun _ _ _ h => h) (.inl ⟨by rfl, fun _ _ => rfl⟩) hS ?_
    simp only [Act.put, List.setIfInBounds_toArray, List.set_cons_zero, List.set_cons_succ, List.getElem_toArray, List.getElem_cons_succ, List.getElem_cons_zero]
    refine wpAnyH_take (i := 9) (v := .slice ob m cb) rfl (by kernel_rfl) (by kernel_rfl) (by kernel_rfl) (fun _ _ _ h => h) (.inl ⟨by rfl, fun _ _ => rfl⟩) hS ?_
    simp only [Act.put, List.setIfInBounds_toArray, List.set_cons_zero, List.set_cons_succ, List.getElem_toArray, List.getElem_cons_succ, List.getElem_cons_zero]
    refine wpAnyH_take (i := 11) (v := .slice oa n ca) rfl (by kernel_rfl) (by kernel_rfl) (by kernel_rfl) (fun _ _ _ h => h) (.inl ⟨by rfl, fun _ _ => rfl⟩) hS ?_
    simp only [Act.put, List.setIfInBounds_toArray, List.set_cons_zero, List.set_cons_succ, List.getElem_toArray, List.getElem_cons_succ, List.getElem_cons_zero]
    refine wpAnyH_take (i := 12) (v := .pointer (some ⟨w.heap.size, 0, none⟩)) rfl (by kernel_rfl) (by kernel_rfl) (by kernel_rfl) (fun _ _ _ h => h) (.inl ⟨by rfl, fun _ _ => by go_simp⟩) hS ?_
    simp only [Act.put, List.setIfInBounds_toArray, List.set_cons_zero, List.set_cons_succ, List.getElem_toArray, List.getElem_cons_succ, List.getElem_cons_zero]
    refine wpAnyH_take (i := 13) (v := .int .i64 xd) rfl (by kernel_rfl) (by kernel_rfl) (by kernel_rfl) (fun _ _ _ h => h) (.inl ⟨by rfl, fun w' hw' => by have c := (HSE.out w' hw').cell (blk_cell HBX.out HX0.out) id; go_simp⟩) hS ?_
    simp only [Act.put, List.setIfInBounds_toArray, List.set_cons_zero, List.set_cons_succ, List.getElem_toArray, List.getElem_cons_succ, List.getElem_cons_zero]
    refine wpAnyH_one (k := 1) rfl (by kernel_rfl) ?_
    go_wp2_with fail
    refine (told_of (rsort_any _ _ xs (by rw [HNxs.out]; exact HRxs.out.keep (HSE.out _ hS) fun _ _ => id) (by have := hlx.out; omega)) HE0.out).mono ?_
    rintro e wb ⟨v, rfl, ho2, hk⟩
    rw [HN0.out] at ho2
    obtain ⟨aQ0, cQ0, hvQ0, -, -⟩ := (Rd.of_owns ho2).form
    subst hvQ0
    obtain ⟨bQ0, hbQ0⟩ : ∃ b, wa.heap.size = b := ⟨_, rfl⟩
    rw [hbQ0] at ho2
    have hBQ0 : E ≤ bQ0 := by rw [← hbQ0]; exact Nat.le_trans hE' (HSE.out _ hS).size
    obtain ⟨eQ0, heQ0⟩ : ∃ b, wb.heap.size = b := ⟨_, rfl⟩
    have hEQ0 : bQ0 ≤ eQ0 := by rw [← hbQ0, ← heQ0]; exact hk.size
    have hzQ0 : eQ0 ≤ wb.heap.size := Nat.le_of_eq heQ0.symm
    have HFQ0 : Hid (∀ k, (Value.slice aQ0 n0 cQ0).ownBlock = some k → bQ0 ≤ k ∧ k < eQ0) := Lib.hid (fun k hk' => by have := ho2.lt k hk'; omega)
    have HOQ0 := Lib.hid ho2
    skip
    clear ho2 hbQ0 heQ0
    have hS1 := HSI.out _ ((HSE.out _ hS).trans hk)
    clear hS hk
    go_wp2_with fail
    refine ⟨hS1, ?_⟩
    refine wpAnyH_one (k := 4) rfl (by kernel_rfl) ?_
    go_wp2_with fail
    refine (told_of (runion_any _ _ _ xs ys (by rw [HNxs.out]; exact HRxs.out.keep (HSE.out _ hS1) fun _ _ => id) (by rw [HNys.out]; exact HRys.out.keep (HSE.out _ hS1) fun _ _ => id) (by have := hlx.out; have := hly.out; omega)) HE1.out).mono ?_
    rintro e wc ⟨v, rfl, ho2, hk⟩
    rw [HN1.out] at ho2
    obtain ⟨aQ1, cQ1, hvQ1, -, -⟩ := (Rd.of_owns ho2).form
    subst hvQ1
    obtain ⟨bQ1, hbQ1⟩ : ∃ b, wb.heap.size = b := ⟨_, rfl⟩
    rw [hbQ1] at ho2
    have hBQ1 : eQ0 ≤ bQ1 := by rw [← hbQ1]; omega
    obtain ⟨eQ1, heQ1⟩ : ∃ b, wc.heap.size = b := ⟨_, rfl⟩
    have hEQ1 : bQ1 ≤ eQ1 := by rw [← hbQ1, ← heQ1]; exact hk.size
    have hzQ1 : eQ1 ≤ wc.heap.size := Nat.le_of_eq heQ1.symm
    have HFQ1 : Hid (∀ k, (Value.slice aQ1 n1 cQ1).ownBlock = some k → bQ1 ≤ k ∧ k < eQ1) := Lib.hid (fun k hk' => by have := ho2.lt k hk'; omega)
    have HOQ1 := Lib.hid ho2
    have HOQ0 := Lib.hid (hk.owns HOQ0.out fun _ _ => id)
    clear ho2 hbQ1 heQ1
    have hS2 := HSI.out _ ((HSE.out _ hS1).trans hk)
    clear hS1 hk
    go_wp2_with fail
    refine ⟨hS2, ?_⟩
    refine wpAnyH_one (k := 7) rfl (by kernel_rfl) ?_
    go_wp2_with fail
    refine (told_of (rminus_any _ _ _ xs ys (by rw [HNxs.out]; exact HRxs.out.keep (HSE.out _ hS2) fun _ _ => id) (by rw [HNys.out]; exact HRys.out.keep (HSE.out _ hS2) fun _ _ => id) (by have := hlx.out; omega)) HE2.out).mono ?_
    rintro e wd ⟨v, rfl, ho2, hk⟩
    rw [HN2.out] at ho2
    obtain ⟨aQ2, cQ2, hvQ2, -, -⟩ := (Rd.of_owns ho2).form
    subst hvQ2
    obtain ⟨bQ2, hbQ2⟩ : ∃ b, wc.heap.size = b := ⟨_, rfl⟩
    rw [hbQ2] at ho2
    have hBQ2 : eQ1 ≤ bQ2 := by rw [← hbQ2]; omega
    obtain ⟨eQ2, heQ2⟩ : ∃ b, wd.heap.size = b := ⟨_, rfl⟩
    have hEQ2 : bQ2 ≤ eQ2 := by rw [← hbQ2, ← heQ2]; exact hk.size
    have hzQ2 : eQ2 ≤ wd.heap.size := Nat.le_of_eq heQ2.symm
    have HFQ2 : Hid (∀ k, (Value.slice aQ2 n2 cQ2).ownBlock = some k → bQ2 ≤ k ∧ k < eQ2) := Lib.hid (fun k hk' => by have := ho2.lt k hk'; omega)
    have HOQ2 := Lib.hid ho2
    have HOQ0 := Lib.hid (hk.owns HOQ0.out fun _ _ => id)
    have HOQ1 := Lib.hid (hk.owns HOQ1.out fun _ _ => id)
    clear ho2 hbQ2 heQ2
    have hS3 := HSI.out _ ((HSE.out _ hS2).trans hk)
    clear hS2 hk
    go_wp2_with fail
    refine ⟨hS3, ?_⟩
    refine wpAnyH_one (k := 10) rfl (by kernel_rfl) ?_
    go_wp2_with fail
    refine (told_of (rboth_any _ _ _ xs ys (by rw [HNxs.out]; exact HRxs.out.keep (HSE.out _ hS3) fun _ _ => id) (by rw [HNys.out]; exact HRys.out.keep (HSE.out _ hS3) fun _ _ => id) (by have := hlx.out; omega)) HE3.out).mono ?_
    rintro e we ⟨v, rfl, ho2, hk⟩
    rw [HN3.out] at ho2
    obtain ⟨aQ3, cQ3, hvQ3, -, -⟩ := (Rd.of_owns ho2).form
    subst hvQ3
    obtain ⟨bQ3, hbQ3⟩ : ∃ b, wd.heap.size = b := ⟨_, rfl⟩
    rw [hbQ3] at ho2
    have hBQ3 : eQ2 ≤ bQ3 := by rw [← hbQ3]; omega
    obtain ⟨eQ3, heQ3⟩ : ∃ b, we.heap.size = b := ⟨_, rfl⟩
    have hEQ3 : bQ3 ≤ eQ3 := by rw [← hbQ3, ← heQ3]; exact hk.size
    have hzQ3 : eQ3 ≤ we.heap.size := Nat.le_of_eq heQ3.symm
    have HFQ3 : Hid (∀ k, (Value.slice aQ3 n3 cQ3).ownBlock = some k → bQ3 ≤ k ∧ k < eQ3) := Lib.hid (fun k hk' => by have := ho2.lt k hk'; omega)
    have HOQ3 := Lib.hid ho2
    have HOQ0 := Lib.hid (hk.owns HOQ0.out fun _ _ => id)
    have HOQ1 := Lib.hid (hk.owns HOQ1.out fun _ _ => id)
    have HOQ2 := Lib.hid (hk.owns HOQ2.out fun _ _ => id)
    clear ho2 hbQ3 heQ3
    have hS4 := HSI.out _ ((HSE.out _ hS3).trans hk)
    clear hS3 hk
    go_wp2_with fail
    refine ⟨hS4, ?_⟩
    refine wpAnyH_one (k := 14) rfl (by kernel_rfl) ?_
    go_wp2_with fail
    refine (told_of (ron_any _ _ xs xd (by rw [HNxs.out]; exact HRxs.out.keep (HSE.out _ hS4) fun _ _ => id) (by have := hlx.out; omega)) HE4.out).mono ?_
    rintro e wf ⟨v, rfl, ho2, hk⟩
    rw [HN4.out] at ho2
    obtain ⟨aQ4, cQ4, hvQ4, -, -⟩ := (Rd.of_owns ho2).form
    subst hvQ4
    obtain ⟨bQ4, hbQ4⟩ : ∃ b, we.heap.size = b := ⟨_, rfl⟩
    rw [hbQ4] at ho2
    have hBQ4 : eQ3 ≤ bQ4 := by rw [← hbQ4]; omega
    obtain ⟨eQ4, heQ4⟩ : ∃ b, wf.heap.size = b := ⟨_, rfl⟩
    have hEQ4 : bQ4 ≤ eQ4 := by rw [← hbQ4, ← heQ4]; exact hk.size
    have hzQ4 : eQ4 ≤ wf.heap.size := Nat.le_of_eq heQ4.symm
    have HFQ4 : Hid (∀ k, (Value.slice aQ4 n4 cQ4).ownBlock = some k → bQ4 ≤ k ∧ k < eQ4) := Lib.hid (fun k hk' => by have := ho2.lt k hk'; omega)
    have HOQ4 := Lib.hid ho2
    have HOQ0 := Lib.hid (hk.owns HOQ0.out fun _ _ => id)
    have HOQ1 := Lib.hid (hk.owns HOQ1.out fun _ _ => id)
    have HOQ2 := Lib.hid (hk.owns HOQ2.out fun _ _ => id)
    have HOQ3 := Lib.hid (hk.owns HOQ3.out fun _ _ => id)
    clear ho2 hbQ4 heQ4
    have hS5 := HSI.out _ ((HSE.out _ hS4).trans hk)
    clear hS4 hk
    go_wp2_with fail
    refine ⟨hS5, ?_⟩
    refine wpAnyH_one (k := 15) rfl (by kernel_rfl) ?_
    obtain ⟨wg, hw9, hk, hb9, hs9⟩ := alloc_facts wf (([.slice aQ0 n0 cQ0, .slice aQ1 n1 cQ1, .slice aQ2 n2 cQ2, .slice aQ3 n3 cQ3, .slice aQ4 n4 cQ4] : List Value)).toArray 29
    obtain ⟨tQ, htQ⟩ : ∃ b, wf.heap.size = b := ⟨_, rfl⟩
    have hTQ : eQ4 ≤ tQ := by omega
    rw [htQ] at hb9
    have HTQ := Lib.hid hb9
    have hzQ : tQ < wg.heap.size := by omega
    have HOQ0 := Lib.hid (hk.owns HOQ0.out fun _ _ => id)
    have HOQ1 := Lib.hid (hk.owns HOQ1.out fun _ _ => id)
    have HOQ2 := Lib.hid (hk.owns HOQ2.out fun _ _ => id)
    have HOQ3 := Lib.hid (hk.owns HOQ3.out fun _ _ => id)
    have HOQ4 := Lib.hid (hk.owns HOQ4.out fun _ _ => id)
    have HTEQ := Lib.hid htQ
    clear hb9 hs9
    go_wp2_with fail
    try rw [hw9]
    try rw [htQ]
    clear hw9 htQ
    have hS6 := HSI.out _ ((HSE.out _ hS5).trans hk)
    clear hS5 hk
    refine ⟨hS6, ?_⟩
    refine wpAnyH_take (i := 16) (v := .slice (some ⟨tQ, 0, none⟩) 5 5) rfl (by kernel_rfl) (by kernel_rfl) (by kernel_rfl) (fun _ _ _ h => h) (.inl ⟨by rfl, fun _ _ => rfl⟩) hS6 ?_
    simp only [Act.put, List.setIfInBounds_toArray, List.set_cons_zero, List.set_cons_succ, List.getElem_toArray, List.getElem_cons_succ, List.getElem_cons_zero]
    refine wpAnyH_done (by kernel_rfl) ?_ _
    have HKR := Lib.hid (HSE.out _ hS6)
    clear hS6 HSE HSI
    have HRxs := Lib.hid (HRxs.out.keep HKR.out fun _ _ => id)
    have HRys := Lib.hid (HRys.out.keep HKR.out fun _ _ => id)
    have HBX := Lib.hid (HKR.out.blk HBX.out id)
    have HK := Lib.hid (HK.out.trans HKR.out)
    have HRI := Lib.hid (HRI.out.keep HKR.out fun _ _ => id)
    have HRJ := Lib.hid (HRJ.out.keep HKR.out fun _ _ => id)
    have HKZ := Lib.hid (HKZ.out.trans HKR.out)
    have HOP0 := Lib.hid (HKR.out.owns HOP0.out fun _ _ => id)
    have HOP1 := Lib.hid (HKR.out.owns HOP1.out fun _ _ => id)
    have HOP2 := Lib.hid (HKR.out.owns HOP2.out fun _ _ => id)
    have HOP3 := Lib.hid (HKR.out.owns HOP3.out fun _ _ => id)
    have HOP4 := Lib.hid (HKR.out.owns HOP4.out fun _ _ => id)
    have HTP := Lib.hid (HKR.out.blk HTP.out id)
    clear HKR
    obtain ⟨wz, rfl⟩ : ∃ wz : World, wz = wg := ⟨_, rfl⟩
    go_wp2_with fail
    go_loopw [11] (fun i wr => ∃ j : Nat, j ≤ 5 ∧ i = .int .i64 j ∧ Hid (j ≤ 0 → wr.ownsRow bP0 23 2 (.slice aP0 n0 cP0) n0 (adCells U0)) ∧ Hid (j ≤ 1 → wr.ownsRow bP1 23 2 (.slice aP1 n1 cP1) n1 (adCells U1)) ∧ Hid (j ≤ 2 → wr.ownsRow bP2 23 2 (.slice aP2 n2 cP2) n2 (adCells U2)) ∧ Hid (j ≤ 3 → wr.ownsRow bP3 23 2 (.slice aP3 n3 cP3) n3 (adCells U3)) ∧ Hid (j ≤ 4 → wr.ownsRow bP4 23 2 (.slice aP4 n4 cP4) n4 (adCells U4)) ∧ Hid (Keep (fun k => B ≤ k ∧ k < eP4) wz wr)) (fun i _ => 5 - (intOf i).toNat)
    case atStart => exact ⟨0, by omega, rfl, Lib.hid (fun _ => HOP0.out), Lib.hid (fun _ => HOP1.out), Lib.hid (fun _ => HOP2.out), Lib.hid (fun _ => HOP3.out), Lib.hid (fun _ => HOP4.out), Lib.hid (Keep.refl _ _)⟩
    case round =>
    obtain ⟨j, hj, rfl, HL0, HL1, HL2, HL3, HL4, HKL⟩ := hrel
    by_cases hlt : j < 5
    · have HTP := Lib.hid (HKL.out.blk HTP.out (by omega))
      have HTQ := Lib.hid (HKL.out.blk HTQ.out (by omega))
      have hj5 : j = 0 ∨ j = 1 ∨ j = 2 ∨ j = 3 ∨ j = 4 := by omega
      rcases hj5 with rfl | rfl | rfl | rfl | rfl
      · have HT0 := Lib.hid (HL0.out (by omega))
        have HQ0 := Lib.hid ((Rd.of_owns HOQ0.out).keep HKL.out (fun b hb h => by have := HFQ0.out b hb; omega))
        have HKW := Lib.hid HKL.out
        have HY1 := Lib.hid (HL1.out (by omega))
        have HY2 := Lib.hid (HL2.out (by omega))
        have HY3 := Lib.hid (HL3.out (by omega))
        have HY4 := Lib.hid (HL4.out (by omega))
        have HKM := Lib.hid (Keep.refl noBlk wr)
        go_wp2_with fail
        obtain ⟨S, hS0⟩ : ∃ S : World → Prop, S = fun w' => Keep noBlk wr w' := ⟨_, rfl⟩
        have HSE := Lib.hid (show ∀ w', S w' → Keep noBlk wr w' from fun w' h => by rw [hS0] at h; exact h)
        have HSI := Lib.hid (show ∀ w', Keep noBlk wr w' → S w' from fun w' h => by rw [hS0]; exact h)
        have hS : S wr.drew := by rw [hS0]; exact (Keep.refl _ _).drew
        clear hS0
        refine wp_region_held (S := S) (by kernel_rfl) ?_
        change wpAnyH _ _ _ _ _ _ _ _ wr.drew
        generalize wr.drew = wh at hS ⊢
        refine wpAnyH_take (i := 0) (v := .slice (some ⟨tP, 0, none⟩) 5 5) rfl (by kernel_rfl) (by kernel_rfl) (by kernel_rfl) (fun _ _ _ h => h) (.inl ⟨by rfl, fun _ _ => rfl⟩) hS ?_
        simp only [Act.put, List.setIfInBounds_toArray, List.set_cons_zero, List.set_cons_succ, List.getElem_toArray, List.getElem_cons_succ, List.getElem_cons_zero]
        refine wpAnyH_take (i := 1) (v := .int .i64 0) rfl (by kernel_rfl) (by kernel_rfl) (by kernel_rfl) (fun _ _ _ h => h) (.inl ⟨by rfl, fun _ _ => rfl⟩) hS ?_
        simp only [Act.put, List.setIfInBounds_toArray, List.set_cons_zero, List.set_cons_succ, List.getElem_toArray, List.getElem_cons_succ, List.getElem_cons_zero]
        refine wpAnyH_take (i := 2) (v := .pointer (some ⟨tP, 0, none⟩)) rfl (by kernel_rfl) (by kernel_rfl) (by kernel_rfl) (fun _ _ _ h => h) (.inl ⟨by rfl, fun _ _ => by go_simp⟩) hS ?_
        simp only [Act.put, List.setIfInBounds_toArray, List.set_cons_zero, List.set_cons_succ, List.getElem_toArray, List.getElem_cons_succ, List.getElem_cons_zero]
        refine wpAnyH_take (i := 3) (v := .slice aP0 n0 cP0) rfl (by kernel_rfl) (by kernel_rfl) (by kernel_rfl) (fun _ _ _ h => h) (.inl ⟨by rfl, fun w' hw' => by have c := (HSE.out w' hw').cell (blk_cell HTP.out (i := 0) rfl) id; go_simp⟩) hS ?_
        simp only [Act.put, List.setIfInBounds_toArray, List.set_cons_zero, List.set_cons_succ, List.getElem_toArray, List.getElem_cons_succ, List.getElem_cons_zero]
        refine wpAnyH_take (i := 4) (v := .slice (some ⟨tQ, 0, none⟩) 5 5) rfl (by kernel_rfl) (by kernel_rfl) (by kernel_rfl) (fun _ _ _ h => h) (.inl ⟨by rfl, fun _ _ => rfl⟩) hS ?_
        simp only [Act.put, List.setIfInBounds_toArray, List.set_cons_zero, List.set_cons_succ, List.getElem_toArray, List.getElem_cons_succ, List.getElem_cons_zero]
        refine wpAnyH_take (i := 5) (v := .int .i64 0) rfl (by kernel_rfl) (by kernel_rfl) (by kernel_rfl) (fun _ _ _ h => h) (.inl ⟨by rfl, fun _ _ => rfl⟩) hS ?_
        simp only [Act.put, List.setIfInBounds_toArray, List.set_cons_zero, List.set_cons_succ, List.getElem_toArray, List.getElem_cons_succ, List.getElem_cons_zero]
        refine wpAnyH_take (i := 6) (v := .pointer (some ⟨tQ, 0, none⟩)) rfl (by kernel_rfl) (by kernel_rfl) (by kernel_rfl) (fun _ _ _ h => h) (.inl ⟨by rfl, fun _ _ => by go_simp⟩) hS ?_
        simp only [Act.put, List.setIfInBounds_toArray, List.set_cons_zero, List.set_cons_succ, List.getElem_toArray, List.getElem_cons_succ, List.getElem_cons_zero]
        refine wpAnyH_take (i := 7) (v := .slice aQ0 n0 cQ0) rfl (by kernel_rfl) (by kernel_rfl) (by kernel_rfl) (fun _ _ _ h => h) (.inl ⟨by rfl, fun w' hw' => by have c := (HSE.out w' hw').cell (blk_cell HTQ.out (i := 0) rfl) id; go_simp⟩) hS ?_
        simp only [Act.put, List.setIfInBounds_toArray, List.set_cons_zero, List.set_cons_succ, List.getElem_toArray, List.getElem_cons_succ, List.getElem_cons_zero]
        refine wpAnyH_one (k := 8) rfl (by kernel_rfl) ?_
        go_wp2_with fail
        refine (same_any _ _ _ U0 U0 (by rw [HN0.out]; exact (Rd.of_owns HT0.out).keep (HSE.out _ hS) fun _ _ => id) (by rw [HN0.out]; exact HQ0.out.keep (HSE.out _ hS) fun _ _ => id) true (decide_eq_true rfl)).mono ?_
        rintro e wi ⟨rfl, hk⟩
        have hS1 := HSI.out _ ((HSE.out _ hS).trans hk)
        clear hS hk
        go_wp2_with fail
        refine ⟨hS1, ?_⟩
        refine wpAnyH_take (i := 9) (v := .bool false) rfl (by kernel_rfl) (by kernel_rfl) (by kernel_rfl) (fun _ _ _ h => h) (.inl ⟨by rfl, fun _ _ => by go_simp⟩) hS1 ?_
        simp only [Act.put, List.setIfInBounds_toArray, List.set_cons_zero, List.set_cons_succ, List.getElem_toArray, List.getElem_cons_succ, List.getElem_cons_zero]
        refine wpAnyH_done (by kernel_rfl) ?_ _
        have HKR := Lib.hid (HSE.out _ hS1)
        clear hS1 HSE HSI
        have HTP := Lib.hid (HKR.out.blk HTP.out id)
        have HTQ := Lib.hid (HKR.out.blk HTQ.out id)
        have HY1 := Lib.hid (HKR.out.owns HY1.out fun _ _ => id)
        have HY2 := Lib.hid (HKR.out.owns HY2.out fun _ _ => id)
        have HY3 := Lib.hid (HKR.out.owns HY3.out fun _ _ => id)
        have HY4 := Lib.hid (HKR.out.owns HY4.out fun _ _ => id)
        have HT0 := Lib.hid (HKR.out.owns HT0.out fun _ _ => id)
        have HQ0 := Lib.hid (HQ0.out.keep HKR.out fun _ _ => id)
        have HKM := Lib.hid (HKM.out.trans HKR.out)
        have hct := blk_cell HTP.out (i := 0) rfl
        go_wp2_with fail
        refine (over_any _ _ n0 _ _ HT0.out).mono ?_
        rintro e wo ⟨rfl, hko⟩
        have HY1 := Lib.hid (hko.owns HY1.out (fun b hb e => by have := HFP1.out b hb; have := HFP0.out b e; omega))
        have HY2 := Lib.hid (hko.owns HY2.out (fun b hb e => by have := HFP2.out b hb; have := HFP0.out b e; omega))
        have HY3 := Lib.hid (hko.owns HY3.out (fun b hb e => by have := HFP3.out b hb; have := HFP0.out b e; omega))
        have HY4 := Lib.hid (hko.owns HY4.out (fun b hb e => by have := HFP4.out b hb; have := HFP0.out b e; omega))
        have HKE := Lib.hid ((HKL.out.trans' HKM.out (U := fun k => B ≤ k ∧ k < eP4) (fun _ _ h => h) (fun _ _ h => h.elim)).trans' hko (U := fun k => B ≤ k ∧ k < eP4) (fun _ _ h => h) (fun b _ e => by have := HFP0.out b e; omega))
        clear hko hct
        go_wp2_with fail
        go_roundw
        case rel => exact ⟨1, by omega, by go_num, Lib.hid (fun h => absurd h (by omega)), Lib.hid (fun _ => HY1.out), Lib.hid (fun _ => HY2.out), Lib.hid (fun _ => HY3.out), Lib.hid (fun _ => HY4.out), HKE⟩
        case measure => simp [intOf]
      · have HT1 := Lib.hid (HL1.out (by omega))
        have HQ1 := Lib.hid ((Rd.of_owns HOQ1.out).keep HKL.out (fun b hb h => by have := HFQ1.out b hb; omega))
        have HKW := Lib.hid HKL.out
        have HY2 := Lib.hid (HL2.out (by omega))
        have HY3 := Lib.hid (HL3.out (by omega))
        have HY4 := Lib.hid (HL4.out (by omega))
        have HKM := Lib.hid (Keep.refl noBlk wr)
        go_wp2_with fail
        obtain ⟨S, hS0⟩ : ∃ S : World → Prop, S = fun w' => Keep noBlk wr w' := ⟨_, rfl⟩
        have HSE := Lib.hid (show ∀ w', S w' → Keep noBlk wr w' from fun w' h => by rw [hS0] at h; exact h)
        have HSI := Lib.hid (show ∀ w', Keep noBlk wr w' → S w' from fun w' h => by rw [hS0]; exact h)
        have hS : S wr.drew := by rw [hS0]; exact (Keep.refl _ _).drew
        clear hS0
        refine wp_region_held (S := S) (by kernel_rfl) ?_
        change wpAnyH _ _ _ _ _ _ _ _ wr.drew
        generalize wr.drew = wh at hS ⊢
        refine wpAnyH_take (i := 0) (v := .slice (some ⟨tP, 0, none⟩) 5 5) rfl (by kernel_rfl) (by kernel_rfl) (by kernel_rfl) (fun _ _ _ h => h) (.inl ⟨by rfl, fun _ _ => rfl⟩) hS ?_
        simp only [Act.put, List.setIfInBounds_toArray, List.set_cons_zero, List.set_cons_succ, List.getElem_toArray, List.getElem_cons_succ, List.getElem_cons_zero]
        refine wpAnyH_take (i := 1) (v := .int .i64 1) rfl (by kernel_rfl) (by kernel_rfl) (by kernel_rfl) (fun _ _ _ h => h) (.inl ⟨by rfl, fun _ _ => rfl⟩) hS ?_
        simp only [Act.put, List.setIfInBounds_toArray, List.set_cons_zero, List.set_cons_succ, List.getElem_toArray, List.getElem_cons_succ, List.getElem_cons_zero]
        refine wpAnyH_take (i := 2) (v := .pointer (some ⟨tP, 1, none⟩)) rfl (by kernel_rfl) (by kernel_rfl) (by kernel_rfl) (fun _ _ _ h => h) (.inl ⟨by rfl, fun _ _ => by go_simp⟩) hS ?_
        simp only [Act.put, List.setIfInBounds_toArray, List.set_cons_zero, List.set_cons_succ, List.getElem_toArray, List.getElem_cons_succ, List.getElem_cons_zero]
        refine wpAnyH_take (i := 3) (v := .slice aP1 n1 cP1) rfl (by kernel_rfl) (by kernel_rfl) (by kernel_rfl) (fun _ _ _ h => h) (.inl ⟨by rfl, fun w' hw' => by have c := (HSE.out w' hw').cell (blk_cell HTP.out (i := 1) rfl) id; go_simp⟩) hS ?_
        simp only [Act.put, List.setIfInBounds_toArray, List.set_cons_zero, List.set_cons_succ, List.getElem_toArray, List.getElem_cons_succ, List.getElem_cons_zero]
        refine wpAnyH_take (i := 4) (v := .slice (some ⟨tQ, 0, none⟩) 5 5) rfl (by kernel_rfl) (by kernel_rfl) (by kernel_rfl) (fun _ _ _ h => h) (.inl ⟨by rfl, fun _ _ => rfl⟩) hS ?_
        simp only [Act.put, List.setIfInBounds_toArray, List.set_cons_zero, List.set_cons_succ, List.getElem_toArray, List.getElem_cons_succ, List.getElem_cons_zero]
        refine wpAnyH_take (i := 5) (v := .int .i64 1) rfl (by kernel_rfl) (by kernel_rfl) (by kernel_rfl) (fun _ _ _ h => h) (.inl ⟨by rfl, fun _ _ => rfl⟩) hS ?_
        simp only [Act.put, List.setIfInBounds_toArray, List.set_cons_zero, List.set_cons_succ, List.getElem_toArray, List.getElem_cons_succ, List.getElem_cons_zero]
        refine wpAnyH_take (i := 6) (v := .pointer (some ⟨tQ, 1, none⟩)) rfl (by kernel_rfl) (by kernel_rfl) (by kernel_rfl) (fun _ _ _ h => h) (.inl ⟨by rfl, fun _ _ => by go_simp⟩) hS ?_
        simp only [Act.put, List.setIfInBounds_toArray, List.set_cons_zero, List.set_cons_succ, List.getElem_toArray, List.getElem_cons_succ, List.getElem_cons_zero]
        refine wpAnyH_take (i := 7) (v := .slice aQ1 n1 cQ1) rfl (by kernel_rfl) (by kernel_rfl) (by kernel_rfl) (fun _ _ _ h => h) (.inl ⟨by rfl, fun w' hw' => by have c := (HSE.out w' hw').cell (blk_cell HTQ.out (i := 1) rfl) id; go_simp⟩) hS ?_
        simp only [Act.put, List.setIfInBounds_toArray, List.set_cons_zero, List.set_cons_succ, List.getElem_toArray, List.getElem_cons_succ, List.getElem_cons_zero]
        refine wpAnyH_one (k := 8) rfl (by kernel_rfl) ?_
        go_wp2_with fail
        refine (same_any _ _ _ U1 U1 (by rw [HN1.out]; exact (Rd.of_owns HT1.out).keep (HSE.out _ hS) fun _ _ => id) (by rw [HN1.out]; exact HQ1.out.keep (HSE.out _ hS) fun _ _ => id) true (decide_eq_true rfl)).mono ?_
        rintro e wi ⟨rfl, hk⟩
        have hS1 := HSI.out _ ((HSE.out _ hS).trans hk)
        clear hS hk
        go_wp2_with fail
        refine ⟨hS1, ?_⟩
        refine wpAnyH_take (i := 9) (v := .bool false) rfl (by kernel_rfl) (by kernel_rfl) (by kernel_rfl) (fun _ _ _ h => h) (.inl ⟨by rfl, fun _ _ => by go_simp⟩) hS1 ?_
        simp only [Act.put, List.setIfInBounds_toArray, List.set_cons_zero, List.set_cons_succ, List.getElem_toArray, List.getElem_cons_succ, List.getElem_cons_zero]
        refine wpAnyH_done (by kernel_rfl) ?_ _
        have HKR := Lib.hid (HSE.out _ hS1)
        clear hS1 HSE HSI
        have HTP := Lib.hid (HKR.out.blk HTP.out id)
        have HTQ := Lib.hid (HKR.out.blk HTQ.out id)
        have HY2 := Lib.hid (HKR.out.owns HY2.out fun _ _ => id)
        have HY3 := Lib.hid (HKR.out.owns HY3.out fun _ _ => id)
        have HY4 := Lib.hid (HKR.out.owns HY4.out fun _ _ => id)
        have HT1 := Lib.hid (HKR.out.owns HT1.out fun _ _ => id)
        have HQ1 := Lib.hid (HQ1.out.keep HKR.out fun _ _ => id)
        have HKM := Lib.hid (HKM.out.trans HKR.out)
        have hct := blk_cell HTP.out (i := 1) rfl
        go_wp2_with fail
        refine (over_any _ _ n1 _ _ HT1.out).mono ?_
        rintro e wo ⟨rfl, hko⟩
        have HY2 := Lib.hid (hko.owns HY2.out (fun b hb e => by have := HFP2.out b hb; have := HFP1.out b e; omega))
        have HY3 := Lib.hid (hko.owns HY3.out (fun b hb e => by have := HFP3.out b hb; have := HFP1.out b e; omega))
        have HY4 := Lib.hid (hko.owns HY4.out (fun b hb e => by have := HFP4.out b hb; have := HFP1.out b e; omega))
        have HKE := Lib.hid ((HKL.out.trans' HKM.out (U := fun k => B ≤ k ∧ k < eP4) (fun _ _ h => h) (fun _ _ h => h.elim)).trans' hko (U := fun k => B ≤ k ∧ k < eP4) (fun _ _ h => h) (fun b _ e => by have := HFP1.out b e; omega))
        clear hko hct
        go_wp2_with fail
        go_roundw
        case rel => exact ⟨2, by omega, by go_num, Lib.hid (fun h => absurd h (by omega)), Lib.hid (fun h => absurd h (by omega)), Lib.hid (fun _ => HY2.out), Lib.hid (fun _ => HY3.out), Lib.hid (fun _ => HY4.out), HKE⟩
        case measure => simp [intOf]
      · have HT2 := Lib.hid (HL2.out (by omega))
        have HQ2 := Lib.hid ((Rd.of_owns HOQ2.out).keep HKL.out (fun b hb h => by have := HFQ2.out b hb; omega))
        have HKW := Lib.hid HKL.out
        have HY3 := Lib.hid (HL3.out (by omega))
        have HY4 := Lib.hid (HL4.out (by omega))
        have HKM := Lib.hid (Keep.refl noBlk wr)
        go_wp2_with fail
        obtain ⟨S, hS0⟩ : ∃ S : World → Prop, S = fun w' => Keep noBlk wr w' := ⟨_, rfl⟩
        have HSE := Lib.hid (show ∀ w', S w' → Keep noBlk wr w' from fun w' h => by rw [hS0] at h; exact h)
        have HSI := Lib.hid (show ∀ w', Keep noBlk wr w' → S w' from fun w' h => by rw [hS0]; exact h)
        have hS : S wr.drew := by rw [hS0]; exact (Keep.refl _ _).drew
        clear hS0
        refine wp_region_held (S := S) (by kernel_rfl) ?_
        change wpAnyH _ _ _ _ _ _ _ _ wr.drew
        generalize wr.drew = wh at hS ⊢
        refine wpAnyH_take (i := 0) (v := .slice (some ⟨tP, 0, none⟩) 5 5) rfl (by kernel_rfl) (by kernel_rfl) (by kernel_rfl) (fun _ _ _ h => h) (.inl ⟨by rfl, fun _ _ => rfl⟩) hS ?_
        simp only [Act.put, List.setIfInBounds_toArray, List.set_cons_zero, List.set_cons_succ, List.getElem_toArray, List.getElem_cons_succ, List.getElem_cons_zero]
        refine wpAnyH_take (i := 1) (v := .int .i64 2) rfl (by kernel_rfl) (by kernel_rfl) (by kernel_rfl) (fun _ _ _ h => h) (.inl ⟨by rfl, fun _ _ => rfl⟩) hS ?_
        simp only [Act.put, List.setIfInBounds_toArray, List.set_cons_zero, List.set_cons_succ, List.getElem_toArray, List.getElem_cons_succ, List.getElem_cons_zero]
        refine wpAnyH_take (i := 2) (v := .pointer (some ⟨tP, 2, none⟩)) rfl (by kernel_rfl) (by kernel_rfl) (by kernel_rfl) (fun _ _ _ h => h) (.inl ⟨by rfl, fun _ _ => by go_simp⟩) hS ?_
        simp only [Act.put, List.setIfInBounds_toArray, List.set_cons_zero, List.set_cons_succ, List.getElem_toArray, List.getElem_cons_succ, List.getElem_cons_zero]
        refine wpAnyH_take (i := 3) (v := .slice aP2 n2 cP2) rfl (by kernel_rfl) (by kernel_rfl) (by kernel_rfl) (fun _ _ _ h => h) (.inl ⟨by rfl, fun w' hw' => by have c := (HSE.out w' hw').cell (blk_cell HTP.out (i := 2) rfl) id; go_simp⟩) hS ?_
        simp only [Act.put, List.setIfInBounds_toArray, List.set_cons_zero, List.set_cons_succ, List.getElem_toArray, List.getElem_cons_succ, List.getElem_cons_zero]
        refine wpAnyH_take (i := 4) (v := .slice (some ⟨tQ, 0, none⟩) 5 5) rfl (by kernel_rfl) (by kernel_rfl) (by kernel_rfl) (fun _ _ _ h => h) (.inl ⟨by rfl, fun _ _ => rfl⟩) hS ?_
        simp only [Act.put, List.setIfInBounds_toArray, List.set_cons_zero, List.set_cons_succ, List.getElem_toArray, List.getElem_cons_succ, List.getElem_cons_zero]
        refine wpAnyH_take (i := 5) (v := .int .i64 2) rfl (by kernel_rfl) (by kernel_rfl) (by kernel_rfl) (fun _ _ _ h => h) (.inl ⟨by rfl, fun _ _ => rfl⟩) hS ?_
        simp only [Act.put, List.setIfInBounds_toArray, List.set_cons_zero, List.set_cons_succ, List.getElem_toArray, List.getElem_cons_succ, List.getElem_cons_zero]
        refine wpAnyH_take (i := 6) (v := .pointer (some ⟨tQ, 2, none⟩)) rfl (by kernel_rfl) (by kernel_rfl) (by kernel_rfl) (fun _ _ _ h => h) (.inl ⟨by rfl, fun _ _ => by go_simp⟩) hS ?_
        simp only [Act.put, List.setIfInBounds_toArray, List.set_cons_zero, List.set_cons_succ, List.getElem_toArray, List.getElem_cons_succ, List.getElem_cons_zero]
        refine wpAnyH_take (i := 7) (v := .slice aQ2 n2 cQ2) rfl (by kernel_rfl) (by kernel_rfl) (by kernel_rfl) (fun _ _ _ h => h) (.inl ⟨by rfl, fun w' hw' => by have c := (HSE.out w' hw').cell (blk_cell HTQ.out (i := 2) rfl) id; go_simp⟩) hS ?_
        simp only [Act.put, List.setIfInBounds_toArray, List.set_cons_zero, List.set_cons_succ, List.getElem_toArray, List.getElem_cons_succ, List.getElem_cons_zero]
        refine wpAnyH_one (k := 8) rfl (by kernel_rfl) ?_
        go_wp2_with fail
        refine (same_any _ _ _ U2 U2 (by rw [HN2.out]; exact (Rd.of_owns HT2.out).keep (HSE.out _ hS) fun _ _ => id) (by rw [HN2.out]; exact HQ2.out.keep (HSE.out _ hS) fun _ _ => id) true (decide_eq_true rfl)).mono ?_
        rintro e wi ⟨rfl, hk⟩
        have hS1 := HSI.out _ ((HSE.out _ hS).trans hk)
        clear hS hk
        go_wp2_with fail
        refine ⟨hS1, ?_⟩
        refine wpAnyH_take (i := 9) (v := .bool false) rfl (by kernel_rfl) (by kernel_rfl) (by kernel_rfl) (fun _ _ _ h => h) (.inl ⟨by rfl, fun _ _ => by go_simp⟩) hS1 ?_
        simp only [Act.put, List.setIfInBounds_toArray, List.set_cons_zero, List.set_cons_succ, List.getElem_toArray, List.getElem_cons_succ, List.getElem_cons_zero]
        refine wpAnyH_done (by kernel_rfl) ?_ _
        have HKR := Lib.hid (HSE.out _ hS1)
        clear hS1 HSE HSI
        have HTP := Lib.hid (HKR.out.blk HTP.out id)
        have HTQ := Lib.hid (HKR.out.blk HTQ.out id)
        have HY3 := Lib.hid (HKR.out.owns HY3.out fun _ _ => id)
        have HY4 := Lib.hid (HKR.out.owns HY4.out fun _ _ => id)
        have HT2 := Lib.hid (HKR.out.owns HT2.out fun _ _ => id)
        have HQ2 := Lib.hid (HQ2.out.keep HKR.out fun _ _ => id)
        have HKM := Lib.hid (HKM.out.trans HKR.out)
        have hct := blk_cell HTP.out (i := 2) rfl
        go_wp2_with fail
        refine (over_any _ _ n2 _ _ HT2.out).mono ?_
        rintro e wo ⟨rfl, hko⟩
        have HY3 := Lib.hid (hko.owns HY3.out (fun b hb e => by have := HFP3.out b hb; have := HFP2.out b e; omega))
        have HY4 := Lib.hid (hko.owns HY4.out (fun b hb e => by have := HFP4.out b hb; have := HFP2.out b e; omega))
        have HKE := Lib.hid ((HKL.out.trans' HKM.out (U := fun k => B ≤ k ∧ k < eP4) (fun _ _ h => h) (fun _ _ h => h.elim)).trans' hko (U := fun k => B ≤ k ∧ k < eP4) (fun _ _ h => h) (fun b _ e => by have := HFP2.out b e; omega))
        clear hko hct
        go_wp2_with fail
        go_roundw
        case rel => exact ⟨3, by omega, by go_num, Lib.hid (fun h => absurd h (by omega)), Lib.hid (fun h => absurd h (by omega)), Lib.hid (fun h => absurd h (by omega)), Lib.hid (fun _ => HY3.out), Lib.hid (fun _ => HY4.out), HKE⟩
        case measure => simp [intOf]
      · have HT3 := Lib.hid (HL3.out (by omega))
        have HQ3 := Lib.hid ((Rd.of_owns HOQ3.out).keep HKL.out (fun b hb h => by have := HFQ3.out b hb; omega))
        have HKW := Lib.hid HKL.out
        have HY4 := Lib.hid (HL4.out (by omega))
        have HKM := Lib.hid (Keep.refl noBlk wr)
        go_wp2_with fail
        obtain ⟨S, hS0⟩ : ∃ S : World → Prop, S = fun w' => Keep noBlk wr w' := ⟨_, rfl⟩
        have HSE := Lib.hid (show ∀ w', S w' → Keep noBlk wr w' from fun w' h => by rw [hS0] at h; exact h)
        have HSI := Lib.hid (show ∀ w', Keep noBlk wr w' → S w' from fun w' h => by rw [hS0]; exact h)
        have hS : S wr.drew := by rw [hS0]; exact (Keep.refl _ _).drew
        clear hS0
        refine wp_region_held (S := S) (by kernel_rfl) ?_
        change wpAnyH _ _ _ _ _ _ _ _ wr.drew
        generalize wr.drew = wh at hS ⊢
        refine wpAnyH_take (i := 0) (v := .slice (some ⟨tP, 0, none⟩) 5 5) rfl (by kernel_rfl) (by kernel_rfl) (by kernel_rfl) (fun _ _ _ h => h) (.inl ⟨by rfl, fun _ _ => rfl⟩) hS ?_
        simp only [Act.put, List.setIfInBounds_toArray, List.set_cons_zero, List.set_cons_succ, List.getElem_toArray, List.getElem_cons_succ, List.getElem_cons_zero]
        refine wpAnyH_take (i := 1) (v := .int .i64 3) rfl (by kernel_rfl) (by kernel_rfl) (by kernel_rfl) (fun _ _ _ h => h) (.inl ⟨by rfl, fun _ _ => rfl⟩) hS ?_
        simp only [Act.put, List.setIfInBounds_toArray, List.set_cons_zero, List.set_cons_succ, List.getElem_toArray, List.getElem_cons_succ, List.getElem_cons_zero]
        refine wpAnyH_take (i := 2) (v := .pointer (some ⟨tP, 3, none⟩)) rfl (by kernel_rfl) (by kernel_rfl) (by kernel_rfl) (fun _ _ _ h => h) (.inl ⟨by rfl, fun _ _ => by go_simp⟩) hS ?_
        simp only [Act.put, List.setIfInBounds_toArray, List.set_cons_zero, List.set_cons_succ, List.getElem_toArray, List.getElem_cons_succ, List.getElem_cons_zero]
        refine wpAnyH_take (i := 3) (v := .slice aP3 n3 cP3) rfl (by kernel_rfl) (by kernel_rfl) (by kernel_rfl) (fun _ _ _ h => h) (.inl ⟨by rfl, fun w' hw' => by have c := (HSE.out w' hw').cell (blk_cell HTP.out (i := 3) rfl) id; go_simp⟩) hS ?_
        simp only [Act.put, List.setIfInBounds_toArray, List.set_cons_zero, List.set_cons_succ, List.getElem_toArray, List.getElem_cons_succ, List.getElem_cons_zero]
        refine wpAnyH_take (i := 4) (v := .slice (some ⟨tQ, 0, none⟩) 5 5) rfl (by kernel_rfl) (by kernel_rfl) (by kernel_rfl) (fun _ _ _ h => h) (.inl ⟨by rfl, fun _ _ => rfl⟩) hS ?_
        simp only [Act.put, List.setIfInBounds_toArray, List.set_cons_zero, List.set_cons_succ, List.getElem_toArray, List.getElem_cons_succ, List.getElem_cons_zero]
        refine wpAnyH_take (i := 5) (v := .int .i64 3) rfl (by kernel_rfl) (by kernel_rfl) (by kernel_rfl) (fun _ _ _ h => h) (.inl ⟨by rfl, fun _ _ => rfl⟩) hS ?_
        simp only [Act.put, List.setIfInBounds_toArray, List.set_cons_zero, List.set_cons_succ, List.getElem_toArray, List.getElem_cons_succ, List.getElem_cons_zero]
        refine wpAnyH_take (i := 6) (v := .pointer (some ⟨tQ, 3, none⟩)) rfl (by kernel_rfl) (by kernel_rfl) (by kernel_rfl) (fun _ _ _ h => h) (.inl ⟨by rfl, fun _ _ => by go_simp⟩) hS ?_
        simp only [Act.put, List.setIfInBounds_toArray, List.set_cons_zero, List.set_cons_succ, List.getElem_toArray, List.getElem_cons_succ, List.getElem_cons_zero]
        refine wpAnyH_take (i := 7) (v := .slice aQ3 n3 cQ3) rfl (by kernel_rfl) (by kernel_rfl) (by kernel_rfl) (fun _ _ _ h => h) (.inl ⟨by rfl, fun w' hw' => by have c := (HSE.out w' hw').cell (blk_cell HTQ.out (i := 3) rfl) id; go_simp⟩) hS ?_
        simp only [Act.put, List.setIfInBounds_toArray, List.set_cons_zero, List.set_cons_succ, List.getElem_toArray, List.getElem_cons_succ, List.getElem_cons_zero]
        refine wpAnyH_one (k := 8) rfl (by kernel_rfl) ?_
        go_wp2_with fail
        refine (same_any _ _ _ U3 U3 (by rw [HN3.out]; exact (Rd.of_owns HT3.out).keep (HSE.out _ hS) fun _ _ => id) (by rw [HN3.out]; exact HQ3.out.keep (HSE.out _ hS) fun _ _ => id) true (decide_eq_true rfl)).mono ?_
        rintro e wi ⟨rfl, hk⟩
        have hS1 := HSI.out _ ((HSE.out _ hS).trans hk)
        clear hS hk
        go_wp2_with fail
        refine ⟨hS1, ?_⟩
        refine wpAnyH_take (i := 9) (v := .bool false) rfl (by kernel_rfl) (by kernel_rfl) (by kernel_rfl) (fun _ _ _ h => h) (.inl ⟨by rfl, fun _ _ => by go_simp⟩) hS1 ?_
        simp only [Act.put, List.setIfInBounds_toArray, List.set_cons_zero, List.set_cons_succ, List.getElem_toArray, List.getElem_cons_succ, List.getElem_cons_zero]
        refine wpAnyH_done (by kernel_rfl) ?_ _
        have HKR := Lib.hid (HSE.out _ hS1)
        clear hS1 HSE HSI
        have HTP := Lib.hid (HKR.out.blk HTP.out id)
        have HTQ := Lib.hid (HKR.out.blk HTQ.out id)
        have HY4 := Lib.hid (HKR.out.owns HY4.out fun _ _ => id)
        have HT3 := Lib.hid (HKR.out.owns HT3.out fun _ _ => id)
        have HQ3 := Lib.hid (HQ3.out.keep HKR.out fun _ _ => id)
        have HKM := Lib.hid (HKM.out.trans HKR.out)
        have hct := blk_cell HTP.out (i := 3) rfl
        go_wp2_with fail
        refine (over_any _ _ n3 _ _ HT3.out).mono ?_
        rintro e wo ⟨rfl, hko⟩
        have HY4 := Lib.hid (hko.owns HY4.out (fun b hb e => by have := HFP4.out b hb; have := HFP3.out b e; omega))
        have HKE := Lib.hid ((HKL.out.trans' HKM.out (U := fun k => B ≤ k ∧ k < eP4) (fun _ _ h => h) (fun _ _ h => h.elim)).trans' hko (U := fun k => B ≤ k ∧ k < eP4) (fun _ _ h => h) (fun b _ e => by have := HFP3.out b e; omega))
        clear hko hct
        go_wp2_with fail
        go_roundw
        case rel => exact ⟨4, by omega, by go_num, Lib.hid (fun h => absurd h (by omega)), Lib.hid (fun h => absurd h (by omega)), Lib.hid (fun h => absurd h (by omega)), Lib.hid (fun h => absurd h (by omega)), Lib.hid (fun _ => HY4.out), HKE⟩
        case measure => simp [intOf]
      · have HT4 := Lib.hid (HL4.out (by omega))
        have HQ4 := Lib.hid ((Rd.of_owns HOQ4.out).keep HKL.out (fun b hb h => by have := HFQ4.out b hb; omega))
        have HKW := Lib.hid HKL.out
        have HKM := Lib.hid (Keep.refl noBlk wr)
        go_wp2_with fail
        obtain ⟨S, hS0⟩ : ∃ S : World → Prop, S = fun w' => Keep noBlk wr w' := ⟨_, rfl⟩
        have HSE := Lib.hid (show ∀ w', S w' → Keep noBlk wr w' from fun w' h => by rw [hS0] at h; exact h)
        have HSI := Lib.hid (show ∀ w', Keep noBlk wr w' → S w' from fun w' h => by rw [hS0]; exact h)
        have hS : S wr.drew := by rw [hS0]; exact (Keep.refl _ _).drew
        clear hS0
        refine wp_region_held (S := S) (by kernel_rfl) ?_
        change wpAnyH _ _ _ _ _ _ _ _ wr.drew
        generalize wr.drew = wh at hS ⊢
        refine wpAnyH_take (i := 0) (v := .slice (some ⟨tP, 0, none⟩) 5 5) rfl (by kernel_rfl) (by kernel_rfl) (by kernel_rfl) (fun _ _ _ h => h) (.inl ⟨by rfl, fun _ _ => rfl⟩) hS ?_
        simp only [Act.put, List.setIfInBounds_toArray, List.set_cons_zero, List.set_cons_succ, List.getElem_toArray, List.getElem_cons_succ, List.getElem_cons_zero]
        refine wpAnyH_take (i := 1) (v := .int .i64 4) rfl (by kernel_rfl) (by kernel_rfl) (by kernel_rfl) (fun _ _ _ h => h) (.inl ⟨by rfl, fun _ _ => rfl⟩) hS ?_
        simp only [Act.put, List.setIfInBounds_toArray, List.set_cons_zero, List.set_cons_succ, List.getElem_toArray, List.getElem_cons_succ, List.getElem_cons_zero]
        refine wpAnyH_take (i := 2) (v := .pointer (some ⟨tP, 4, none⟩)) rfl (by kernel_rfl) (by kernel_rfl) (by kernel_rfl) (fun _ _ _ h => h) (.inl ⟨by rfl, fun _ _ => by go_simp⟩) hS ?_
        simp only [Act.put, List.setIfInBounds_toArray, List.set_cons_zero, List.set_cons_succ, List.getElem_toArray, List.getElem_cons_succ, List.getElem_cons_zero]
        refine wpAnyH_take (i := 3) (v := .slice aP4 n4 cP4) rfl (by kernel_rfl) (by kernel_rfl) (by kernel_rfl) (fun _ _ _ h => h) (.inl ⟨by rfl, fun w' hw' => by have c := (HSE.out w' hw').cell (blk_cell HTP.out (i := 4) rfl) id; go_simp⟩) hS ?_
        simp only [Act.put, List.setIfInBounds_toArray, List.set_cons_zero, List.set_cons_succ, List.getElem_toArray, List.getElem_cons_succ, List.getElem_cons_zero]
        refine wpAnyH_take (i := 4) (v := .slice (some ⟨tQ, 0, none⟩) 5 5) rfl (by kernel_rfl) (by kernel_rfl) (by kernel_rfl) (fun _ _ _ h => h) (.inl ⟨by rfl, fun _ _ => rfl⟩) hS ?_
        simp only [Act.put, List.setIfInBounds_toArray, List.set_cons_zero, List.set_cons_succ, List.getElem_toArray, List.getElem_cons_succ, List.getElem_cons_zero]
        refine wpAnyH_take (i := 5) (v := .int .i64 4) rfl (by kernel_rfl) (by kernel_rfl) (by kernel_rfl) (fun _ _ _ h => h) (.inl ⟨by rfl, fun _ _ => rfl⟩) hS ?_
        simp only [Act.put, List.setIfInBounds_toArray, List.set_cons_zero, List.set_cons_succ, List.getElem_toArray, List.getElem_cons_succ, List.getElem_cons_zero]
        refine wpAnyH_take (i := 6) (v := .pointer (some ⟨tQ, 4, none⟩)) rfl (by kernel_rfl) (by kernel_rfl) (by kernel_rfl) (fun _ _ _ h => h) (.inl ⟨by rfl, fun _ _ => by go_simp⟩) hS ?_
        simp only [Act.put, List.setIfInBounds_toArray, List.set_cons_zero, List.set_cons_succ, List.getElem_toArray, List.getElem_cons_succ, List.getElem_cons_zero]
        refine wpAnyH_take (i := 7) (v := .slice aQ4 n4 cQ4) rfl (by kernel_rfl) (by kernel_rfl) (by kernel_rfl) (fun _ _ _ h => h) (.inl ⟨by rfl, fun w' hw' => by have c := (HSE.out w' hw').cell (blk_cell HTQ.out (i := 4) rfl) id; go_simp⟩) hS ?_
        simp only [Act.put, List.setIfInBounds_toArray, List.set_cons_zero, List.set_cons_succ, List.getElem_toArray, List.getElem_cons_succ, List.getElem_cons_zero]
        refine wpAnyH_one (k := 8) rfl (by kernel_rfl) ?_
        go_wp2_with fail
        refine (same_any _ _ _ U4 U4 (by rw [HN4.out]; exact (Rd.of_owns HT4.out).keep (HSE.out _ hS) fun _ _ => id) (by rw [HN4.out]; exact HQ4.out.keep (HSE.out _ hS) fun _ _ => id) true (decide_eq_true rfl)).mono ?_
        rintro e wi ⟨rfl, hk⟩
        have hS1 := HSI.out _ ((HSE.out _ hS).trans hk)
        clear hS hk
        go_wp2_with fail
        refine ⟨hS1, ?_⟩
        refine wpAnyH_take (i := 9) (v := .bool false) rfl (by kernel_rfl) (by kernel_rfl) (by kernel_rfl) (fun _ _ _ h => h) (.inl ⟨by rfl, fun _ _ => by go_simp⟩) hS1 ?_
        simp only [Act.put, List.setIfInBounds_toArray, List.set_cons_zero, List.set_cons_succ, List.getElem_toArray, List.getElem_cons_succ, List.getElem_cons_zero]
        refine wpAnyH_done (by kernel_rfl) ?_ _
        have HKR := Lib.hid (HSE.out _ hS1)
        clear hS1 HSE HSI
        have HTP := Lib.hid (HKR.out.blk HTP.out id)
        have HTQ := Lib.hid (HKR.out.blk HTQ.out id)
        have HT4 := Lib.hid (HKR.out.owns HT4.out fun _ _ => id)
        have HQ4 := Lib.hid (HQ4.out.keep HKR.out fun _ _ => id)
        have HKM := Lib.hid (HKM.out.trans HKR.out)
        have hct := blk_cell HTP.out (i := 4) rfl
        go_wp2_with fail
        refine (over_any _ _ n4 _ _ HT4.out).mono ?_
        rintro e wo ⟨rfl, hko⟩
        skip
        have HKE := Lib.hid ((HKL.out.trans' HKM.out (U := fun k => B ≤ k ∧ k < eP4) (fun _ _ h => h) (fun _ _ h => h.elim)).trans' hko (U := fun k => B ≤ k ∧ k < eP4) (fun _ _ h => h) (fun b _ e => by have := HFP4.out b e; omega))
        clear hko hct
        go_wp2_with fail
        go_roundw
        case rel => exact ⟨5, by omega, by go_num, Lib.hid (fun h => absurd h (by omega)), Lib.hid (fun h => absurd h (by omega)), Lib.hid (fun h => absurd h (by omega)), Lib.hid (fun h => absurd h (by omega)), Lib.hid (fun h => absurd h (by omega)), HKE⟩
        case measure => simp [intOf]
    · obtain rfl : j = 5 := by omega
      have HKL2 := Lib.hid (HKZ.out.trans' HKL.out (U := fun k => B ≤ k ∧ k < eP4) (fun _ _ h => h.elim) (fun _ _ h => h))
      have hfar : ∀ k, k < w2.heap.size → ¬ (B ≤ k ∧ k < eP4) := fun k hk => by have := HBE.out; omega
      have HRxs := Lib.hid (HRxA.out.keep_lt HKL2.out hfar); have HRys := Lib.hid (HRyA.out.keep_lt HKL2.out hfar)
      have HRI := Lib.hid (HRIA.out.keep_lt HKL2.out hfar); have HRJ := Lib.hid (HRJA.out.keep_lt HKL2.out hfar)
      have HBX := Lib.hid (HKL2.out.blk HBXA.out (by omega))
      have HK := Lib.hid (HKA.out.trans' HKL2.out (U := noBlk) (fun _ _ h => h) (fun i hi h => by omega))
      have CH1 := Lib.hid (fun w v (h : Rd w 2 v xs.length (adCells xs)) => has_any w v xs x h); have CH2 := Lib.hid (fun w v (h : Rd w 2 v xs.length (adCells xs)) => rhas_any w v xs x h)
      have CA1 := Lib.hid (fun w v (h : Rd w 2 v xs.length (adCells xs)) => apart_any w v xs HAxs.out h); have CA2 := Lib.hid (fun w v (h : Rd w 2 v xs.length (adCells xs)) => rapart_any w v xs h)
      rw [HHX.out] at CH1 CH2
      rw [HAP.out] at CA1 CA2
      have he1 : ∀ w, (binOp .neq 4 (.bool hx) (.bool hx)).run Try.prog w = .ok (.bool false) w := fun w => by cases hx <;> kernel_rfl
      have he2 : ∀ w, (binOp .neq 4 (.bool ap) (.bool ap)).run Try.prog w = .ok (.bool false) w := fun w => by cases ap <;> kernel_rfl
      clear hfar
      go_wp2_with fail
      obtain ⟨S, hS0⟩ : ∃ S : World → Prop, S = fun w' => Keep noBlk wr w' := ⟨_, rfl⟩
      have HSE := Lib.hid (show ∀ w', S w' → Keep noBlk wr w' from fun w' h => by rw [hS0] at h; exact h)
      have HSI := Lib.hid (show ∀ w', Keep noBlk wr w' → S w' from fun w' h => by rw [hS0]; exact h)
      have hS : S wr.drew := by rw [hS0]; exact (Keep.refl _ _).drew
      clear hS0
      refine wp_region_held (S := S) (by kernel_rfl) ?_
      change wpAnyH _ _ _ _ _ _ _ _ wr.drew
      generalize wr.drew = wh at hS ⊢
      refine wpAnyH_take (i := 0) (v := .slice aI n cI) rfl (by kernel_rfl) (by kernel_rfl) (by kernel_rfl) (fun _ _ _ h => h) (.inl ⟨by rfl, fun _ _ => rfl⟩) hS ?_
      simp only [Act.put, List.setIfInBounds_toArray, List.set_cons_zero, List.set_cons_succ, List.getElem_toArray, List.getElem_cons_succ, List.getElem_cons_zero]
      refine wpAnyH_take (i := 1) (v := .agg (adCs x).toArray) rfl (by kernel_rfl) (by kernel_rfl) (by kernel_rfl) (fun _ _ _ h => h) (yieldsIf_load_mid (by rfl) 23 (.tmp 5) rfl (w.heap.size) (0) rfl (adCs x) _ (fun w' h => rangeAt_whole ((HSE.out w' h).blk HBX.out id)) adUnder rfl sizeAd) hS ?_
      simp only [Act.put, List.setIfInBounds_toArray, List.set_cons_zero, List.set_cons_succ, List.getElem_toArray, List.getElem_cons_succ, List.getElem_cons_zero]
      refine wpAnyH_take (i := 3) (v := .slice oa n ca) rfl (by kernel_rfl) (by kernel_rfl) (by kernel_rfl) (fun _ _ _ h => h) (.inl ⟨by rfl, fun _ _ => rfl⟩) hS ?_
      simp only [Act.put, List.setIfInBounds_toArray, List.set_cons_zero, List.set_cons_succ, List.getElem_toArray, List.getElem_cons_succ, List.getElem_cons_zero]
      refine wpAnyH_take (i := 4) (v := .agg (adCs x).toArray) rfl (by kernel_rfl) (by kernel_rfl) (by kernel_rfl) (fun _ _ _ h => h) (yieldsIf_load_mid (by rfl) 23 (.tmp 5) rfl (w.heap.size) (0) rfl (adCs x) _ (fun w' h => rangeAt_whole ((HSE.out w' h).blk HBX.out id)) adUnder rfl sizeAd) hS ?_
      simp only [Act.put, List.setIfInBounds_toArray, List.set_cons_zero, List.set_cons_succ, List.getElem_toArray, List.getElem_cons_succ, List.getElem_cons_zero]
      refine wpAnyH_one (k := 2) rfl (by kernel_rfl) ?_
      go_wp2_with fail
      refine (CH1.out _ _ (by rw [HNxs.out]; exact HRI.out.keep (HSE.out _ hS) fun _ _ => id)).mono ?_
      rintro e wi ⟨rfl, hk⟩
      have hS1 := HSI.out _ ((HSE.out _ hS).trans hk)
      clear hS hk
      go_wp2_with fail
      refine ⟨hS1, ?_⟩
      refine wpAnyH_one (k := 5) rfl (by kernel_rfl) ?_
      go_wp2_with fail
      refine (CH2.out _ _ (by rw [HNxs.out]; exact HRxs.out.keep (HSE.out _ hS1) fun _ _ => id)).mono ?_
      rintro e wj ⟨rfl, hk⟩
      have hS2 := HSI.out _ ((HSE.out _ hS1).trans hk)
      clear hS1 hk
      go_wp2_with fail
      refine ⟨hS2, ?_⟩
      refine wpAnyH_take (i := 6) (v := .bool false) rfl (by kernel_rfl) (by kernel_rfl) (by kernel_rfl) (fun _ _ _ h => h) (.inl ⟨by rfl, fun _ _ => by go_simp⟩) hS2 ?_
      simp only [Act.put, List.setIfInBounds_toArray, List.set_cons_zero, List.set_cons_succ, List.getElem_toArray, List.getElem_cons_succ, List.getElem_cons_zero]
      refine wpAnyH_take (i := 7) (v := .bool false) rfl (by kernel_rfl) (by kernel_rfl) (by kernel_rfl) (fun _ _ _ h => h) (.inl ⟨by rfl, fun _ _ => rfl⟩) hS2 ?_
      simp only [Act.put, List.setIfInBounds_toArray, List.set_cons_zero, List.set_cons_succ, List.getElem_toArray, List.getElem_cons_succ, List.getElem_cons_zero]
      refine wpAnyH_take (i := 8) (v := .slice aI n cI) rfl (by kernel_rfl) (by kernel_rfl) (by kernel_rfl) (fun _ _ _ h => h) (.inl ⟨by rfl, fun _ _ => rfl⟩) hS2 ?_
      simp only [Act.put, List.setIfInBounds_toArray, List.set_cons_zero, List.set_cons_succ, List.getElem_toArray, List.getElem_cons_succ, List.getElem_cons_zero]
      refine wpAnyH_take (i := 10) (v := .slice oa n ca) rfl (by kernel_rfl) (by kernel_rfl) (by kernel_rfl) (fun _ _ _ h => h) (.inl ⟨by rfl, fun _ _ => rfl⟩) hS2 ?_
      simp only [Act.put, List.setIfInBounds_toArray, List.set_cons_zero, List.set_cons_succ, List.getElem_toArray, List.getElem_cons_succ, List.getElem_cons_zero]
      refine wpAnyH_one (k := 9) rfl (by kernel_rfl) ?_
      go_wp2_with fail
      refine (CA1.out _ _ (by rw [HNxs.out]; exact HRI.out.keep (HSE.out _ hS2) fun _ _ => id)).mono ?_
      rintro e wk ⟨rfl, hk⟩
      have hS3 := HSI.out _ ((HSE.out _ hS2).trans hk)
      clear hS2 hk
      go_wp2_with fail
      refine ⟨hS3, ?_⟩
      refine wpAnyH_one (k := 11) rfl (by kernel_rfl) ?_
      go_wp2_with fail
      refine (CA2.out _ _ (by rw [HNxs.out]; exact HRxs.out.keep (HSE.out _ hS3) fun _ _ => id)).mono ?_
      rintro e wl ⟨rfl, hk⟩
      have hS4 := HSI.out _ ((HSE.out _ hS3).trans hk)
      clear hS3 hk
      go_wp2_with fail
      refine ⟨hS4, ?_⟩
      refine wpAnyH_take (i := 12) (v := .bool false) rfl (by kernel_rfl) (by kernel_rfl) (by kernel_rfl) (fun _ _ _ h => h) (.inl ⟨by rfl, fun _ _ => by go_simp⟩) hS4 ?_
      simp only [Act.put, List.setIfInBounds_toArray, List.set_cons_zero, List.set_cons_succ, List.getElem_toArray, List.getElem_cons_succ, List.getElem_cons_zero]
      refine wpAnyH_take (i := 13) (v := .bool false) rfl (by kernel_rfl) (by kernel_rfl) (by kernel_rfl) (fun _ _ _ h => h) (.inl ⟨by rfl, fun _ _ => rfl⟩) hS4 ?_
      simp only [Act.put, List.setIfInBounds_toArray, List.set_cons_zero, List.set_cons_succ, List.getElem_toArray, List.getElem_cons_succ, List.getElem_cons_zero]
      refine wpAnyH_done (by kernel_rfl) ?_ _
      have HKR := Lib.hid (HSE.out _ hS4)
      clear hS4 HSE HSI
      have HRxs := Lib.hid (HRxs.out.keep HKR.out fun _ _ => id)
      have HRys := Lib.hid (HRys.out.keep HKR.out fun _ _ => id)
      have HRI := Lib.hid (HRI.out.keep HKR.out fun _ _ => id)
      have HRJ := Lib.hid (HRJ.out.keep HKR.out fun _ _ => id)
      have HBX := Lib.hid (HKR.out.blk HBX.out id)
      have HK := Lib.hid (HK.out.trans HKR.out)
      clear he1 he2
      go_wp2_with fail
      refine (same_any _ _ _ xs xs (by rw [HNxs.out]; exact HRI.out) (by rw [HNxs.out]; exact HRxs.out) true (decide_eq_true rfl)).mono ?_
      rintro e wm ⟨rfl, hk⟩
      have HRxs := Lib.hid (HRxs.out.keep hk fun _ _ => id)
      have HRys := Lib.hid (HRys.out.keep hk fun _ _ => id)
      have HRI := Lib.hid (HRI.out.keep hk fun _ _ => id)
      have HRJ := Lib.hid (HRJ.out.keep hk fun _ _ => id)
      have HBX := Lib.hid (hk.blk HBX.out id)
      have HK := Lib.hid (HK.out.trans hk)
      clear hk
      go_wp2_with fail
      refine (same_any _ _ _ ys ys (by rw [HNys.out]; exact HRJ.out) (by rw [HNys.out]; exact HRys.out) true (decide_eq_true rfl)).mono ?_
      rintro e wn ⟨rfl, hk⟩
      have HRxs := Lib.hid (HRxs.out.keep hk fun _ _ => id)
      have HRys := Lib.hid (HRys.out.keep hk fun _ _ => id)
      have HRI := Lib.hid (HRI.out.keep hk fun _ _ => id)
      have HRJ := Lib.hid (HRJ.out.keep hk fun _ _ => id)
      have HBX := Lib.hid (hk.blk HBX.out id)
      have HK := Lib.hid (HK.out.trans hk)
      clear hk
      go_wp2_with fail
      refine (CW.out _).mono ?_
      rintro e wo ⟨rfl, hk⟩
      have HRxs := Lib.hid (HRxs.out.keep hk fun _ _ => id)
      have HRys := Lib.hid (HRys.out.keep hk fun _ _ => id)
      have HRI := Lib.hid (HRI.out.keep hk fun _ _ => id)
      have HRJ := Lib.hid (HRJ.out.keep hk fun _ _ => id)
      have HBX := Lib.hid (hk.blk HBX.out id)
      have HK := Lib.hid (HK.out.trans hk)
      clear hk
      go_wp2_with fail
      go_ret
      exact ⟨rfl, HK.out⟩
end Go.Proofs.Ytnpmiocajmhjoaa
