/-
  AddrParts: what each has alone, and what both have, are what either has.
  Conditions: none but those of the given statement.
-/
import Derived.Test.YtnpmiocajmhjoaaAddrKnown
import Derived.Test.YtnpmiocajmhjoaaAddrApart
namespace Go.Proofs.Ytnpmiocajmhjoaa
open Go.RowKit Go.Maps Go.ChangeMaps
set_option maxRecDepth 100000
set_option linter.unusedVariables false

/-- What the parts of two lists are to each other. -/
structure Parts (xs ys A B C D : List Ad) : Prop where
  len : A.length + B.length + C.length = D.length
  w1 : ∀ x ∈ A, x ∈ xs
  w2 : ∀ x ∈ B, x ∈ ys
  w3 : ∀ x ∈ C, x ∈ xs
  w4 : ∀ x ∈ C, x ∈ ys
  w5 : ∀ x ∈ xs, x ∈ D
  w6 : ∀ x ∈ ys, x ∈ D
  e1 : canon (A.filter fun x => decide (x ∈ ys)) = []
  e2 : canon (B.filter fun x => decide (x ∈ xs)) = []
  e3 : canon (A.filter fun x => decide (x ∈ B)) = []
  e4 : canon (canon (A ++ C) ++ B) = D
  e5 : canon (ys ++ xs) = D
  e6 : canon D = D
theorem canon_none {l : List Ad} (h : ∀ x, x ∉ l) : canon l = [] := by
  rw [List.eq_nil_iff_forall_not_mem.2 h]; exact canon_nil
theorem parts_laws (xs ys : List Ad) : Parts xs ys (canon (xs.filter fun x => !decide (x ∈ ys))) (canon (ys.filter fun x => !decide (x ∈ xs))) (canon (xs.filter fun x => decide (x ∈ ys))) (canon (xs ++ ys)) := by
  have mA : ∀ x, x ∈ canon (xs.filter fun x => !decide (x ∈ ys)) ↔ x ∈ xs ∧ x ∉ ys := fun x => by rw [mem_canon, List.mem_filter]; simp
  have mB : ∀ x, x ∈ canon (ys.filter fun x => !decide (x ∈ xs)) ↔ x ∈ ys ∧ x ∉ xs := fun x => by rw [mem_canon, List.mem_filter]; simp
  have mC : ∀ x, x ∈ canon (xs.filter fun x => decide (x ∈ ys)) ↔ x ∈ xs ∧ x ∈ ys := fun x => by rw [mem_canon, List.mem_filter]; simp
  have mD : ∀ x, x ∈ canon (xs ++ ys) ↔ x ∈ xs ∨ x ∈ ys := fun x => by rw [mem_canon, List.mem_append]
  have nA := rises_nodup (canon_rises (xs.filter fun x => !decide (x ∈ ys)))
  have nB := rises_nodup (canon_rises (ys.filter fun x => !decide (x ∈ xs)))
  have nC := rises_nodup (canon_rises (xs.filter fun x => decide (x ∈ ys)))
  have nD := rises_nodup (canon_rises (xs ++ ys))
  have rD := canon_rises (xs ++ ys)
  generalize canon (xs.filter fun x => !decide (x ∈ ys)) = A at *
  generalize canon (ys.filter fun x => !decide (x ∈ xs)) = B at *
  generalize canon (xs.filter fun x => decide (x ∈ ys)) = C at *
  generalize hD : canon (xs ++ ys) = D at *
  refine ⟨?_, fun x h => ((mA x).1 h).1, fun x h => ((mB x).1 h).1, fun x h => ((mC x).1 h).1, fun x h => ((mC x).1 h).2, fun x h => (mD x).2 (.inl h), fun x h => (mD x).2 (.inr h), ?_, ?_, ?_, ?_, ?_, ?_⟩
  · have hn : (A ++ B ++ C).Nodup := by
      rw [List.nodup_append, List.nodup_append]
      refine ⟨⟨nA, nB, fun x hx y hy e => ?_⟩, nC, fun x hx y hy e => ?_⟩
      · subst e
        exact ((mA x).1 hx).2 ((mB x).1 hy).1
      · subst e
        rcases List.mem_append.1 hx with h | h
        · exact ((mA x).1 h).2 ((mC x).1 hy).2
        · exact ((mB x).1 h).2 ((mC x).1 hy).1
    have hp : (A ++ B ++ C).Perm D := perm_of_nodup hn nD fun x => by
      rw [List.mem_append, List.mem_append, mA, mB, mC, mD]
      constructor
      · rintro ((h | h) | h)
        · exact .inl h.1
        · exact .inr h.1
        · exact .inl h.1
      · rintro (h | h)
        · by_cases h' : x ∈ ys
          · exact .inr ⟨h, h'⟩
          · exact .inl (.inl ⟨h, h'⟩)
        · by_cases h' : x ∈ xs
          · exact .inr ⟨h', h⟩
          · exact .inl (.inr ⟨h, h'⟩)
    have := hp.length_eq
    simpa only [List.length_append] using this
  · refine canon_none fun x hx => ?_
    obtain ⟨h1, h2⟩ := List.mem_filter.1 hx
    exact ((mA x).1 h1).2 (of_decide_eq_true h2)
  · refine canon_none fun x hx => ?_
    obtain ⟨h1, h2⟩ := List.mem_filter.1 hx
    exact ((mB x).1 h1).2 (of_decide_eq_true h2)
  · refine canon_none fun x hx => ?_
    obtain ⟨h1, h2⟩ := List.mem_filter.1 hx
    exact ((mA x).1 h1).2 ((mB x).1 (of_decide_eq_true h2)).1
  · refine (canon_eq rD fun x => ?_).symm
    rw [mD, List.mem_append, mem_canon, List.mem_append, mA, mB, mC]
    constructor
    · rintro (h | h)
      · by_cases h' : x ∈ ys
        · exact .inl (.inr ⟨h, h'⟩)
        · exact .inl (.inl ⟨h, h'⟩)
      · by_cases h' : x ∈ xs
        · exact .inl (.inr ⟨h', h⟩)
        · exact .inr ⟨h, h'⟩
    · rintro ((h | h) | h)
      · exact .inl h.1
      · exact .inl h.1
      · exact .inr h.1
  · refine (canon_eq rD fun x => ?_).symm
    rw [mD, List.mem_append, or_comm]
  · exact (canon_eq rD fun x => Iff.rfl).symm

set_option maxHeartbeats 8000000 in
theorem addrParts_walk (w : World) (va : Value) (xs : List Ad) (ho : AdsOk xs) (hr : Rd w 2 va xs.length (adCells xs)) (vb : Value) (ys : List Ad) (hoy : AdsOk ys) (hrb : Rd w 2 vb ys.length (adCells ys)) :
    Calls Try.prog 8 #[va, vb] w (TherePost w true) := by
  have CW := Lib.hid (fun w => (addrKnown_walk w).mono fun e w' (h : TherePost w true e w') => (show e = .returned (.bool true) ∧ Keep noBlk w w' from h))
  have HAxs := Lib.hid ho; have HAys := Lib.hid hoy
  have HP := Lib.hid (parts_laws xs ys)
  obtain ⟨oa, ca, rfl, -, hmm⟩ := hr.form
  have hmx_n : xs.length ≤ maxLen := by have h := hr.2; obtain ⟨a', cap', h1, h2, h3, -⟩ := h; omega
  unfold maxLen at hmx_n
  clear hmm
  have HRxs := Lib.hid hr
  obtain ⟨n, hn_n⟩ : ∃ n, xs.length = n := ⟨_, rfl⟩
  have HNxs := Lib.hid hn_n
  rw [hn_n] at HRxs hmx_n
  try rw [hn_n]
  clear hr hn_n
  obtain ⟨ob, cb, rfl, -, hmm⟩ := hrb.form
  have hmx_m : ys.length ≤ maxLen := by have h := hrb.2; obtain ⟨a', cap', h1, h2, h3, -⟩ := h; omega
  unfold maxLen at hmx_m
  clear hmm
  have HRys := Lib.hid hrb
  obtain ⟨m, hn_m⟩ : ∃ n, ys.length = n := ⟨_, rfl⟩
  have HNys := Lib.hid hn_m
  rw [hn_m] at HRys hmx_m
  try rw [hn_m]
  clear hrb hn_m
  have HK := Lib.hid (Keep.refl noBlk w)
  go_enter Try.func8, Try.ntmps8
  go_wp2_with fail
  refine (CW.out _).mono ?_
  rintro e w1 ⟨rfl, hk⟩
  have HRxs := Lib.hid (HRxs.out.keep hk fun _ _ => id)
  have HRys := Lib.hid (HRys.out.keep hk fun _ _ => id)
  have HK := Lib.hid (HK.out.trans hk)
  clear hk
  go_wp2_with fail
  refine (long_any _ _ _ n m _ _).mono ?_
  rintro e w2 ⟨rfl, rfl⟩
  by_cases hlong : 200 < n ∨ 200 < m
  · rw [decide_eq_true hlong]
    go_wp2_with fail
    go_ret
    exact ⟨rfl, HK.out⟩
  · rw [decide_eq_false hlong]
    have hn200 : n ≤ 200 := by omega
    have hm200 : m ≤ 200 := by omega
    have hxn : xs.length ≤ 200 := by rw [HNxs.out]; exact hn200
    have hyn : ys.length ≤ 200 := by rw [HNys.out]; exact hm200
    have hlx := Lib.hid hxn; have hly := Lib.hid hyn
    clear hlong hxn hyn
    go_wp2_with fail
    refine (minus_any _ _ _ xs ys HAxs.out HAys.out (by rw [HNxs.out]; exact HRxs.out) (by rw [HNys.out]; exact HRys.out) (by have := hlx.out; omega)).mono ?_
    rintro e w2 ⟨v, rfl, ho2, hk2⟩
    have HRxs := Lib.hid (HRxs.out.keep hk2 fun _ _ => id)
    have HRys := Lib.hid (HRys.out.keep hk2 fun _ _ => id)
    have HK := Lib.hid (HK.out.trans hk2)
    obtain ⟨A, hA⟩ : ∃ l : List Ad, canon (xs.filter fun x => !decide (x ∈ ys)) = l := ⟨_, rfl⟩
    have HEA := Lib.hid hA
    have HAA : Hid (AdsOk A) := Lib.hid (by rw [← hA]; exact (adsOk_canon (fun x hx => HAxs.out x (List.mem_filter.1 hx).1)))
    rw [hA] at ho2
    clear hA
    obtain ⟨nA, hnA⟩ : ∃ k, A.length = k := ⟨_, rfl⟩
    have HNA := Lib.hid hnA
    rw [hnA] at ho2
    obtain ⟨aA, cA, hvA, -, -⟩ := (Rd.of_owns ho2).form
    subst hvA
    have HRA := Lib.hid (Rd.of_owns ho2)
    clear ho2 hk2 hnA
    go_wp2_with fail
    refine (minus_any _ _ _ ys xs HAys.out HAxs.out (by rw [HNys.out]; exact HRys.out) (by rw [HNxs.out]; exact HRxs.out) (by have := hly.out; omega)).mono ?_
    rintro e w3 ⟨v, rfl, ho2, hk2⟩
    have HRxs := Lib.hid (HRxs.out.keep hk2 fun _ _ => id)
    have HRys := Lib.hid (HRys.out.keep hk2 fun _ _ => id)
    have HK := Lib.hid (HK.out.trans hk2)
    have HRA := Lib.hid (HRA.out.keep hk2 fun _ _ => id)
    obtain ⟨B, hB⟩ : ∃ l : List Ad, canon (ys.filter fun x => !decide (x ∈ xs)) = l := ⟨_, rfl⟩
    have HEB := Lib.hid hB
    have HAB : Hid (AdsOk B) := Lib.hid (by rw [← hB]; exact (adsOk_canon (fun x hx => HAys.out x (List.mem_filter.1 hx).1)))
    rw [hB] at ho2
    clear hB
    obtain ⟨nB, hnB⟩ : ∃ k, B.length = k := ⟨_, rfl⟩
    have HNB := Lib.hid hnB
    rw [hnB] at ho2
    obtain ⟨aB, cB, hvB, -, -⟩ := (Rd.of_owns ho2).form
    subst hvB
    have HRB := Lib.hid (Rd.of_owns ho2)
    clear ho2 hk2 hnB
    go_wp2_with fail
    refine (both_any _ _ _ xs ys HAxs.out HAys.out (by rw [HNxs.out]; exact HRxs.out) (by rw [HNys.out]; exact HRys.out) (by have := hlx.out; omega)).mono ?_
    rintro e w4 ⟨v, rfl, ho2, hk2⟩
    have HRxs := Lib.hid (HRxs.out.keep hk2 fun _ _ => id)
    have HRys := Lib.hid (HRys.out.keep hk2 fun _ _ => id)
    have HK := Lib.hid (HK.out.trans hk2)
    have HRA := Lib.hid (HRA.out.keep hk2 fun _ _ => id)
    have HRB := Lib.hid (HRB.out.keep hk2 fun _ _ => id)
    obtain ⟨C, hC⟩ : ∃ l : List Ad, canon (xs.filter fun x => decide (x ∈ ys)) = l := ⟨_, rfl⟩
    have HEC := Lib.hid hC
    have HAC : Hid (AdsOk C) := Lib.hid (by rw [← hC]; exact (adsOk_canon (fun x hx => HAxs.out x (List.mem_filter.1 hx).1)))
    rw [hC] at ho2
    clear hC
    obtain ⟨nC, hnC⟩ : ∃ k, C.length = k := ⟨_, rfl⟩
    have HNC := Lib.hid hnC
    rw [hnC] at ho2
    obtain ⟨aC, cC, hvC, -, -⟩ := (Rd.of_owns ho2).form
    subst hvC
    have HRC := Lib.hid (Rd.of_owns ho2)
    clear ho2 hk2 hnC
    go_wp2_with fail
    refine (union_any _ _ _ xs ys HAxs.out HAys.out (by rw [HNxs.out]; exact HRxs.out) (by rw [HNys.out]; exact HRys.out) (by have := hlx.out; have := hly.out; omega)).mono ?_
    rintro e w5 ⟨v, rfl, ho2, hk2⟩
    have HRxs := Lib.hid (HRxs.out.keep hk2 fun _ _ => id)
    have HRys := Lib.hid (HRys.out.keep hk2 fun _ _ => id)
    have HK := Lib.hid (HK.out.trans hk2)
    have HRA := Lib.hid (HRA.out.keep hk2 fun _ _ => id)
    have HRB := Lib.hid (HRB.out.keep hk2 fun _ _ => id)
    have HRC := Lib.hid (HRC.out.keep hk2 fun _ _ => id)
    obtain ⟨D, hD⟩ : ∃ l : List Ad, canon (xs ++ ys) = l := ⟨_, rfl⟩
    have HED := Lib.hid hD
    have HAD : Hid (AdsOk D) := Lib.hid (by rw [← hD]; exact (adsOk_canon (fun x hx => (List.mem_append.1 hx).elim (HAxs.out x) (HAys.out x))))
    rw [hD] at ho2
    clear hD
    obtain ⟨nD, hnD⟩ : ∃ k, D.length = k := ⟨_, rfl⟩
    have HND := Lib.hid hnD
    rw [hnD] at ho2
    obtain ⟨aD, cD, hvD, -, -⟩ := (Rd.of_owns ho2).form
    subst hvD
    have HRD := Lib.hid (Rd.of_owns ho2)
    clear ho2 hk2 hnD
    have HPP := HP.out
    rw [HEA.out, HEB.out, HEC.out, HED.out] at HPP
    have HPL := Lib.hid HPP
    clear HPP
    have hln := HPL.out.len
    rw [HNA.out, HNB.out, HNC.out, HND.out] at hln
    have hla : nA ≤ 200 := by rw [← HNA.out, ← HEA.out]; exact Nat.le_trans (canon_len _) (Nat.le_trans (List.length_filter_le _ _) hlx.out)
    have hlb : nB ≤ 200 := by rw [← HNB.out, ← HEB.out]; exact Nat.le_trans (canon_len _) (Nat.le_trans (List.length_filter_le _ _) hly.out)
    have hlc : nC ≤ 200 := by rw [← HNC.out, ← HEC.out]; exact Nat.le_trans (canon_len _) (Nat.le_trans (List.length_filter_le _ _) hlx.out)
    have hld : nD ≤ 600 := by omega
    have hsum : (nA : Int) + (nB : Int) + (nC : Int) = (nD : Int) := by omega
    clear hln
    go_wp2_with fail
    refine (rises_any _ _ A (by rw [HNA.out]; exact HRA.out) (by rw [← HEA.out]; exact canon_rises _)).mono ?_
    rintro e w6 ⟨rfl, hk⟩
    have HRxs := Lib.hid (HRxs.out.keep hk fun _ _ => id)
    have HRys := Lib.hid (HRys.out.keep hk fun _ _ => id)
    have HK := Lib.hid (HK.out.trans hk)
    have HRA := Lib.hid (HRA.out.keep hk fun _ _ => id)
    have HRB := Lib.hid (HRB.out.keep hk fun _ _ => id)
    have HRC := Lib.hid (HRC.out.keep hk fun _ _ => id)
    have HRD := Lib.hid (HRD.out.keep hk fun _ _ => id)
    clear hk
    go_wp2_with fail
    refine (rises_any _ _ B (by rw [HNB.out]; exact HRB.out) (by rw [← HEB.out]; exact canon_rises _)).mono ?_
    rintro e w7 ⟨rfl, hk⟩
    have HRxs := Lib.hid (HRxs.out.keep hk fun _ _ => id)
    have HRys := Lib.hid (HRys.out.keep hk fun _ _ => id)
    have HK := Lib.hid (HK.out.trans hk)
    have HRA := Lib.hid (HRA.out.keep hk fun _ _ => id)
    have HRB := Lib.hid (HRB.out.keep hk fun _ _ => id)
    have HRC := Lib.hid (HRC.out.keep hk fun _ _ => id)
    have HRD := Lib.hid (HRD.out.keep hk fun _ _ => id)
    clear hk
    go_wp2_with fail
    refine (rises_any _ _ C (by rw [HNC.out]; exact HRC.out) (by rw [← HEC.out]; exact canon_rises _)).mono ?_
    rintro e w8 ⟨rfl, hk⟩
    have HRxs := Lib.hid (HRxs.out.keep hk fun _ _ => id)
    have HRys := Lib.hid (HRys.out.keep hk fun _ _ => id)
    have HK := Lib.hid (HK.out.trans hk)
    have HRA := Lib.hid (HRA.out.keep hk fun _ _ => id)
    have HRB := Lib.hid (HRB.out.keep hk fun _ _ => id)
    have HRC := Lib.hid (HRC.out.keep hk fun _ _ => id)
    have HRD := Lib.hid (HRD.out.keep hk fun _ _ => id)
    clear hk
    go_wp2_with fail
    refine (rises_any _ _ D (by rw [HND.out]; exact HRD.out) (by rw [← HED.out]; exact canon_rises _)).mono ?_
    rintro e w9 ⟨rfl, hk⟩
    have HRxs := Lib.hid (HRxs.out.keep hk fun _ _ => id)
    have HRys := Lib.hid (HRys.out.keep hk fun _ _ => id)
    have HK := Lib.hid (HK.out.trans hk)
    have HRA := Lib.hid (HRA.out.keep hk fun _ _ => id)
    have HRB := Lib.hid (HRB.out.keep hk fun _ _ => id)
    have HRC := Lib.hid (HRC.out.keep hk fun _ _ => id)
    have HRD := Lib.hid (HRD.out.keep hk fun _ _ => id)
    clear hk
    go_wp2_with fail
    clear hsum
    refine (within_any _ _ _ A xs (by rw [HNA.out]; exact HRA.out) (by rw [HNxs.out]; exact HRxs.out) HPL.out.w1).mono ?_
    rintro e wa ⟨rfl, hk⟩
    have HRxs := Lib.hid (HRxs.out.keep hk fun _ _ => id)
    have HRys := Lib.hid (HRys.out.keep hk fun _ _ => id)
    have HK := Lib.hid (HK.out.trans hk)
    have HRA := Lib.hid (HRA.out.keep hk fun _ _ => id)
    have HRB := Lib.hid (HRB.out.keep hk fun _ _ => id)
    have HRC := Lib.hid (HRC.out.keep hk fun _ _ => id)
    have HRD := Lib.hid (HRD.out.keep hk fun _ _ => id)
    clear hk
    go_wp2_with fail
    refine (within_any _ _ _ B ys (by rw [HNB.out]; exact HRB.out) (by rw [HNys.out]; exact HRys.out) HPL.out.w2).mono ?_
    rintro e wb ⟨rfl, hk⟩
    have HRxs := Lib.hid (HRxs.out.keep hk fun _ _ => id)
    have HRys := Lib.hid (HRys.out.keep hk fun _ _ => id)
    have HK := Lib.hid (HK.out.trans hk)
    have HRA := Lib.hid (HRA.out.keep hk fun _ _ => id)
    have HRB := Lib.hid (HRB.out.keep hk fun _ _ => id)
    have HRC := Lib.hid (HRC.out.keep hk fun _ _ => id)
    have HRD := Lib.hid (HRD.out.keep hk fun _ _ => id)
    clear hk
    go_wp2_with fail
    refine (within_any _ _ _ C xs (by rw [HNC.out]; exact HRC.out) (by rw [HNxs.out]; exact HRxs.out) HPL.out.w3).mono ?_
    rintro e wc ⟨rfl, hk⟩
    have HRxs := Lib.hid (HRxs.out.keep hk fun _ _ => id)
    have HRys := Lib.hid (HRys.out.keep hk fun _ _ => id)
    have HK := Lib.hid (HK.out.trans hk)
    have HRA := Lib.hid (HRA.out.keep hk fun _ _ => id)
    have HRB := Lib.hid (HRB.out.keep hk fun _ _ => id)
    have HRC := Lib.hid (HRC.out.keep hk fun _ _ => id)
    have HRD := Lib.hid (HRD.out.keep hk fun _ _ => id)
    clear hk
    go_wp2_with fail
    refine (within_any _ _ _ C ys (by rw [HNC.out]; exact HRC.out) (by rw [HNys.out]; exact HRys.out) HPL.out.w4).mono ?_
    rintro e wd ⟨rfl, hk⟩
    have HRxs := Lib.hid (HRxs.out.keep hk fun _ _ => id)
    have HRys := Lib.hid (HRys.out.keep hk fun _ _ => id)
    have HK := Lib.hid (HK.out.trans hk)
    have HRA := Lib.hid (HRA.out.keep hk fun _ _ => id)
    have HRB := Lib.hid (HRB.out.keep hk fun _ _ => id)
    have HRC := Lib.hid (HRC.out.keep hk fun _ _ => id)
    have HRD := Lib.hid (HRD.out.keep hk fun _ _ => id)
    clear hk
    go_wp2_with fail
    refine (within_any _ _ _ xs D (by rw [HNxs.out]; exact HRxs.out) (by rw [HND.out]; exact HRD.out) HPL.out.w5).mono ?_
    rintro e we ⟨rfl, hk⟩
    have HRxs := Lib.hid (HRxs.out.keep hk fun _ _ => id)
    have HRys := Lib.hid (HRys.out.keep hk fun _ _ => id)
    have HK := Lib.hid (HK.out.trans hk)
    have HRA := Lib.hid (HRA.out.keep hk fun _ _ => id)
    have HRB := Lib.hid (HRB.out.keep hk fun _ _ => id)
    have HRC := Lib.hid (HRC.out.keep hk fun _ _ => id)
    have HRD := Lib.hid (HRD.out.keep hk fun _ _ => id)
    clear hk
    go_wp2_with fail
    refine (within_any _ _ _ ys D (by rw [HNys.out]; exact HRys.out) (by rw [HND.out]; exact HRD.out) HPL.out.w6).mono ?_
    rintro e wf ⟨rfl, hk⟩
    have HRxs := Lib.hid (HRxs.out.keep hk fun _ _ => id)
    have HRys := Lib.hid (HRys.out.keep hk fun _ _ => id)
    have HK := Lib.hid (HK.out.trans hk)
    have HRA := Lib.hid (HRA.out.keep hk fun _ _ => id)
    have HRB := Lib.hid (HRB.out.keep hk fun _ _ => id)
    have HRC := Lib.hid (HRC.out.keep hk fun _ _ => id)
    have HRD := Lib.hid (HRD.out.keep hk fun _ _ => id)
    clear hk
    go_wp2_with fail
    have HNZ : Hid (([] : List Ad).length = 0) := Lib.hid rfl
    refine (told_of (both_any _ _ _ A ys HAA.out HAys.out (by rw [HNA.out]; exact HRA.out) (by rw [HNys.out]; exact HRys.out) (by rw [HNA.out]; omega)) (HPL.out.e1)).mono ?_
    rintro e wg ⟨v, rfl, ho2, hk2⟩
    have HRxs := Lib.hid (HRxs.out.keep hk2 fun _ _ => id)
    have HRys := Lib.hid (HRys.out.keep hk2 fun _ _ => id)
    have HK := Lib.hid (HK.out.trans hk2)
    have HRA := Lib.hid (HRA.out.keep hk2 fun _ _ => id)
    have HRB := Lib.hid (HRB.out.keep hk2 fun _ _ => id)
    have HRC := Lib.hid (HRC.out.keep hk2 fun _ _ => id)
    have HRD := Lib.hid (HRD.out.keep hk2 fun _ _ => id)
    rw [HNZ.out] at ho2
    obtain ⟨aZ0, cZ0, hvZ0, -, -⟩ := (Rd.of_owns ho2).form
    subst hvZ0
    have HRZ0 := Lib.hid (Rd.of_owns ho2)
    clear ho2 hk2
    go_wp2_with fail
    refine (told_of (both_any _ _ _ B xs HAB.out HAxs.out (by rw [HNB.out]; exact HRB.out) (by rw [HNxs.out]; exact HRxs.out) (by rw [HNB.out]; omega)) (HPL.out.e2)).mono ?_
    rintro e wh ⟨v, rfl, ho2, hk2⟩
    have HRxs := Lib.hid (HRxs.out.keep hk2 fun _ _ => id)
    have HRys := Lib.hid (HRys.out.keep hk2 fun _ _ => id)
    have HK := Lib.hid (HK.out.trans hk2)
    have HRA := Lib.hid (HRA.out.keep hk2 fun _ _ => id)
    have HRB := Lib.hid (HRB.out.keep hk2 fun _ _ => id)
    have HRC := Lib.hid (HRC.out.keep hk2 fun _ _ => id)
    have HRD := Lib.hid (HRD.out.keep hk2 fun _ _ => id)
    rw [HNZ.out] at ho2
    obtain ⟨aZ1, cZ1, hvZ1, -, -⟩ := (Rd.of_owns ho2).form
    subst hvZ1
    have HRZ1 := Lib.hid (Rd.of_owns ho2)
    clear ho2 hk2
    go_wp2_with fail
    refine (told_of (both_any _ _ _ A B HAA.out HAB.out (by rw [HNA.out]; exact HRA.out) (by rw [HNB.out]; exact HRB.out) (by rw [HNA.out]; omega)) (HPL.out.e3)).mono ?_
    rintro e wi ⟨v, rfl, ho2, hk2⟩
    have HRxs := Lib.hid (HRxs.out.keep hk2 fun _ _ => id)
    have HRys := Lib.hid (HRys.out.keep hk2 fun _ _ => id)
    have HK := Lib.hid (HK.out.trans hk2)
    have HRA := Lib.hid (HRA.out.keep hk2 fun _ _ => id)
    have HRB := Lib.hid (HRB.out.keep hk2 fun _ _ => id)
    have HRC := Lib.hid (HRC.out.keep hk2 fun _ _ => id)
    have HRD := Lib.hid (HRD.out.keep hk2 fun _ _ => id)
    rw [HNZ.out] at ho2
    obtain ⟨aZ2, cZ2, hvZ2, -, -⟩ := (Rd.of_owns ho2).form
    subst hvZ2
    have HRZ2 := Lib.hid (Rd.of_owns ho2)
    clear ho2 hk2
    go_wp2_with fail
    refine (union_any _ _ _ A C HAA.out HAC.out (by rw [HNA.out]; exact HRA.out) (by rw [HNC.out]; exact HRC.out) (by rw [HNA.out, HNC.out]; omega)).mono ?_
    rintro e wj ⟨v, rfl, ho2, hk2⟩
    have HRxs := Lib.hid (HRxs.out.keep hk2 fun _ _ => id)
    have HRys := Lib.hid (HRys.out.keep hk2 fun _ _ => id)
    have HK := Lib.hid (HK.out.trans hk2)
    have HRA := Lib.hid (HRA.out.keep hk2 fun _ _ => id)
    have HRB := Lib.hid (HRB.out.keep hk2 fun _ _ => id)
    have HRC := Lib.hid (HRC.out.keep hk2 fun _ _ => id)
    have HRD := Lib.hid (HRD.out.keep hk2 fun _ _ => id)
    obtain ⟨E, hE⟩ : ∃ l : List Ad, canon (A ++ C) = l := ⟨_, rfl⟩
    have HEE := Lib.hid hE
    have HAE : Hid (AdsOk E) := Lib.hid (by rw [← hE]; exact (adsOk_canon (fun x hx => (List.mem_append.1 hx).elim (HAA.out x) (HAC.out x))))
    rw [hE] at ho2
    clear hE
    obtain ⟨nE, hnE⟩ : ∃ k, E.length = k := ⟨_, rfl⟩
    have HNE := Lib.hid hnE
    rw [hnE] at ho2
    obtain ⟨aE, cE, hvE, -, -⟩ := (Rd.of_owns ho2).form
    subst hvE
    have HRE := Lib.hid (Rd.of_owns ho2)
    clear ho2 hk2 hnE
    go_wp2_with fail
    have hle : nE ≤ 400 := by rw [← HNE.out, ← HEE.out]; refine Nat.le_trans (canon_len _) ?_; rw [List.length_append, HNA.out, HNC.out]; omega
    refine (told_of (union_any _ _ _ E B HAE.out HAB.out (by rw [HNE.out]; exact HRE.out) (by rw [HNB.out]; exact HRB.out) (by rw [HNE.out, HNB.out]; omega)) (show canon (E ++ B) = D from by rw [← HEE.out]; exact HPL.out.e4)).mono ?_
    rintro e wk ⟨v, rfl, ho2, hk2⟩
    have HRxs := Lib.hid (HRxs.out.keep hk2 fun _ _ => id)
    have HRys := Lib.hid (HRys.out.keep hk2 fun _ _ => id)
    have HK := Lib.hid (HK.out.trans hk2)
    have HRA := Lib.hid (HRA.out.keep hk2 fun _ _ => id)
    have HRB := Lib.hid (HRB.out.keep hk2 fun _ _ => id)
    have HRC := Lib.hid (HRC.out.keep hk2 fun _ _ => id)
    have HRD := Lib.hid (HRD.out.keep hk2 fun _ _ => id)
    have HRE := Lib.hid (HRE.out.keep hk2 fun _ _ => id)
    rw [HND.out] at ho2
    obtain ⟨aD1, cD1, hvD1, -, -⟩ := (Rd.of_owns ho2).form
    subst hvD1
    have HRD1 := Lib.hid (Rd.of_owns ho2)
    clear ho2 hk2
    go_wp2_with fail
    refine (same_any _ _ _ D D (by rw [HND.out]; exact HRD1.out) (by rw [HND.out]; exact HRD.out) true (decide_eq_true rfl)).mono ?_
    rintro e wl ⟨rfl, hk⟩
    have HRxs := Lib.hid (HRxs.out.keep hk fun _ _ => id)
    have HRys := Lib.hid (HRys.out.keep hk fun _ _ => id)
    have HK := Lib.hid (HK.out.trans hk)
    have HRA := Lib.hid (HRA.out.keep hk fun _ _ => id)
    have HRB := Lib.hid (HRB.out.keep hk fun _ _ => id)
    have HRC := Lib.hid (HRC.out.keep hk fun _ _ => id)
    have HRD := Lib.hid (HRD.out.keep hk fun _ _ => id)
    have HRE := Lib.hid (HRE.out.keep hk fun _ _ => id)
    have HRD1 := Lib.hid (HRD1.out.keep hk fun _ _ => id)
    clear hk
    go_wp2_with fail
    refine (told_of (union_any _ _ _ ys xs HAys.out HAxs.out (by rw [HNys.out]; exact HRys.out) (by rw [HNxs.out]; exact HRxs.out) (by have := hlx.out; have := hly.out; omega)) (HPL.out.e5)).mono ?_
    rintro e wm ⟨v, rfl, ho2, hk2⟩
    have HRxs := Lib.hid (HRxs.out.keep hk2 fun _ _ => id)
    have HRys := Lib.hid (HRys.out.keep hk2 fun _ _ => id)
    have HK := Lib.hid (HK.out.trans hk2)
    have HRA := Lib.hid (HRA.out.keep hk2 fun _ _ => id)
    have HRB := Lib.hid (HRB.out.keep hk2 fun _ _ => id)
    have HRC := Lib.hid (HRC.out.keep hk2 fun _ _ => id)
    have HRD := Lib.hid (HRD.out.keep hk2 fun _ _ => id)
    have HRE := Lib.hid (HRE.out.keep hk2 fun _ _ => id)
    have HRD1 := Lib.hid (HRD1.out.keep hk2 fun _ _ => id)
    rw [HND.out] at ho2
    obtain ⟨aD2, cD2, hvD2, -, -⟩ := (Rd.of_owns ho2).form
    subst hvD2
    have HRD2 := Lib.hid (Rd.of_owns ho2)
    clear ho2 hk2
    go_wp2_with fail
    refine (same_any _ _ _ D D (by rw [HND.out]; exact HRD2.out) (by rw [HND.out]; exact HRD.out) true (decide_eq_true rfl)).mono ?_
    rintro e wn ⟨rfl, hk⟩
    have HRxs := Lib.hid (HRxs.out.keep hk fun _ _ => id)
    have HRys := Lib.hid (HRys.out.keep hk fun _ _ => id)
    have HK := Lib.hid (HK.out.trans hk)
    have HRA := Lib.hid (HRA.out.keep hk fun _ _ => id)
    have HRB := Lib.hid (HRB.out.keep hk fun _ _ => id)
    have HRC := Lib.hid (HRC.out.keep hk fun _ _ => id)
    have HRD := Lib.hid (HRD.out.keep hk fun _ _ => id)
    have HRE := Lib.hid (HRE.out.keep hk fun _ _ => id)
    have HRD1 := Lib.hid (HRD1.out.keep hk fun _ _ => id)
    have HRD2 := Lib.hid (HRD2.out.keep hk fun _ _ => id)
    clear hk
    go_wp2_with fail
    refine (told_of (sort_any _ _ D HAD.out (by rw [HND.out]; exact HRD.out) (by rw [HND.out]; omega)) (show sortA (keysA (setOf D)) = D from HPL.out.e6)).mono ?_
    rintro e wo ⟨v, rfl, ho2, hk2⟩
    have HRxs := Lib.hid (HRxs.out.keep hk2 fun _ _ => id)
    have HRys := Lib.hid (HRys.out.keep hk2 fun _ _ => id)
    have HK := Lib.hid (HK.out.trans hk2)
    have HRA := Lib.hid (HRA.out.keep hk2 fun _ _ => id)
    have HRB := Lib.hid (HRB.out.keep hk2 fun _ _ => id)
    have HRC := Lib.hid (HRC.out.keep hk2 fun _ _ => id)
    have HRD := Lib.hid (HRD.out.keep hk2 fun _ _ => id)
    have HRE := Lib.hid (HRE.out.keep hk2 fun _ _ => id)
    have HRD1 := Lib.hid (HRD1.out.keep hk2 fun _ _ => id)
    have HRD2 := Lib.hid (HRD2.out.keep hk2 fun _ _ => id)
    rw [HND.out] at ho2
    obtain ⟨aD3, cD3, hvD3, -, -⟩ := (Rd.of_owns ho2).form
    subst hvD3
    have HRD3 := Lib.hid (Rd.of_owns ho2)
    clear ho2 hk2
    go_wp2_with fail
    refine (same_any _ _ _ D D (by rw [HND.out]; exact HRD3.out) (by rw [HND.out]; exact HRD.out) true (decide_eq_true rfl)).mono ?_
    rintro e wp ⟨rfl, hk⟩
    have HRxs := Lib.hid (HRxs.out.keep hk fun _ _ => id)
    have HRys := Lib.hid (HRys.out.keep hk fun _ _ => id)
    have HK := Lib.hid (HK.out.trans hk)
    have HRA := Lib.hid (HRA.out.keep hk fun _ _ => id)
    have HRB := Lib.hid (HRB.out.keep hk fun _ _ => id)
    have HRC := Lib.hid (HRC.out.keep hk fun _ _ => id)
    have HRD := Lib.hid (HRD.out.keep hk fun _ _ => id)
    have HRE := Lib.hid (HRE.out.keep hk fun _ _ => id)
    have HRD1 := Lib.hid (HRD1.out.keep hk fun _ _ => id)
    have HRD2 := Lib.hid (HRD2.out.keep hk fun _ _ => id)
    have HRD3 := Lib.hid (HRD3.out.keep hk fun _ _ => id)
    clear hk
    go_wp2_with fail
    go_ret
    exact ⟨rfl, HK.out⟩
end Go.Proofs.Ytnpmiocajmhjoaa
