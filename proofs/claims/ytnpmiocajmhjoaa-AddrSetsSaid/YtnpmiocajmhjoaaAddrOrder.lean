/-
  AddrOrder: of two unlike addresses just one is ahead, and so on along three.
  Conditions: none but those of the given statement.
-/
import Derived.Test.YtnpmiocajmhjoaaAddrMay
namespace Go.Proofs.Ytnpmiocajmhjoaa
open Go.RowKit
set_option maxRecDepth 100000
set_option linter.unusedVariables false

theorem Keep.rangeAt {w w' : World} (h : Keep noBlk w w') {b o : Nat} {cs : List Value} (hr : w.rangeAt b o cs) : w'.rangeAt b o cs := fun j v hv => h.cell (hr j v hv) id
theorem lessC (a b : Ad) (w : World) : Calls Try.prog 11 #[.agg (adCs a).toArray, .agg (adCs b).toArray] w fun e w' => e = .returned (.bool (adLt a b)) ∧ Keep noBlk w w' := (less_any a b w).mono fun e w' h => ⟨h.1, h.2.keep⟩
theorem bool_ways (x q e : Bool) (h1 : x = true → q = false) (h2 : e = false → x = false → q = true) (h3 : e = true → x = false) : (x = true ∧ q = false ∧ e = false) ∨ (x = false ∧ q = true ∧ e = false) ∨ (x = false ∧ e = true) := by
  revert h1 h2 h3
  cases x <;> cases q <;> cases e <;> simp
theorem adLt_laws (a b c : Ad) : (adLt a b = true → adLt b a = false) ∧ (decide (a = b) = false → adLt a b = false → adLt b a = true) ∧ (decide (a = b) = true → adLt a b = false) ∧ (adLt a b = true → adLt b c = true → adLt a c = true) ∧ adLt a a = false := by
  simp only [adLt_iff, adLt_false, decide_eq_false_iff_not, decide_eq_true_iff, Ad.ext_iff]
  omega

set_option maxHeartbeats 8000000 in
theorem addrOrder_walk (a b c : Ad) (w : World) : Calls Try.prog 4 #[adV a, adV b, adV c] w (TherePost w true) := by
  obtain ⟨w0, hw0⟩ : ∃ w0, ((w.alloc (.cells (adCs a).toArray 23)).alloc (.cells (adCs b).toArray 23)).alloc (.cells (adCs c).toArray 23) = w0 := ⟨_, rfl⟩
  have HA := Lib.hid (show w0.heap[w.heap.size]? = some (.cells (adCs a).toArray 23 (0, 0)) by rw [← hw0]; exact ((((Keep.refl noBlk _).alloc _).alloc _).blk (heap_alloc_new _ _) id))
  have HB := Lib.hid (show w0.heap[w.heap.size + 1]? = some (.cells (adCs b).toArray 23 (0, 0)) by rw [← hw0]; exact (((Keep.refl noBlk _).alloc _).blk (heap_alloc2_new _ _ _) id))
  have HC := Lib.hid (show w0.heap[w.heap.size + 2]? = some (.cells (adCs c).toArray 23 (0, 0)) by rw [← hw0]; have := heap_alloc_new ((w.alloc (.cells (adCs a).toArray 23)).alloc (.cells (adCs b).toArray 23)) (.cells (adCs c).toArray 23); simpa only [World.size_alloc] using this)
  have HK := Lib.hid (show Keep noBlk w w0 by rw [← hw0]; exact (((Keep.refl _ _).alloc _).alloc _).alloc _)
  have CW := Lib.hid (fun w => (awake_any w).mono fun e w' (h : TherePost w true e w') => (show e = .returned (.bool true) ∧ Keep noBlk w w' from h))
  have L1 := fun w => lessC a b w
  have L2 := fun w => lessC b c w
  have L3 := fun w => lessC a c w
  have L4 := fun w => lessC b a w
  have L5 := fun w => lessC a a w
  have N1 := fun w => neqAd a b w
  have E1 := fun w => eqAd a b w
  obtain ⟨hv1, hv2, hv3, hv4, hv5⟩ := adLt_laws a b c
  rw [hv5] at L5
  obtain ⟨x, hx⟩ : ∃ x, adLt a b = x := ⟨_, rfl⟩
  obtain ⟨y, hy⟩ : ∃ x, adLt b c = x := ⟨_, rfl⟩
  obtain ⟨z, hz⟩ : ∃ x, adLt a c = x := ⟨_, rfl⟩
  obtain ⟨q, hq⟩ : ∃ x, adLt b a = x := ⟨_, rfl⟩
  obtain ⟨e, he⟩ : ∃ x, decide (a = b) = x := ⟨_, rfl⟩
  simp only [hx, hy, hz, hq, he] at L1 L2 L3 L4 N1 E1 hv1 hv2 hv3 hv4
  have c0 : (adCs a).toArray[0]? = some (.int .i64 a.dev) := rfl
  have c1 : (adCs b).toArray[0]? = some (.int .i64 b.dev) := rfl
  have HDX := Lib.hid (show a.dev ≠ b.dev → x = decide (a.dev < b.dev) from fun h => by rw [← hx, Bool.eq_iff_iff, adLt_iff, decide_eq_true_iff]; omega)
  obtain ⟨ad, had⟩ : ∃ d, a.dev = d := ⟨_, rfl⟩
  obtain ⟨bd, hbd⟩ : ∃ d, b.dev = d := ⟨_, rfl⟩
  rw [had] at c0 HDX
  rw [hbd] at c1 HDX
  have HC0 := Lib.hid c0; have HC1 := Lib.hid c1
  have M1 := Lib.hid L1; have M2 := Lib.hid L2; have M3 := Lib.hid L3; have M4 := Lib.hid L4; have M5 := Lib.hid L5; have HN1 := Lib.hid N1; have HE1 := Lib.hid E1
  have HV1 := Lib.hid hv1; have HV2 := Lib.hid hv2; have HV3 := Lib.hid hv3; have HV4 := Lib.hid hv4
  clear L1 L2 L3 L4 L5 hx hy hz hq he hv1 hv2 hv3 hv4 hv5 c0 c1 had hbd N1 E1
  unfold adV
  go_enter Try.func4, Try.ntmps4
  go_wp2_with fail
  clear hw0
  refine (CW.out _).mono ?_
  rintro e w1 ⟨rfl, hk⟩
  have HA := Lib.hid (hk.blk HA.out id)
  have HB := Lib.hid (hk.blk HB.out id)
  have HC := Lib.hid (hk.blk HC.out id)
  have HK := Lib.hid (HK.out.trans hk)
  clear hk
  go_wp2_with fail
  obtain ⟨S, hS0⟩ : ∃ S : World → Prop, S = fun w' => Keep noBlk w1 w' := ⟨_, rfl⟩
  have HSE := Lib.hid (show ∀ w', S w' → Keep noBlk w1 w' from fun w' h => by rw [hS0] at h; exact h)
  have HSK := Lib.hid (show ∀ w' w'', S w' → Keep noBlk w' w'' → S w'' from fun w' w'' h k => by rw [hS0] at h ⊢; exact h.trans k)
  have hS : S w1.drew := by rw [hS0]; exact (Keep.refl _ _).drew
  clear hS0
  refine wp_region_held (S := S) (by kernel_rfl) ?_
  change wpAnyH _ _ _ _ _ _ _ _ w1.drew
  generalize w1.drew = w2 at hS ⊢
  refine wpAnyH_take (i := 0) (v := .agg (adCs a).toArray) rfl (by kernel_rfl) (by kernel_rfl) (by kernel_rfl) (fun _ _ _ h => h) (yieldsIf_load_mid (by rfl) 23 (.tmp 3) rfl (w.heap.size) (0) rfl (adCs a) _ (fun w' h => rangeAt_whole ((HSE.out w' h).blk HA.out id)) adUnder rfl sizeAd) hS ?_
  simp only [Act.put, List.setIfInBounds_toArray, List.set_cons_zero, List.set_cons_succ, List.getElem_toArray, List.getElem_cons_zero]
  refine wpAnyH_take (i := 1) (v := .agg (adCs b).toArray) rfl (by kernel_rfl) (by kernel_rfl) (by kernel_rfl) (fun _ _ _ h => h) (yieldsIf_load_mid (by rfl) 23 (.tmp 4) rfl ((w.heap.size + 1)) (0) rfl (adCs b) _ (fun w' h => rangeAt_whole ((HSE.out w' h).blk HB.out id)) adUnder rfl sizeAd) hS ?_
  simp only [Act.put, List.setIfInBounds_toArray, List.set_cons_zero, List.set_cons_succ, List.getElem_toArray, List.getElem_cons_succ, List.getElem_cons_zero]
  refine wpAnyH_take (i := 3) (v := .agg (adCs b).toArray) rfl (by kernel_rfl) (by kernel_rfl) (by kernel_rfl) (fun _ _ _ h => h) (yieldsIf_load_mid (by rfl) 23 (.tmp 4) rfl ((w.heap.size + 1)) (0) rfl (adCs b) _ (fun w' h => rangeAt_whole ((HSE.out w' h).blk HB.out id)) adUnder rfl sizeAd) hS ?_
  simp only [Act.put, List.setIfInBounds_toArray, List.set_cons_zero, List.set_cons_succ, List.getElem_toArray, List.getElem_cons_succ, List.getElem_cons_zero]
  refine wpAnyH_take (i := 4) (v := .agg (adCs c).toArray) rfl (by kernel_rfl) (by kernel_rfl) (by kernel_rfl) (fun _ _ _ h => h) (yieldsIf_load_mid (by rfl) 23 (.tmp 5) rfl ((w.heap.size + 1 + 1)) (0) rfl (adCs c) _ (fun w' h => rangeAt_whole ((HSE.out w' h).blk HC.out id)) adUnder rfl sizeAd) hS ?_
  simp only [Act.put, List.setIfInBounds_toArray, List.set_cons_zero, List.set_cons_succ, List.getElem_toArray, List.getElem_cons_succ, List.getElem_cons_zero]
  refine wpAnyH_take (i := 6) (v := .agg (adCs a).toArray) rfl (by kernel_rfl) (by kernel_rfl) (by kernel_rfl) (fun _ _ _ h => h) (yieldsIf_load_mid (by rfl) 23 (.tmp 3) rfl (w.heap.size) (0) rfl (adCs a) _ (fun w' h => rangeAt_whole ((HSE.out w' h).blk HA.out id)) adUnder rfl sizeAd) hS ?_
  simp only [Act.put, List.setIfInBounds_toArray, List.set_cons_zero, List.set_cons_succ, List.getElem_toArray, List.getElem_cons_succ, List.getElem_cons_zero]
  refine wpAnyH_take (i := 7) (v := .agg (adCs c).toArray) rfl (by kernel_rfl) (by kernel_rfl) (by kernel_rfl) (fun _ _ _ h => h) (yieldsIf_load_mid (by rfl) 23 (.tmp 5) rfl ((w.heap.size + 1 + 1)) (0) rfl (adCs c) _ (fun w' h => rangeAt_whole ((HSE.out w' h).blk HC.out id)) adUnder rfl sizeAd) hS ?_
  simp only [Act.put, List.setIfInBounds_toArray, List.set_cons_zero, List.set_cons_succ, List.getElem_toArray, List.getElem_cons_succ, List.getElem_cons_zero]
  refine wpAnyH_one (k := 2) rfl (by kernel_rfl) ?_
  go_wp2_with fail
  refine (M1.out _).mono ?_
  rintro e w3 ⟨rfl, hk⟩
  have hS1 := HSK.out _ _ hS hk
  clear hS hk
  go_wp2_with fail
  refine ⟨hS1, ?_⟩
  refine wpAnyH_one (k := 5) rfl (by kernel_rfl) ?_
  go_wp2_with fail
  refine (M2.out _).mono ?_
  rintro e w4 ⟨rfl, hk⟩
  have hS2 := HSK.out _ _ hS1 hk
  clear hS1 hk
  go_wp2_with fail
  refine ⟨hS2, ?_⟩
  refine wpAnyH_one (k := 8) rfl (by kernel_rfl) ?_
  go_wp2_with fail
  refine (M3.out _).mono ?_
  rintro e w5 ⟨rfl, hk⟩
  have hS3 := HSK.out _ _ hS2 hk
  clear hS2 hk
  go_wp2_with fail
  refine ⟨hS3, ?_⟩
  refine wpAnyH_take (i := 9) (v := .bool x) rfl (by kernel_rfl) (by kernel_rfl) (by kernel_rfl) (fun _ _ _ h => h) (.inl ⟨by rfl, fun _ _ => rfl⟩) hS3 ?_
  simp only [Act.put, List.setIfInBounds_toArray, List.set_cons_zero, List.set_cons_succ, List.getElem_toArray, List.getElem_cons_succ, List.getElem_cons_zero]
  refine wpAnyH_take (i := 10) (v := .bool y) rfl (by kernel_rfl) (by kernel_rfl) (by kernel_rfl) (fun _ _ _ h => h) (.inl ⟨by rfl, fun _ _ => rfl⟩) hS3 ?_
  simp only [Act.put, List.setIfInBounds_toArray, List.set_cons_zero, List.set_cons_succ, List.getElem_toArray, List.getElem_cons_succ, List.getElem_cons_zero]
  refine wpAnyH_take (i := 11) (v := .bool z) rfl (by kernel_rfl) (by kernel_rfl) (by kernel_rfl) (fun _ _ _ h => h) (.inl ⟨by rfl, fun _ _ => rfl⟩) hS3 ?_
  simp only [Act.put, List.setIfInBounds_toArray, List.set_cons_zero, List.set_cons_succ, List.getElem_toArray, List.getElem_cons_succ, List.getElem_cons_zero]
  refine wpAnyH_done (by kernel_rfl) ?_ _
  have HKR := Lib.hid (HSE.out _ hS3)
  clear hS3 HSE HSK
  have HA := Lib.hid (HKR.out.blk HA.out id)
  have HB := Lib.hid (HKR.out.blk HB.out id)
  have HC := Lib.hid (HKR.out.blk HC.out id)
  have HK := Lib.hid (HK.out.trans HKR.out)
  have hg := adGuard
  have HT := Lib.hid (bool_ways x q e HV1.out HV2.out HV3.out)
  rcases HT.out with ⟨rfl, rfl, rfl⟩ | ⟨rfl, rfl, rfl⟩ | ⟨rfl, rfl⟩
  · have hne := HN1.out; have heq := HE1.out
    go_wp2_with (first
      | ((with_reducible show wpList _ _ _ (⟨_, .load 23 (.tmp 3), _, _, _, _⟩ :: _) _ _); refine wpList_load_g (by rfl) 23 (.tmp 3) rfl w.heap.size 0 rfl (adCs a) _ (rangeAt_whole HA.out) adUnder rfl sizeAd ?_)
      | ((with_reducible show wpList _ _ _ (⟨_, .load 23 (.tmp 4), _, _, _, _⟩ :: _) _ _); refine wpList_load_g (by rfl) 23 (.tmp 4) rfl (w.heap.size + 1) 0 rfl (adCs b) _ (rangeAt_whole HB.out) adUnder rfl sizeAd ?_))
    refine (M4.out _).mono ?_
    rintro e w6 ⟨rfl, hk⟩
    have HA := Lib.hid (hk.blk HA.out id)
    have HB := Lib.hid (hk.blk HB.out id)
    have HC := Lib.hid (hk.blk HC.out id)
    have HK := Lib.hid (HK.out.trans hk)
    clear hk
    have HZ : Hid (y = true → z = true) := Lib.hid (HV4.out (by first | rfl | trivial))
    clear HV4
    cases y
    · go_wp2_with (first
        | ((with_reducible show wpList _ _ _ (⟨_, .load 23 (.tmp 3), _, _, _, _⟩ :: _) _ _); refine wpList_load_g (by rfl) 23 (.tmp 3) rfl w.heap.size 0 rfl (adCs a) _ (rangeAt_whole HA.out) adUnder rfl sizeAd ?_)
        | ((with_reducible show wpList _ _ _ (⟨_, .load 23 (.tmp 4), _, _, _, _⟩ :: _) _ _); refine wpList_load_g (by rfl) 23 (.tmp 4) rfl (w.heap.size + 1) 0 rfl (adCs b) _ (rangeAt_whole HB.out) adUnder rfl sizeAd ?_))
      by_cases hd : ad = bd
      · subst hd
        go_wp2_with (first
          | ((with_reducible show wpList _ _ _ (⟨_, .load 23 (.tmp 3), _, _, _, _⟩ :: _) _ _); refine wpList_load_g (by rfl) 23 (.tmp 3) rfl w.heap.size 0 rfl (adCs a) _ (rangeAt_whole HA.out) adUnder rfl sizeAd ?_)
          | ((with_reducible show wpList _ _ _ (⟨_, .load 23 (.tmp 4), _, _, _, _⟩ :: _) _ _); refine wpList_load_g (by rfl) 23 (.tmp 4) rfl (w.heap.size + 1) 0 rfl (adCs b) _ (rangeAt_whole HB.out) adUnder rfl sizeAd ?_))
        refine (M5.out _).mono ?_
        rintro e w7 ⟨rfl, hk⟩
        have HA := Lib.hid (hk.blk HA.out id)
        have HB := Lib.hid (hk.blk HB.out id)
        have HC := Lib.hid (hk.blk HC.out id)
        have HK := Lib.hid (HK.out.trans hk)
        clear hk
        have cA := blk_cell HA.out HC0.out; have cB := blk_cell HB.out HC1.out
        go_wp2_with (first
          | ((with_reducible show wpList _ _ _ (⟨_, .load 23 (.tmp 3), _, _, _, _⟩ :: _) _ _); refine wpList_load_g (by rfl) 23 (.tmp 3) rfl w.heap.size 0 rfl (adCs a) _ (rangeAt_whole HA.out) adUnder rfl sizeAd ?_)
          | ((with_reducible show wpList _ _ _ (⟨_, .load 23 (.tmp 4), _, _, _, _⟩ :: _) _ _); refine wpList_load_g (by rfl) 23 (.tmp 4) rfl (w.heap.size + 1) 0 rfl (adCs b) _ (rangeAt_whole HB.out) adUnder rfl sizeAd ?_))
        go_ret
        exact ⟨rfl, HK.out⟩
      · have hx := HDX.out hd
        have hl : decide (ad < bd) = true := hx.symm
        have hl2 :  (ad < bd) := by simpa using hl
        clear hx
        go_wp2_with (first
          | ((with_reducible show wpList _ _ _ (⟨_, .load 23 (.tmp 3), _, _, _, _⟩ :: _) _ _); refine wpList_load_g (by rfl) 23 (.tmp 3) rfl w.heap.size 0 rfl (adCs a) _ (rangeAt_whole HA.out) adUnder rfl sizeAd ?_)
          | ((with_reducible show wpList _ _ _ (⟨_, .load 23 (.tmp 4), _, _, _, _⟩ :: _) _ _); refine wpList_load_g (by rfl) 23 (.tmp 4) rfl (w.heap.size + 1) 0 rfl (adCs b) _ (rangeAt_whole HB.out) adUnder rfl sizeAd ?_))
        refine (M5.out _).mono ?_
        rintro e w7 ⟨rfl, hk⟩
        have HA := Lib.hid (hk.blk HA.out id)
        have HB := Lib.hid (hk.blk HB.out id)
        have HC := Lib.hid (hk.blk HC.out id)
        have HK := Lib.hid (HK.out.trans hk)
        clear hk
        have cA := blk_cell HA.out HC0.out; have cB := blk_cell HB.out HC1.out
        go_wp2_with (first
          | ((with_reducible show wpList _ _ _ (⟨_, .load 23 (.tmp 3), _, _, _, _⟩ :: _) _ _); refine wpList_load_g (by rfl) 23 (.tmp 3) rfl w.heap.size 0 rfl (adCs a) _ (rangeAt_whole HA.out) adUnder rfl sizeAd ?_)
          | ((with_reducible show wpList _ _ _ (⟨_, .load 23 (.tmp 4), _, _, _, _⟩ :: _) _ _); refine wpList_load_g (by rfl) 23 (.tmp 4) rfl (w.heap.size + 1) 0 rfl (adCs b) _ (rangeAt_whole HB.out) adUnder rfl sizeAd ?_))
        go_ret
        exact ⟨rfl, HK.out⟩
    · have hz : z = true := HZ.out rfl
      subst hz
      go_wp2_with (first
        | ((with_reducible show wpList _ _ _ (⟨_, .load 23 (.tmp 3), _, _, _, _⟩ :: _) _ _); refine wpList_load_g (by rfl) 23 (.tmp 3) rfl w.heap.size 0 rfl (adCs a) _ (rangeAt_whole HA.out) adUnder rfl sizeAd ?_)
        | ((with_reducible show wpList _ _ _ (⟨_, .load 23 (.tmp 4), _, _, _, _⟩ :: _) _ _); refine wpList_load_g (by rfl) 23 (.tmp 4) rfl (w.heap.size + 1) 0 rfl (adCs b) _ (rangeAt_whole HB.out) adUnder rfl sizeAd ?_))
      by_cases hd : ad = bd
      · subst hd
        go_wp2_with (first
          | ((with_reducible show wpList _ _ _ (⟨_, .load 23 (.tmp 3), _, _, _, _⟩ :: _) _ _); refine wpList_load_g (by rfl) 23 (.tmp 3) rfl w.heap.size 0 rfl (adCs a) _ (rangeAt_whole HA.out) adUnder rfl sizeAd ?_)
          | ((with_reducible show wpList _ _ _ (⟨_, .load 23 (.tmp 4), _, _, _, _⟩ :: _) _ _); refine wpList_load_g (by rfl) 23 (.tmp 4) rfl (w.heap.size + 1) 0 rfl (adCs b) _ (rangeAt_whole HB.out) adUnder rfl sizeAd ?_))
        refine (M5.out _).mono ?_
        rintro e w7 ⟨rfl, hk⟩
        have HA := Lib.hid (hk.blk HA.out id)
        have HB := Lib.hid (hk.blk HB.out id)
        have HC := Lib.hid (hk.blk HC.out id)
        have HK := Lib.hid (HK.out.trans hk)
        clear hk
        have cA := blk_cell HA.out HC0.out; have cB := blk_cell HB.out HC1.out
        go_wp2_with (first
          | ((with_reducible show wpList _ _ _ (⟨_, .load 23 (.tmp 3), _, _, _, _⟩ :: _) _ _); refine wpList_load_g (by rfl) 23 (.tmp 3) rfl w.heap.size 0 rfl (adCs a) _ (rangeAt_whole HA.out) adUnder rfl sizeAd ?_)
          | ((with_reducible show wpList _ _ _ (⟨_, .load 23 (.tmp 4), _, _, _, _⟩ :: _) _ _); refine wpList_load_g (by rfl) 23 (.tmp 4) rfl (w.heap.size + 1) 0 rfl (adCs b) _ (rangeAt_whole HB.out) adUnder rfl sizeAd ?_))
        go_ret
        exact ⟨rfl, HK.out⟩
      · have hx := HDX.out hd
        have hl : decide (ad < bd) = true := hx.symm
        have hl2 :  (ad < bd) := by simpa using hl
        clear hx
        go_wp2_with (first
          | ((with_reducible show wpList _ _ _ (⟨_, .load 23 (.tmp 3), _, _, _, _⟩ :: _) _ _); refine wpList_load_g (by rfl) 23 (.tmp 3) rfl w.heap.size 0 rfl (adCs a) _ (rangeAt_whole HA.out) adUnder rfl sizeAd ?_)
          | ((with_reducible show wpList _ _ _ (⟨_, .load 23 (.tmp 4), _, _, _, _⟩ :: _) _ _); refine wpList_load_g (by rfl) 23 (.tmp 4) rfl (w.heap.size + 1) 0 rfl (adCs b) _ (rangeAt_whole HB.out) adUnder rfl sizeAd ?_))
        refine (M5.out _).mono ?_
        rintro e w7 ⟨rfl, hk⟩
        have HA := Lib.hid (hk.blk HA.out id)
        have HB := Lib.hid (hk.blk HB.out id)
        have HC := Lib.hid (hk.blk HC.out id)
        have HK := Lib.hid (HK.out.trans hk)
        clear hk
        have cA := blk_cell HA.out HC0.out; have cB := blk_cell HB.out HC1.out
        go_wp2_with (first
          | ((with_reducible show wpList _ _ _ (⟨_, .load 23 (.tmp 3), _, _, _, _⟩ :: _) _ _); refine wpList_load_g (by rfl) 23 (.tmp 3) rfl w.heap.size 0 rfl (adCs a) _ (rangeAt_whole HA.out) adUnder rfl sizeAd ?_)
          | ((with_reducible show wpList _ _ _ (⟨_, .load 23 (.tmp 4), _, _, _, _⟩ :: _) _ _); refine wpList_load_g (by rfl) 23 (.tmp 4) rfl (w.heap.size + 1) 0 rfl (adCs b) _ (rangeAt_whole HB.out) adUnder rfl sizeAd ?_))
        go_ret
        exact ⟨rfl, HK.out⟩
  · have hne := HN1.out; have heq := HE1.out
    go_wp2_with (first
      | ((with_reducible show wpList _ _ _ (⟨_, .load 23 (.tmp 3), _, _, _, _⟩ :: _) _ _); refine wpList_load_g (by rfl) 23 (.tmp 3) rfl w.heap.size 0 rfl (adCs a) _ (rangeAt_whole HA.out) adUnder rfl sizeAd ?_)
      | ((with_reducible show wpList _ _ _ (⟨_, .load 23 (.tmp 4), _, _, _, _⟩ :: _) _ _); refine wpList_load_g (by rfl) 23 (.tmp 4) rfl (w.heap.size + 1) 0 rfl (adCs b) _ (rangeAt_whole HB.out) adUnder rfl sizeAd ?_))
    refine (M4.out _).mono ?_
    rintro e w6 ⟨rfl, hk⟩
    have HA := Lib.hid (hk.blk HA.out id)
    have HB := Lib.hid (hk.blk HB.out id)
    have HC := Lib.hid (hk.blk HC.out id)
    have HK := Lib.hid (HK.out.trans hk)
    clear hk
    go_wp2_with (first
      | ((with_reducible show wpList _ _ _ (⟨_, .load 23 (.tmp 3), _, _, _, _⟩ :: _) _ _); refine wpList_load_g (by rfl) 23 (.tmp 3) rfl w.heap.size 0 rfl (adCs a) _ (rangeAt_whole HA.out) adUnder rfl sizeAd ?_)
      | ((with_reducible show wpList _ _ _ (⟨_, .load 23 (.tmp 4), _, _, _, _⟩ :: _) _ _); refine wpList_load_g (by rfl) 23 (.tmp 4) rfl (w.heap.size + 1) 0 rfl (adCs b) _ (rangeAt_whole HB.out) adUnder rfl sizeAd ?_))
    by_cases hd : ad = bd
    · subst hd
      go_wp2_with (first
        | ((with_reducible show wpList _ _ _ (⟨_, .load 23 (.tmp 3), _, _, _, _⟩ :: _) _ _); refine wpList_load_g (by rfl) 23 (.tmp 3) rfl w.heap.size 0 rfl (adCs a) _ (rangeAt_whole HA.out) adUnder rfl sizeAd ?_)
        | ((with_reducible show wpList _ _ _ (⟨_, .load 23 (.tmp 4), _, _, _, _⟩ :: _) _ _); refine wpList_load_g (by rfl) 23 (.tmp 4) rfl (w.heap.size + 1) 0 rfl (adCs b) _ (rangeAt_whole HB.out) adUnder rfl sizeAd ?_))
      refine (M5.out _).mono ?_
      rintro e w7 ⟨rfl, hk⟩
      have HA := Lib.hid (hk.blk HA.out id)
      have HB := Lib.hid (hk.blk HB.out id)
      have HC := Lib.hid (hk.blk HC.out id)
      have HK := Lib.hid (HK.out.trans hk)
      clear hk
      have cA := blk_cell HA.out HC0.out; have cB := blk_cell HB.out HC1.out
      go_wp2_with (first
        | ((with_reducible show wpList _ _ _ (⟨_, .load 23 (.tmp 3), _, _, _, _⟩ :: _) _ _); refine wpList_load_g (by rfl) 23 (.tmp 3) rfl w.heap.size 0 rfl (adCs a) _ (rangeAt_whole HA.out) adUnder rfl sizeAd ?_)
        | ((with_reducible show wpList _ _ _ (⟨_, .load 23 (.tmp 4), _, _, _, _⟩ :: _) _ _); refine wpList_load_g (by rfl) 23 (.tmp 4) rfl (w.heap.size + 1) 0 rfl (adCs b) _ (rangeAt_whole HB.out) adUnder rfl sizeAd ?_))
      go_ret
      exact ⟨rfl, HK.out⟩
    · have hx := HDX.out hd
      have hl : decide (ad < bd) = false := hx.symm
      have hl2 : ¬ (ad < bd) := by simpa using hl
      clear hx
      go_wp2_with (first
        | ((with_reducible show wpList _ _ _ (⟨_, .load 23 (.tmp 3), _, _, _, _⟩ :: _) _ _); refine wpList_load_g (by rfl) 23 (.tmp 3) rfl w.heap.size 0 rfl (adCs a) _ (rangeAt_whole HA.out) adUnder rfl sizeAd ?_)
        | ((with_reducible show wpList _ _ _ (⟨_, .load 23 (.tmp 4), _, _, _, _⟩ :: _) _ _); refine wpList_load_g (by rfl) 23 (.tmp 4) rfl (w.heap.size + 1) 0 rfl (adCs b) _ (rangeAt_whole HB.out) adUnder rfl sizeAd ?_))
      refine (M5.out _).mono ?_
      rintro e w7 ⟨rfl, hk⟩
      have HA := Lib.hid (hk.blk HA.out id)
      have HB := Lib.hid (hk.blk HB.out id)
      have HC := Lib.hid (hk.blk HC.out id)
      have HK := Lib.hid (HK.out.trans hk)
      clear hk
      have cA := blk_cell HA.out HC0.out; have cB := blk_cell HB.out HC1.out
      go_wp2_with (first
        | ((with_reducible show wpList _ _ _ (⟨_, .load 23 (.tmp 3), _, _, _, _⟩ :: _) _ _); refine wpList_load_g (by rfl) 23 (.tmp 3) rfl w.heap.size 0 rfl (adCs a) _ (rangeAt_whole HA.out) adUnder rfl sizeAd ?_)
        | ((with_reducible show wpList _ _ _ (⟨_, .load 23 (.tmp 4), _, _, _, _⟩ :: _) _ _); refine wpList_load_g (by rfl) 23 (.tmp 4) rfl (w.heap.size + 1) 0 rfl (adCs b) _ (rangeAt_whole HB.out) adUnder rfl sizeAd ?_))
      go_ret
      exact ⟨rfl, HK.out⟩
  · have hne := HN1.out; have heq := HE1.out
    go_wp2_with (first
      | ((with_reducible show wpList _ _ _ (⟨_, .load 23 (.tmp 3), _, _, _, _⟩ :: _) _ _); refine wpList_load_g (by rfl) 23 (.tmp 3) rfl w.heap.size 0 rfl (adCs a) _ (rangeAt_whole HA.out) adUnder rfl sizeAd ?_)
      | ((with_reducible show wpList _ _ _ (⟨_, .load 23 (.tmp 4), _, _, _, _⟩ :: _) _ _); refine wpList_load_g (by rfl) 23 (.tmp 4) rfl (w.heap.size + 1) 0 rfl (adCs b) _ (rangeAt_whole HB.out) adUnder rfl sizeAd ?_))
    by_cases hd : ad = bd
    · subst hd
      go_wp2_with (first
        | ((with_reducible show wpList _ _ _ (⟨_, .load 23 (.tmp 3), _, _, _, _⟩ :: _) _ _); refine wpList_load_g (by rfl) 23 (.tmp 3) rfl w.heap.size 0 rfl (adCs a) _ (rangeAt_whole HA.out) adUnder rfl sizeAd ?_)
        | ((with_reducible show wpList _ _ _ (⟨_, .load 23 (.tmp 4), _, _, _, _⟩ :: _) _ _); refine wpList_load_g (by rfl) 23 (.tmp 4) rfl (w.heap.size + 1) 0 rfl (adCs b) _ (rangeAt_whole HB.out) adUnder rfl sizeAd ?_))
      refine (M5.out _).mono ?_
      rintro e w6 ⟨rfl, hk⟩
      have HA := Lib.hid (hk.blk HA.out id)
      have HB := Lib.hid (hk.blk HB.out id)
      have HC := Lib.hid (hk.blk HC.out id)
      have HK := Lib.hid (HK.out.trans hk)
      clear hk
      have cA := blk_cell HA.out HC0.out; have cB := blk_cell HB.out HC1.out
      go_wp2_with (first
        | ((with_reducible show wpList _ _ _ (⟨_, .load 23 (.tmp 3), _, _, _, _⟩ :: _) _ _); refine wpList_load_g (by rfl) 23 (.tmp 3) rfl w.heap.size 0 rfl (adCs a) _ (rangeAt_whole HA.out) adUnder rfl sizeAd ?_)
        | ((with_reducible show wpList _ _ _ (⟨_, .load 23 (.tmp 4), _, _, _, _⟩ :: _) _ _); refine wpList_load_g (by rfl) 23 (.tmp 4) rfl (w.heap.size + 1) 0 rfl (adCs b) _ (rangeAt_whole HB.out) adUnder rfl sizeAd ?_))
      go_ret
      exact ⟨rfl, HK.out⟩
    · have hx := HDX.out hd
      have hl : decide (ad < bd) = false := hx.symm
      have hl2 : ¬ (ad < bd) := by simpa using hl
      clear hx
      go_wp2_with (first
        | ((with_reducible show wpList _ _ _ (⟨_, .load 23 (.tmp 3), _, _, _, _⟩ :: _) _ _); refine wpList_load_g (by rfl) 23 (.tmp 3) rfl w.heap.size 0 rfl (adCs a) _ (rangeAt_whole HA.out) adUnder rfl sizeAd ?_)
        | ((with_reducible show wpList _ _ _ (⟨_, .load 23 (.tmp 4), _, _, _, _⟩ :: _) _ _); refine wpList_load_g (by rfl) 23 (.tmp 4) rfl (w.heap.size + 1) 0 rfl (adCs b) _ (rangeAt_whole HB.out) adUnder rfl sizeAd ?_))
      refine (M5.out _).mono ?_
      rintro e w6 ⟨rfl, hk⟩
      have HA := Lib.hid (hk.blk HA.out id)
      have HB := Lib.hid (hk.blk HB.out id)
      have HC := Lib.hid (hk.blk HC.out id)
      have HK := Lib.hid (HK.out.trans hk)
      clear hk
      have cA := blk_cell HA.out HC0.out; have cB := blk_cell HB.out HC1.out
      go_wp2_with (first
        | ((with_reducible show wpList _ _ _ (⟨_, .load 23 (.tmp 3), _, _, _, _⟩ :: _) _ _); refine wpList_load_g (by rfl) 23 (.tmp 3) rfl w.heap.size 0 rfl (adCs a) _ (rangeAt_whole HA.out) adUnder rfl sizeAd ?_)
        | ((with_reducible show wpList _ _ _ (⟨_, .load 23 (.tmp 4), _, _, _, _⟩ :: _) _ _); refine wpList_load_g (by rfl) 23 (.tmp 4) rfl (w.heap.size + 1) 0 rfl (adCs b) _ (rangeAt_whole HB.out) adUnder rfl sizeAd ?_))
      go_ret
      exact ⟨rfl, HK.out⟩
end Go.Proofs.Ytnpmiocajmhjoaa
