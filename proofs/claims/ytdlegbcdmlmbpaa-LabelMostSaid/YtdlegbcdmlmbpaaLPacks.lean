/-
  LabelPacks: the program's labels are packed and checked as the reference's, into new memory.
  Conditions: none but those of the given statement.
-/
import Derived.Test.YtdlegbcdmlmbpaaAwake
import Derived.Test.YtdlegbcdmlmbpaaRpack
import Derived.Test.YtdlegbcdmlmbpaaLent
namespace Go.Proofs.Ytdlegbcdmlmbpaa
set_option linter.unusedVariables false
open Go.RowKit
set_option maxRecDepth 100000

theorem packs_free {w w1 : World} {base n : Nat} {v : Value} {l : List Value} (h : w.ownsRow base 5 1 v n l) {k : Nat} (hk : v.ownBlock = some k) : k < w.heap.size := by
  obtain ⟨cur, hc⟩ := owns_block h hk
  exact lt_of_block hc

set_option maxHeartbeats 4000000 in
theorem labelPacks_walk (L : Lab) (hL : L.pool.length = 32) (w : World) : Calls Try.prog 3 #[.agg L.cells.toArray] w (TherePost w true) := by
  obtain ⟨lc, hlc⟩ : ∃ lc, L.cells = lc := ⟨_, rfl⟩
  have hlcl : lc.length = 37 := by rw [← hlc]; exact L.cells_length hL
  have CP := fun w => pack_fit L hL w
  have CR := fun w => rpack_any L hL w
  have CC := fun w => check_any L hL w
  have CQ := fun w => rcheck_any L hL w
  rw [hlc] at CP CR CC CQ ⊢
  have HLC := Lib.hid hlc; have HCP := Lib.hid CP; have HCR := Lib.hid CR; have HCC := Lib.hid CC; have HCQ := Lib.hid CQ
  clear hlc CP CR CC CQ
  obtain ⟨er, her⟩ : ∃ er : Int, (if L.may then (0 : Int) else 2) = er := ⟨_, rfl⟩
  have HER := Lib.hid her; clear her
  go_enter Try.func3, Try.ntmps3
  go_wp2_with (first
    | ((with_reducible show wpList _ _ _ (⟨some 10, .load 25 (.tmp 1), _, _, _, _⟩ :: _) _ _); refine wpList_load_mid rfl 25 (.tmp 1) rfl w.heap.size 0 rfl lc _ (rangeAt_whole (heap_alloc_new _ _)) Try.underlying25 rfl (by rw [hlcl]; exact sizeLab) ?_))
  obtain ⟨w1, hw1⟩ : ∃ w1, w.alloc (.cells lc.toArray 25) = w1 := ⟨_, rfl⟩
  have hb1 : w1.heap[w.heap.size]? = some (.cells lc.toArray 25 (0, 0)) := by rw [← hw1]; exact heap_alloc_new _ _
  have hk1 : Keep noBlk w w1 := by rw [← hw1]; exact (Keep.refl _ _).alloc _
  rw [hw1]
  obtain ⟨b1, hb⟩ : ∃ b1, w.heap.size = b1 := ⟨_, rfl⟩
  rw [hb] at hb1 ⊢
  have HB := Lib.hid hb; have HB1 := Lib.hid hb1; have HK1 := Lib.hid hk1
  clear hb hb1 hk1 hw1
  refine (HCP.out w1).mono ?_
  rintro e w2 ⟨v2, rfl, hown2, hk2, hf2⟩
  rw [HER.out]
  have hb2 := hk2.blk HB1.out id
  have HB2 := Lib.hid hb2; have HO2 := Lib.hid hown2; have HF2 := Lib.hid hf2; have HK2 := Lib.hid (HK1.out.trans hk2); have HR2 := Lib.hid (Rd.of_owns hown2)
  have hs12 := hk2.size
  obtain ⟨a2, c2, rfl, -, -⟩ := (Rd.of_owns hown2).form
  clear hb2 hown2 hf2 hk2
  go_wp2_with (first
    | ((with_reducible show wpList _ _ _ (⟨some 15, .load 25 (.tmp 1), _, _, _, _⟩ :: _) _ _); refine wpList_load_mid rfl 25 (.tmp 1) rfl b1 0 rfl lc _ (rangeAt_whole HB2.out) Try.underlying25 rfl (by rw [hlcl]; exact sizeLab) ?_))
  refine (HCR.out w2).mono ?_
  rintro e w3 ⟨v3, rfl, hown3, hk3⟩
  rw [HER.out]
  have HB3 := Lib.hid (hk3.blk HB2.out id); have HO3 := Lib.hid hown3; have HR3 := Lib.hid (Rd.of_owns hown3); have HK3 := Lib.hid (HK2.out.trans hk3)
  have HR23 := Lib.hid (HR2.out.keep hk3 fun _ _ => id); have HO23 := Lib.hid (hk3.owns HO2.out fun _ _ => id)
  have HF23 := Lib.hid (HF2.out.keep hk3 fun g hg => ⟨packs_free (w1 := w2) HO2.out hg, id⟩)
  have hs23 := hk3.size
  obtain ⟨a3, c3, rfl, -, -⟩ := (Rd.of_owns hown3).form
  clear hown3 hk3
  go_wp2_with fail
  obtain ⟨S, hS0⟩ : ∃ S : World → Prop, S = fun w' => Keep noBlk w3 w' := ⟨_, rfl⟩
  have hSe : ∀ w', S w' → Keep noBlk w3 w' := fun w' h => by rw [hS0] at h; exact h
  have hSk : ∀ w' w'', S w' → Keep noBlk w' w'' → S w'' := fun w' w'' h k => by rw [hS0] at h ⊢; exact h.trans k
  have hS : S w3.drew := by rw [hS0]; exact (Keep.refl _ _).drew
  have hSr : ∀ w', S w' → w'.rangeAt b1 0 lc := fun w' h => rangeAt_whole ((hSe w' h).blk HB3.out id)
  clear hS0
  refine wp_region_held (S := S) (by kernel_rfl) ?_
  change wpAnyH _ _ _ _ _ _ _ _ w3.drew
  refine wpAnyH_take (i := 0) (v := (.slice a2 (packB L).length c2)) rfl (by kernel_rfl) (by kernel_rfl) (by kernel_rfl) (fun _ _ _ h => h) (.inl ⟨by rfl, fun _ _ => rfl⟩) hS ?_
  simp only [Act.put, List.setIfInBounds_toArray, List.set_cons_zero, List.set_cons_succ, List.getElem_toArray, List.getElem_cons_zero]
  refine wpAnyH_take (i := 1) (v := (.slice a3 (packB L).length c3)) rfl (by kernel_rfl) (by kernel_rfl) (by kernel_rfl) (fun _ _ _ h => h) (.inl ⟨by rfl, fun _ _ => rfl⟩) hS ?_
  simp only [Act.put, List.setIfInBounds_toArray, List.set_cons_zero, List.set_cons_succ, List.getElem_toArray, List.getElem_cons_succ, List.getElem_cons_zero]
  refine wpAnyH_one (k := 2) rfl (by kernel_rfl) ?_
  go_wp2_with fail
  refine (same_any w3.drew _ _ (packB L) (packB L) (HR23.out.keep (hSe _ hS) fun _ _ => id) (HR3.out.keep (hSe _ hS) fun _ _ => id) true (by simp)).mono ?_
  rintro e w4 ⟨rfl, rfl⟩
  go_wp2_with fail
  refine ⟨hS, ?_⟩
  refine wpAnyH_take (i := 3) (v := .bool false) rfl (by kernel_rfl) (by kernel_rfl) (by kernel_rfl) (fun _ _ _ h => h) (.inl ⟨by rfl, fun _ _ => ?_⟩) hS ?_
  · go_simp
  simp only [Act.put, List.setIfInBounds_toArray, List.set_cons_zero, List.set_cons_succ, List.getElem_toArray, List.getElem_cons_succ, List.getElem_cons_zero]
  refine wpAnyH_take (i := 4) (v := .bool false) rfl (by kernel_rfl) (by kernel_rfl) (by kernel_rfl) (fun _ _ _ h => h) (.inl ⟨by rfl, fun _ _ => rfl⟩) hS ?_
  simp only [Act.put, List.setIfInBounds_toArray, List.set_cons_zero, List.set_cons_succ, List.getElem_toArray, List.getElem_cons_succ, List.getElem_cons_zero]
  refine wpAnyH_take (i := 5) (v := .int .i64 er) rfl (by kernel_rfl) (by kernel_rfl) (by kernel_rfl) (fun _ _ _ h => h) (.inl ⟨by rfl, fun _ _ => rfl⟩) hS ?_
  simp only [Act.put, List.setIfInBounds_toArray, List.set_cons_zero, List.set_cons_succ, List.getElem_toArray, List.getElem_cons_succ, List.getElem_cons_zero]
  refine wpAnyH_take (i := 6) (v := .int .i64 er) rfl (by kernel_rfl) (by kernel_rfl) (by kernel_rfl) (fun _ _ _ h => h) (.inl ⟨by rfl, fun _ _ => rfl⟩) hS ?_
  simp only [Act.put, List.setIfInBounds_toArray, List.set_cons_zero, List.set_cons_succ, List.getElem_toArray, List.getElem_cons_succ, List.getElem_cons_zero]
  refine wpAnyH_take (i := 7) (v := .bool false) rfl (by kernel_rfl) (by kernel_rfl) (by kernel_rfl) (fun _ _ _ h => h) (.inl ⟨by rfl, fun _ _ => ?_⟩) hS ?_
  · go_simp
  simp only [Act.put, List.setIfInBounds_toArray, List.set_cons_zero, List.set_cons_succ, List.getElem_toArray, List.getElem_cons_succ, List.getElem_cons_zero]
  refine wpAnyH_take (i := 8) (v := .bool false) rfl (by kernel_rfl) (by kernel_rfl) (by kernel_rfl) (fun _ _ _ h => h) (.inl ⟨by rfl, fun _ _ => ?_⟩) hS ?_
  · go_simp
  simp only [Act.put, List.setIfInBounds_toArray, List.set_cons_zero, List.set_cons_succ, List.getElem_toArray, List.getElem_cons_succ, List.getElem_cons_zero]
  refine wpAnyH_take (i := 9) (v := .bool false) rfl (by kernel_rfl) (by kernel_rfl) (by kernel_rfl) (fun _ _ _ h => h) (.inl ⟨by rfl, fun _ _ => rfl⟩) hS ?_
  simp only [Act.put, List.setIfInBounds_toArray, List.set_cons_zero, List.set_cons_succ, List.getElem_toArray, List.getElem_cons_succ, List.getElem_cons_zero]
  refine wpAnyH_take (i := 10) (v := .agg lc.toArray) rfl (by kernel_rfl) (by kernel_rfl) (by kernel_rfl) (fun _ _ _ h => h) (yieldsIf_load_mid (by rfl) 25 (.tmp 1) rfl b1 0 rfl lc _ hSr Try.underlying25 rfl (by rw [hlcl]; exact sizeLab)) hS ?_
  simp only [Act.put, List.setIfInBounds_toArray, List.set_cons_zero, List.set_cons_succ, List.getElem_toArray, List.getElem_cons_succ, List.getElem_cons_zero]
  refine wpAnyH_take (i := 12) (v := .agg lc.toArray) rfl (by kernel_rfl) (by kernel_rfl) (by kernel_rfl) (fun _ _ _ h => h) (yieldsIf_load_mid (by rfl) 25 (.tmp 1) rfl b1 0 rfl lc _ hSr Try.underlying25 rfl (by rw [hlcl]; exact sizeLab)) hS ?_
  simp only [Act.put, List.setIfInBounds_toArray, List.set_cons_zero, List.set_cons_succ, List.getElem_toArray, List.getElem_cons_succ, List.getElem_cons_zero]
  refine wpAnyH_one (k := 11) rfl (by kernel_rfl) ?_
  go_wp2_with fail
  refine (HCC.out _).mono ?_
  rintro e w4 ⟨rfl, hw4⟩
  have hS4 := hSk _ w4 hS (by rw [← hw4]; exact (Keep.refl _ _).alloc _)
  rw [HER.out]
  clear hw4
  go_wp2_with fail
  refine ⟨hS4, ?_⟩
  refine wpAnyH_one (k := 13) rfl (by kernel_rfl) ?_
  go_wp2_with fail
  refine (HCQ.out _).mono ?_
  rintro e w5 ⟨rfl, hw5⟩
  have hS5 := hSk _ w5 hS4 (by rw [← hw5]; exact (Keep.refl _ _).alloc _)
  rw [HER.out]
  clear hw5 hS4
  go_wp2_with fail
  refine ⟨hS5, ?_⟩
  refine wpAnyH_take (i := 14) (v := .bool false) rfl (by kernel_rfl) (by kernel_rfl) (by kernel_rfl) (fun _ _ _ h => h) (.inl ⟨by rfl, fun _ _ => ?_⟩) hS5 ?_
  · go_simp
  simp only [Act.put, List.setIfInBounds_toArray, List.set_cons_zero, List.set_cons_succ, List.getElem_toArray, List.getElem_cons_succ, List.getElem_cons_zero]
  refine wpAnyH_take (i := 15) (v := .bool false) rfl (by kernel_rfl) (by kernel_rfl) (by kernel_rfl) (fun _ _ _ h => h) (.inl ⟨by rfl, fun _ _ => ?_⟩) hS5 ?_
  · go_simp
  simp only [Act.put, List.setIfInBounds_toArray, List.set_cons_zero, List.set_cons_succ, List.getElem_toArray, List.getElem_cons_succ, List.getElem_cons_zero]
  refine wpAnyH_done (by kernel_rfl) ?_ _
  have hk5 := hSe _ hS5
  have HO5 := Lib.hid (hk5.owns HO23.out fun _ _ => id)
  have HF5 := Lib.hid (HF23.out.keep hk5 fun g hg => ⟨packs_free (w1 := w3) HO23.out hg, id⟩)
  have HB5 := Lib.hid (hk5.blk HB3.out id); have HK5 := Lib.hid (HK3.out.trans hk5)
  have HR5 := Lib.hid (HR3.out.keep hk5 fun _ _ => id); have HO35 := Lib.hid (hk5.owns HO3.out fun _ _ => id)
  clear hS hS5 hSe hSk hSr hk5 HO23 HF23 HR23
  go_wp2_with fail
  refine (over_any w5 _ _ _ _ HO5.out HF5.out).mono ?_
  rintro e w6 ⟨rfl, hk6⟩
  have hne : ∀ k, (Value.slice a3 (packB L).length c3).ownBlock = some k → ¬ (Value.slice a2 (packB L).length c2).ownBlock = some k := by
    intro k h3 h2
    have := packs_free (w1 := w2) HO2.out h2
    have := owns_ge HO3.out h3
    omega
  have hb1 : ¬ (Value.slice a2 (packB L).length c2).ownBlock = some b1 := by
    intro h
    have := owns_ge HO2.out h
    have := lt_of_block HB1.out
    omega
  have HB6 := Lib.hid (hk6.blk HB5.out hb1)
  have HR6 := Lib.hid (HR5.out.keep hk6 hne)
  have HK6 := Lib.hid (show Keep noBlk w w6 from HK5.out.trans' hk6 (fun _ _ h => h) (fun i hi e => by have := owns_ge HO2.out e; have := HK1.out.size; omega))
  clear hk6 hne hb1 HO5 HF5 HR5 HB5 HK5 HO35
  go_wp2_with (first
    | ((with_reducible show wpList _ _ _ (⟨some 38, .load 25 (.tmp 1), _, _, _, _⟩ :: _) _ _); refine wpList_load_mid rfl 25 (.tmp 1) rfl b1 0 rfl lc _ (rangeAt_whole HB6.out) Try.underlying25 rfl (by rw [hlcl]; exact sizeLab) ?_))
  refine (HCP.out w6).mono ?_
  rintro e w7 ⟨v7, rfl, hown7, hk7, -⟩
  rw [HER.out]
  have HR7 := Lib.hid (Rd.of_owns hown7); have HR67 := Lib.hid (HR6.out.keep hk7 fun _ _ => id); have HK7 := Lib.hid (HK6.out.trans hk7)
  obtain ⟨a7, c7, rfl, -, -⟩ := (Rd.of_owns hown7).form
  clear hown7 hk7
  go_wp2_with fail
  refine (same_any w7 _ _ (packB L) (packB L) HR7.out HR67.out true (by simp)).mono ?_
  rintro e w8 ⟨rfl, rfl⟩
  go_wp2_with fail
  refine (awake_any w7).mono ?_
  rintro e w8 ⟨rfl, hk8⟩
  have HK8 := Lib.hid (HK7.out.trans hk8); clear hk8
  go_wp2_with fail
  go_ret
  exact ⟨rfl, HK8.out⟩
end Go.Proofs.Ytdlegbcdmlmbpaa
