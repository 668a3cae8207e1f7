/-
  The chapter's examples: caulkerlaw03.awake.
  Conditions: none.
-/
import Derived.Test.YtnpmiocajmhjoaaOfAddr
namespace Go.Proofs.Ytnpmiocajmhjoaa
open Go.RowKit
set_option maxRecDepth 100000
set_option linter.unusedVariables false

theorem awakeSort : sortA (keysA (setOf (pairs [1, 5, 0, 7, 1, 5]))) = pairs [0, 7, 1, 5] := by
  have h : keysA (setOf (pairs [1, 5, 0, 7, 1, 5])) = [⟨1, 5⟩, ⟨0, 7⟩] := by decide
  rw [h]
  simp [sortA, pairs, List.mergeSort, List.MergeSort.Internal.splitInTwo, adLt]

set_option maxHeartbeats 4000000 in
theorem awake_any (w : World) : Calls Try.prog 13 #[] w (TherePost w true) := by
  have M1 := Lib.hid (fun w => show Calls Try.prog 9 #[adV ⟨1, 5⟩, .int .i64 2, .int .i64 8] w fun e w' => e = .returned (.bool true) ∧ Keep noBlk w w' from may_any ⟨1, 5⟩ 2 8 w)
  have M2 := Lib.hid (fun w => show Calls Try.prog 9 #[adV ⟨1, 4⟩, .int .i64 2, .int .i64 8] w fun e w' => e = .returned (.bool false) ∧ Keep noBlk w w' from may_any ⟨1, 4⟩ 2 8 w)
  have L1 := Lib.hid (fun w => show Calls Try.prog 11 #[adV ⟨0, 9⟩, adV ⟨1, 5⟩] w fun e w' => e = .returned (.bool true) ∧ Gr w w' from less_any ⟨0, 9⟩ ⟨1, 5⟩ w)
  have A1 := Lib.hid (at_any 1 5); have A2 := Lib.hid (at_any 1 4); have A3 := Lib.hid (at_any 0 9)
  go_enter Try.func13, Try.ntmps13
  go_wp2_with fail
  refine (A1.out _).mono ?_
  rintro e w1 ⟨rfl, hk⟩
  have HK := Lib.hid hk; clear hk
  go_wp2_with fail
  refine (M1.out _).mono ?_
  rintro e w2 ⟨rfl, hk⟩
  have HK := Lib.hid (HK.out.trans hk); clear hk
  go_wp2_with fail
  refine (A2.out _).mono ?_
  rintro e w3 ⟨rfl, hk⟩
  have HK := Lib.hid (HK.out.trans hk); clear hk
  go_wp2_with fail
  refine (M2.out _).mono ?_
  rintro e w4 ⟨rfl, hk⟩
  have HK := Lib.hid (HK.out.trans hk); clear hk
  go_wp2_with fail
  refine (A3.out _).mono ?_
  rintro e w5 ⟨rfl, hk⟩
  have HK := Lib.hid (HK.out.trans hk); clear hk
  go_wp2_with fail
  refine (A1.out _).mono ?_
  rintro e w6 ⟨rfl, hk⟩
  have HK := Lib.hid (HK.out.trans hk); clear hk
  go_wp2_with fail
  refine (L1.out _).mono ?_
  rintro e w7 ⟨rfl, hk⟩
  have HK := Lib.hid (HK.out.trans hk.keep); clear hk
  go_wp2_with fail
  refine (lawof_any _ _ [1, 5, 0, 7, 1, 5] (rd_blk (n := 6) (size := 1) (heap_alloc_new _ _) rfl (by unfold maxLen; omega)) (by decide)).mono ?_
  rintro e w8 ⟨v8, rfl, ho8, hk⟩
  have HK := Lib.hid ((HK.out.alloc _).trans hk); clear hk
  have hr8 := Rd.of_owns ho8
  have C8 := Lib.hid (sort_any w8 v8 _ (fun x hx => by simp only [pairs, List.mem_cons, List.not_mem_nil, or_false] at hx; rcases hx with rfl | rfl | rfl <;> exact ⟨⟨by decide, by decide⟩, by decide, by decide⟩) hr8 (by decide))
  obtain ⟨a8, c8, rfl, -, -⟩ := hr8.form
  clear ho8 hr8
  rw [awakeSort] at C8
  go_wp2_with fail
  refine C8.out.mono ?_
  rintro e w9 ⟨v9, rfl, ho9, hk⟩
  have HK := Lib.hid (HK.out.trans hk); clear hk C8
  have HR9 := Lib.hid (Rd.of_owns ho9)
  obtain ⟨a9, c9, rfl, -, -⟩ := HR9.out.form
  clear ho9
  go_wp2_with fail
  refine (lawof_any _ _ [0, 7, 1, 5] (rd_blk (n := 4) (size := 1) (heap_alloc_new _ _) rfl (by unfold maxLen; omega)) (by decide)).mono ?_
  rintro e wa ⟨va, rfl, hoa, hk⟩
  have hkk := ((Keep.refl noBlk w9).alloc _).trans hk
  have HK := Lib.hid (HK.out.trans hkk)
  have HR9 := Lib.hid (HR9.out.keep hkk fun _ _ => id)
  have hra := Rd.of_owns hoa
  have CS := Lib.hid (same_any wa _ _ _ _ HR9.out hra true (decide_eq_true rfl))
  obtain ⟨aa, ca, rfl, -, -⟩ := hra.form
  clear hk hkk hoa hra
  go_wp2_with fail
  refine CS.out.mono ?_
  rintro e wb ⟨rfl, hk⟩
  have HK := Lib.hid (HK.out.trans hk); clear hk
  go_wp2_with fail
  go_ret
  exact ⟨rfl, HK.out⟩
end Go.Proofs.Ytnpmiocajmhjoaa
