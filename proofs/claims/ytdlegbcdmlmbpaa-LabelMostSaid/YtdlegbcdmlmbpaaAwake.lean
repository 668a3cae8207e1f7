/-
  Some of the chapter's examples (awake): true, whatever the memory.
  Conditions: none.
-/
import Derived.Test.YtdlegbcdmlmbpaaOne
import Derived.Test.YtdlegbcdmlmbpaaCopy
import Derived.Lib.Strings
namespace Go.Proofs.Ytdlegbcdmlmbpaa
open Go.RowKit
set_option maxRecDepth 100000

theorem packB_one : packB oneLab = labBody oneLab ++ digest (labBody oneLab) := by unfold packB; rw [oneLab_may]; rfl
theorem packB_one_len : (packB oneLab).length = 256 := by rw [packB_one, List.length_append, labBody_length _ onePool_len, digest_length]
theorem packB_one_head : (packB oneLab).take 8 = labHead := by
  rw [packB_one, List.take_append_of_le_length (by rw [labBody_length _ onePool_len]; omega)]; decide
theorem packB_one_mid : ((packB oneLab).drop 40).take 10 = [1, 3, 2, 1, 44, 0, 0, 0, 0, 7] := by
  rw [packB_one, List.drop_append_of_le_length (by rw [labBody_length _ onePool_len]; omega), List.take_append_of_le_length (by rw [List.length_drop, labBody_length _ onePool_len]; omega)]; decide
theorem labOf_one : labOf (packB oneLab) = oneLab := by
  have h : ∀ i n, i + n ≤ 224 → ((packB oneLab).drop i).take n = ((labBody oneLab).drop i).take n := by
    intro i n hin
    rw [packB_one, List.drop_append_of_le_length (by rw [labBody_length _ onePool_len]; omega), List.take_append_of_le_length (by rw [List.length_drop, labBody_length _ onePool_len]; omega)]
  unfold labOf
  rw [h 8 32 (by omega), h 40 1 (by omega), h 41 1 (by omega), h 42 1 (by omega), h 43 2 (by omega), h 45 5 (by omega)]
  rfl
theorem unpackR_one : unpackR (packB oneLab) = (oneLab, 0) := by
  unfold unpackR
  rw [if_neg (by rw [packB_one_len]; simp), if_neg, if_pos]
  · rw [labOf_one]
  · rw [labOf_one]; exact ⟨oneLab_may, rfl⟩
  · intro e
    have := congrArg (fun l => l.take 8) e
    simp only [packB_one_head] at this
    revert this
    decide

theorem rd_take {w : World} {v : Value} {l : List UInt8} (h : Rd w 1 v l.length (l.map vb)) {g : Nat} {o n c : Nat} (hv : v = .slice (some ⟨g, o, none⟩) n c) (i k cap : Nat) (hik : i + k ≤ l.length) (hcap : k ≤ cap) (hm : cap ≤ maxLen) :
    Rd w 1 (.slice (some ⟨g, o + i, none⟩) k cap) ((l.drop i).take k).length (((l.drop i).take k).map vb) := by
  obtain ⟨h0, a, cp, rfl, h1, h2, h3, h4⟩ := h
  have hk : ((l.drop i).take k).length = k := by simp; omega
  refine ⟨by simp, _, cap, by rw [hk], by rw [hk]; exact hcap, hm, (by intro h; cases h), fun hpos => ⟨g, o + i, rfl, fun j u hu => ?_⟩⟩
  have hl0 : 0 < (l.map vb).length := by simp at hpos ⊢; omega
  obtain ⟨g', o', rfl, hc⟩ := h4 hl0
  cases hv
  rw [Nat.add_assoc]
  refine hc _ _ ?_
  rw [List.map_take, List.map_drop, List.getElem?_take] at hu
  split at hu
  · rwa [List.getElem?_drop] at hu
  · cases hu

set_option maxHeartbeats 4000000 in
theorem awake_any (w : World) : Calls Try.prog 16 #[] w (TherePost w true) := by
  go_enter Try.func16, Try.ntmps16
  go_wp2_with fail
  refine (one_any w).mono ?_
  rintro e w1 ⟨rfl, hk1⟩
  have HK1 := Lib.hid hk1; clear hk1
  obtain ⟨lc, hlc⟩ : ∃ lc, oneLab.cells = lc := ⟨_, rfl⟩
  have hlcl : lc.length = 37 := by rw [← hlc]; exact oneLab.cells_length onePool_len
  have hlco : ∀ u ∈ lc, u.oneCell' = true := by rw [← hlc]; exact oneCell_lab oneLab
  have CP := pack_any oneLab onePool_len w1
  have heq := eqLab oneLab oneLab onePool_len onePool_len
  rw [hlc] at CP heq ⊢
  have HLC := Lib.hid hlc; have HEQ := Lib.hid heq; have C := Lib.hid CP
  clear hlc heq CP
  go_wp2_with fail
  refine C.out.mono ?_
  clear C
  rintro e w2 ⟨v2, rfl, hown, hk2⟩
  rw [oneLab_may]
  obtain ⟨g, c, hv, hc⟩ : ∃ g c, v2 = .slice (some ⟨g, 0, none⟩) 256 c ∧ 256 ≤ c := by
    rcases hown.2 with ⟨-, h0⟩ | ⟨g, cap, cur, h1, _, _, h2, _⟩
    · rw [packB_one_len] at h0; omega
    · rw [packB_one_len] at h1 h2; exact ⟨g, cap, h1, h2⟩
  have hcm : c ≤ maxLen := by
    obtain ⟨a, cp, h1, h2, h3⟩ := (Rd.of_owns hown).form
    rw [hv] at h1; cases h1; exact h3
  have HRD := Lib.hid (Rd.of_owns hown); have HK2 := Lib.hid (HK1.out.trans hk2)
  subst hv
  clear hown hk2 HK1
  have hcm' : c ≤ 9223372036854775807 := by unfold maxLen at hcm; exact hcm
  have k1 := conv_rd (rd_take HRD.out rfl 0 8 c (by rw [packB_one_len]; omega) (by omega) hcm)
  rw [List.drop_zero, packB_one_head, Nat.add_zero] at k1
  have hsl : (strB labHead).toList = [67, 65, 85, 76, 75, 69, 82, 49] := by unfold strB; rw [ByteArray.toList_mk]; rfl
  go_wp2_with fail
  clear hsl k1
  have hmid := packB_one_mid
  have K3 : Keep noBlk w2 (w2.alloc (.cells (([1, 3, 2, 1, 44, 0, 0, 0, 0, 7] : List UInt8).map vb).toArray 5)) := (Keep.refl _ _).alloc _
  have r1 := rd_take HRD.out rfl 40 10 (c - 40) (by rw [packB_one_len]; omega) (by omega) (by omega)
  rw [hmid, Nat.zero_add] at r1
  have r2 := rd_lit w2 [1, 3, 2, 1, 44, 0, 0, 0, 0, 7] 5 (0, 0) (by decide)
  refine (same_any _ _ _ [1, 3, 2, 1, 44, 0, 0, 0, 0, 7] [1, 3, 2, 1, 44, 0, 0, 0, 0, 7] (r1.keep K3 fun _ _ => id) r2 true (by simp)).mono ?_
  rintro e w3 ⟨rfl, hw3⟩
  have HK3 := Lib.hid (show Keep noBlk w2 w3 by rw [← hw3]; exact K3)
  clear hw3 r1 r2 hmid K3
  go_wp2_with fail
  have C4 := unpack_any w3 _ (packB oneLab) (HRD.out.keep HK3.out fun _ _ => id) (by rw [packB_one_len]; omega)
  rw [unpackR_one] at C4
  refine C4.mono ?_
  clear C4
  rintro e w4 ⟨rfl, hk4⟩
  rw [show (oneLab, (0 : Int)).1.cells = lc from HLC.out]
  have HK4 := Lib.hid (HK2.out.trans (HK3.out.trans hk4)); clear hk4
  obtain ⟨zc, hzc, hzl⟩ : ∃ zc, zeroLab.cells = zc ∧ zc.length = 37 := ⟨_, rfl, rfl⟩
  have hzv : ∀ w, (zeroValue 25).run Try.prog w = .ok (.agg zc.toArray) w := by rw [← hzc]; exact zeroValLab
  clear hzc
  go_wp2_with (first
    | (refine wpList_alloc_at rfl 25 rfl _ hzv zc.toArray rfl ?_)
    | ((with_reducible show wpList _ _ _ (⟨none, .store 25 (.tmp 3) (.tmp 33), _, _, _, _⟩ :: _) _ _); refine wpList_store_agg rfl 25 (.tmp 3) (.tmp 33) rfl w4.heap.size 0 lc rfl rfl zc.toArray _ (heap_alloc_new _ _) (by rw [hlcl, List.size_toArray, hzl]; exact Nat.le_refl _) (by rw [hlcl]; exact sizeLab) hlco ?_; intro w5 hb5 hk5; have HB5 := Lib.hid hb5; have HK5 := Lib.hid hk5; clear hb5 hk5))
  obtain ⟨b3, hb3⟩ : ∃ b3, w4.heap.size = b3 := ⟨_, rfl⟩
  have hlab : w5.heap[b3]? = some (.cells lc.toArray 25 (0, 0)) := by
    have := HB5.out
    rw [spl_whole _ _ (by rw [hlcl, List.size_toArray, hzl]), hb3] at this
    exact this
  have hk5 : Keep noBlk w w5 := HK4.out.trans' (((Keep.refl noBlk w4).alloc _).trans' HK5.out (U := fun k => k = w4.heap.size) (fun _ _ h => h.elim) (fun i hi e => e)) (fun _ _ h => h) (fun i hi e => by have := HK4.out.size; omega)
  rw [hb3]
  have HK6 := Lib.hid hk5
  clear hb3 HB5 HK5 HRD HK4 HK3 hk5 hzv
  obtain ⟨w6, hw6⟩ : ∃ w6, w5.drew = w6 := ⟨_, rfl⟩
  obtain ⟨S, hS0⟩ : ∃ S : World → Prop, S = fun w' => w'.heap[b3]? = some (.cells lc.toArray 25 (0, 0)) ∧ Keep noBlk w w' := ⟨_, rfl⟩
  have hS : S w6 := by rw [hS0, ← hw6]; exact ⟨hlab, HK6.out.drew⟩
  have hSr : ∀ w', S w' → w'.rangeAt b3 0 lc := fun w' h => by rw [hS0] at h; exact rangeAt_whole h.1
  have hSk : ∀ w' w'', S w' → Keep noBlk w' w'' → S w'' := fun w' w'' h k => by rw [hS0] at h ⊢; exact ⟨k.blk h.1 id, h.2.trans k⟩
  have hSe : ∀ w', S w' → Keep noBlk w w' := fun w' h => by rw [hS0] at h; exact h.2
  refine wp_region_held (S := S) (by kernel_rfl) ?_
  change wpAnyH _ _ _ _ _ _ _ _ w5.drew
  rw [hw6]
  obtain ⟨ps, hps⟩ : ∃ ps, onePool.map vb = ps := ⟨_, rfl⟩
  have hpsl : ps.length = 32 := by rw [← hps]; rfl
  have hSp : ∀ w', S w' → w'.rangeAt b3 0 ps := fun w' h => by
    intro j u hj
    have hj32 : j < 32 := by rw [← hpsl]; exact (List.getElem?_eq_some_iff.1 hj).1
    refine hSr w' h j u ?_
    rw [← HLC.out, oneLab.cells_pool onePool_len j hj32]
    show (onePool.map vb)[j]? = _
    rw [hps]; exact hj
  have CT := fun w => Lib.hid (there_any w oneLab onePool 1 7 onePool_len onePool_len)
  rw [show oneLab.cells = lc from HLC.out, hps, show thereB oneLab onePool 1 7 = true by decide] at CT
  have C1 := fun w => Lib.hid (one_any w)
  rw [show oneLab.cells = lc from HLC.out] at C1
  clear hw6 hlab hS0 HK6 hps
  refine wpAnyH_take (i := 0) (v := .int .i64 0) rfl (by kernel_rfl) (by kernel_rfl) (by kernel_rfl) (fun _ _ _ h => h) (.inl ⟨by rfl, fun _ _ => rfl⟩) hS ?_
  simp only [Act.put, List.setIfInBounds_toArray, List.set_cons_zero, List.set_cons_succ, List.getElem_toArray, List.getElem_cons_zero]
  refine wpAnyH_take (i := 1) (v := .bool true) rfl (by kernel_rfl) (by kernel_rfl) (by kernel_rfl) (fun _ _ _ h => h) (.inl ⟨by rfl, fun _ _ => ?_⟩) hS ?_
  · go_simp
  simp only [Act.put, List.setIfInBounds_toArray, List.set_cons_zero, List.set_cons_succ, List.getElem_toArray, List.getElem_cons_succ, List.getElem_cons_zero]
  refine wpAnyH_take (i := 2) (v := .bool true) rfl (by kernel_rfl) (by kernel_rfl) (by kernel_rfl) (fun _ _ _ h => h) (.inl ⟨by rfl, fun _ _ => rfl⟩) hS ?_
  simp only [Act.put, List.setIfInBounds_toArray, List.set_cons_zero, List.set_cons_succ, List.getElem_toArray, List.getElem_cons_succ, List.getElem_cons_zero]
  refine wpAnyH_take (i := 3) (v := .agg lc.toArray) rfl (by kernel_rfl) (by kernel_rfl) (by kernel_rfl) (fun _ _ _ h => h) (yieldsIf_load_mid (by rfl) 25 (.tmp 3) rfl b3 0 rfl lc _ hSr Try.underlying25 rfl (by rw [hlcl]; exact sizeLab)) hS ?_
  simp only [Act.put, List.setIfInBounds_toArray, List.set_cons_zero, List.set_cons_succ, List.getElem_toArray, List.getElem_cons_succ, List.getElem_cons_zero]
  refine wpAnyH_one (k := 4) rfl (by kernel_rfl) ?_
  go_wp2_with fail
  refine (C1 _).out.mono ?_
  rintro e w7 ⟨rfl, hk7⟩
  have hS7 := hSk _ _ hS hk7
  clear hS hk7 C1
  go_wp2_with fail
  refine ⟨hS7, ?_⟩
  have heq := HEQ.out
  simp only [decide_true, Bool.and_true] at heq
  refine wpAnyH_take (i := 5) (v := .bool true) rfl (by kernel_rfl) (by kernel_rfl) (by kernel_rfl) (fun _ _ _ h => h) (.inl ⟨by rfl, fun _ _ => ?_⟩) hS7 ?_
  · go_simp
  simp only [Act.put, List.setIfInBounds_toArray, List.set_cons_zero, List.set_cons_succ, List.getElem_toArray, List.getElem_cons_succ, List.getElem_cons_zero]
  refine wpAnyH_take (i := 6) (v := .bool true) rfl (by kernel_rfl) (by kernel_rfl) (by kernel_rfl) (fun _ _ _ h => h) (.inl ⟨by rfl, fun _ _ => ?_⟩) hS7 ?_
  · go_simp
  simp only [Act.put, List.setIfInBounds_toArray, List.set_cons_zero, List.set_cons_succ, List.getElem_toArray, List.getElem_cons_succ, List.getElem_cons_zero]
  refine wpAnyH_take (i := 7) (v := .bool true) rfl (by kernel_rfl) (by kernel_rfl) (by kernel_rfl) (fun _ _ _ h => h) (.inl ⟨by rfl, fun _ _ => rfl⟩) hS7 ?_
  simp only [Act.put, List.setIfInBounds_toArray, List.set_cons_zero, List.set_cons_succ, List.getElem_toArray, List.getElem_cons_succ, List.getElem_cons_zero]
  refine wpAnyH_take (i := 8) (v := .agg lc.toArray) rfl (by kernel_rfl) (by kernel_rfl) (by kernel_rfl) (fun _ _ _ h => h) (yieldsIf_load_mid (by rfl) 25 (.tmp 3) rfl b3 0 rfl lc _ hSr Try.underlying25 rfl (by rw [hlcl]; exact sizeLab)) hS7 ?_
  simp only [Act.put, List.setIfInBounds_toArray, List.set_cons_zero, List.set_cons_succ, List.getElem_toArray, List.getElem_cons_succ, List.getElem_cons_zero]
  refine wpAnyH_take (i := 9) (v := .pointer (some ⟨b3, 0, none⟩)) rfl (by kernel_rfl) (by kernel_rfl) (by kernel_rfl) (fun _ _ _ h => h) (.inl ⟨by rfl, fun _ _ => ?_⟩) hS7 ?_
  · go_simp
  simp only [Act.put, List.setIfInBounds_toArray, List.set_cons_zero, List.set_cons_succ, List.getElem_toArray, List.getElem_cons_succ, List.getElem_cons_zero]
  refine wpAnyH_take (i := 10) (v := .agg ps.toArray) rfl (by kernel_rfl) (by kernel_rfl) (by kernel_rfl) (fun _ _ _ h => h) (yieldsIf_load_mid (by rfl) 23 (.tmp 44) rfl b3 0 rfl ps _ hSp Try.underlying23 rfl (by rw [hpsl]; exact sizeID)) hS7 ?_
  simp only [Act.put, List.setIfInBounds_toArray, List.set_cons_zero, List.set_cons_succ, List.getElem_toArray, List.getElem_cons_succ, List.getElem_cons_zero]
  refine wpAnyH_one (k := 11) rfl (by kernel_rfl) ?_
  go_wp2_with fail
  refine (CT _).out.mono ?_
  rintro e w8 ⟨rfl, hk8⟩
  have hS8 := hSk _ _ hS7 hk8
  clear hS7 hk8 CT
  go_wp2_with fail
  refine ⟨hS8, ?_⟩
  refine wpAnyH_take (i := 12) (v := .bool true) rfl (by kernel_rfl) (by kernel_rfl) (by kernel_rfl) (fun _ _ _ h => h) (.inl ⟨by rfl, fun _ _ => ?_⟩) hS8 ?_
  · go_simp
  simp only [Act.put, List.setIfInBounds_toArray, List.set_cons_zero, List.set_cons_succ, List.getElem_toArray, List.getElem_cons_succ, List.getElem_cons_zero]
  refine wpAnyH_take (i := 13) (v := .bool true) rfl (by kernel_rfl) (by kernel_rfl) (by kernel_rfl) (fun _ _ _ h => h) (.inl ⟨by rfl, fun _ _ => rfl⟩) hS8 ?_
  simp only [Act.put, List.setIfInBounds_toArray, List.set_cons_zero, List.getElem_toArray, List.getElem_cons_succ, List.getElem_cons_zero]
  refine wpAnyH_done (by kernel_rfl) ?_ _
  go_wp2_with fail
  go_ret
  exact ⟨rfl, hSe _ hS8⟩
end Go.Proofs.Ytdlegbcdmlmbpaa
