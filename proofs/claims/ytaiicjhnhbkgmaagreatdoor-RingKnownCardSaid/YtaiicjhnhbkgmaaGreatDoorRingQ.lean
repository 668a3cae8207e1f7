/-
  RingKnown's walk.
  Conditions: none.
-/
import Derived.Test.YtaiicjhnhbkgmaaGreatDoorRingO
import Derived.Test.YtaiicjhnhbkgmaaGreatDoorRingA
namespace Go.Proofs.YtaiicjhnhbkgmaaGreatDoor
open Go.RowKit Go.Maps Go.ChangeMaps
set_option maxRecDepth 100000
set_option linter.unusedVariables false

def pool1 : List UInt8 := 1 :: List.replicate 31 0
theorem rows_of_cells {w : World} {x n : Nat} {vs : List Value} {hs : List (List UInt8)} (h : w.heap[x]? = some (.cells vs.toArray 51 (0, 0))) (hn : vs.length = n) (hm : n ≤ 4) (hl : hs.length = n) (hr : ∀ (i : Nat) (L : List UInt8), hs[i]? = some L → ∃ u, vs[i]? = some u ∧ Rd w 1 u L.length (L.map vb)) :
    RowsB w (.slice (some ⟨x, 0, none⟩) n n) hs := ⟨vs, by rw [hl]; exact rd_blk (n := n) (size := 1) h (by rw [hn]; omega) (by unfold maxLen; omega), hr⟩
theorem rows4 {w : World} {x n1 n2 n3 n4 c1 c2 c3 c4 : Nat} {b1 b2 b3 b4 : Option Addr} {L1 L2 L3 L4 : List UInt8} (h : w.heap[x]? = some (.cells #[.slice b1 n1 c1, .slice b2 n2 c2, .slice b3 n3 c3, .slice b4 n4 c4] 51 (0, 0)))
    (h1 : Rd w 1 (.slice b1 n1 c1) L1.length (L1.map vb)) (h2 : Rd w 1 (.slice b2 n2 c2) L2.length (L2.map vb)) (h3 : Rd w 1 (.slice b3 n3 c3) L3.length (L3.map vb)) (h4 : Rd w 1 (.slice b4 n4 c4) L4.length (L4.map vb)) :
    RowsB w (.slice (some ⟨x, 0, none⟩) 4 4) [L1, L2, L3, L4] := by
  refine rows_of_cells (vs := [_, _, _, _]) h rfl (by decide) rfl fun i L hi => ?_
  match i, hi with
  | 0, hi => cases hi; exact ⟨_, rfl, h1⟩
  | 1, hi => cases hi; exact ⟨_, rfl, h2⟩
  | 2, hi => cases hi; exact ⟨_, rfl, h3⟩
  | 3, hi => cases hi; exact ⟨_, rfl, h4⟩
  | i + 4, hi => simp at hi
theorem rows1 {w : World} {x n1 c1 : Nat} {b1 : Option Addr} {L1 : List UInt8} (h : w.heap[x]? = some (.cells #[.slice b1 n1 c1] 51 (0, 0))) (h1 : Rd w 1 (.slice b1 n1 c1) L1.length (L1.map vb)) : RowsB w (.slice (some ⟨x, 0, none⟩) 1 1) [L1] := by
  refine rows_of_cells (vs := [_]) h rfl (by decide) rfl fun i L hi => ?_
  match i, hi with
  | 0, hi => cases hi; exact ⟨_, rfl, h1⟩
  | i + 1, hi => simp at hi
theorem lens_rows (t : Int) : ∀ L ∈ [packU (ofUb t), z256, z256, z256], L.length ≤ 65536 := fun L hL => by
  have hz : z256.length = 256 := List.length_replicate ..
  have h5 := len_of t
  simp only [List.mem_cons, List.not_mem_nil, or_false] at hL
  rcases hL with rfl | rfl | rfl | rfl <;> omega
theorem len56b : ∀ L ∈ [z256, packU (ofUb 5), packU (ofUb 6), z256], L.length ≤ 600 := fun L hL => by
  have hz : z256.length = 256 := List.length_replicate ..
  have h5 := len_of 5; have h6 := len_of 6
  simp only [List.mem_cons, List.not_mem_nil, or_false] at hL
  rcases hL with rfl | rfl | rfl | rfl <;> omega
theorem len5b : ∀ L ∈ [packU (ofUb 5)], L.length ≤ 600 := fun L hL => by
  have h5 := len_of 5
  simp only [List.mem_cons, List.not_mem_nil, or_false] at hL
  subst hL; omega
theorem len5c : ∀ L ∈ [packU (ofUb 5)], L.length ≤ 65536 := fun L hL => by have := len5b L hL; omega
theorem known1 : foundA [packU (ofUb 5), z256, z256, z256] zeros32 = ([], 0) := by
  have h0 : foundAt [packU (ofUb 5), z256, z256, z256] zeros32 0 = [] := (found_of (by decide) (by decide) _ _).trans (if_neg (by rintro ⟨-, h⟩; exact absurd h (by decide)))
  have h1 : foundAt [packU (ofUb 5), z256, z256, z256] zeros32 1 = [] := found_z _ _
  have h2 : foundAt [packU (ofUb 5), z256, z256, z256] zeros32 2 = [] := found_z _ _
  have h3 : foundAt [packU (ofUb 5), z256, z256, z256] zeros32 3 = [] := found_z _ _
  unfold foundA
  rw [if_pos (by rfl), flat4, h0, h1, h2, h3]; rfl
theorem pool1_ne : ¬ zeros32 = pool1 := by decide
theorem known2 : foundA [z256, packU (ofUb 5), packU (ofUb 6), z256] pool1 = ([], 0) := by
  have h0 : foundAt [z256, packU (ofUb 5), packU (ofUb 6), z256] pool1 0 = [] := found_z _ _
  have h1 : foundAt [z256, packU (ofUb 5), packU (ofUb 6), z256] pool1 1 = [] := (found_of (by decide) (by decide) _ _).trans (if_neg (by rintro ⟨h, -⟩; exact pool1_ne h))
  have h2 : foundAt [z256, packU (ofUb 5), packU (ofUb 6), z256] pool1 2 = [] := (found_of (by decide) (by decide) _ _).trans (if_neg (by rintro ⟨h, -⟩; exact pool1_ne h))
  have h3 : foundAt [z256, packU (ofUb 5), packU (ofUb 6), z256] pool1 3 = [] := found_z _ _
  unfold foundA
  rw [if_pos (by rfl), flat4, h0, h1, h2, h3]; rfl
theorem known3 : foundA [packU (ofUb 5)] zeros32 = ([], 2) := by
  unfold foundA
  rw [if_neg (by decide)]
theorem usedB_of {t : Int} (h1 : 1 ≤ t) (h2 : t ≤ 2147483648) : usedB (packU (ofUb t)) = true := by
  have hm := may_of h1 h2
  cases h : usedB (packU (ofUb t))
  · exfalso
    refine not_noughts (packU_0 hm) (List.eq_replicate_iff.2 ⟨packU_len rfl rfl hm, fun b hb => ?_⟩)
    unfold usedB at h
    rw [List.any_eq_false] at h
    simpa using h b hb
  · rfl
theorem usedB_z : usedB z256 = false := by
  unfold usedB z256
  rw [List.any_eq_false]
  intro x hx
  simp [List.eq_of_mem_replicate hx]
theorem used1 : (if [z256, packU (ofUb 5), packU (ofUb 6), z256].length = 4 then (usedN [z256, packU (ofUb 5), packU (ofUb 6), z256] : Int) else 0) = 2 ∧ (if [z256, packU (ofUb 5), packU (ofUb 6), z256].length = 4 then (0 : Int) else 2) = 0 := by
  rw [if_pos (by rfl), if_pos (by rfl)]
  refine ⟨?_, rfl⟩
  unfold usedN
  rw [List.filter_cons_of_neg (by rw [usedB_z]; decide), List.filter_cons_of_pos (usedB_of (by decide) (by decide)), List.filter_cons_of_pos (usedB_of (by decide) (by decide)), List.filter_cons_of_neg (by rw [usedB_z]; decide)]; rfl
theorem used2 : (if ([[], [], [], []] : List (List UInt8)).length = 4 then (usedN [[], [], [], []] : Int) else 0) = 0 ∧ (if ([[], [], [], []] : List (List UInt8)).length = 4 then (0 : Int) else 2) = 0 := by decide
theorem used3 : (if [packU (ofUb 5)].length = 4 then (usedN [packU (ofUb 5)] : Int) else 0) = 0 ∧ (if [packU (ofUb 5)].length = 4 then (0 : Int) else 2) = 2 := by
  rw [if_neg (by decide), if_neg (by decide)]; exact ⟨rfl, rfl⟩
set_option maxHeartbeats 16000000 in
theorem ringKnown_walk (w : World) (aF aR : Addr) (hg : ErrG w aF aR) : Calls Tryz.prog 6 #[] w (TherePost w true) := by
  obtain ⟨zc, hzc, hzl⟩ : ∃ zc, ubCs (.slice none 0 0) zUb = zc ∧ zc.length = 69 := ⟨_, rfl, rfl⟩
  have hzv : ∀ w, (zeroValue 36).run Tryz.prog w = .ok (.agg zc.toArray) w := by rw [← hzc]; exact zeroValUb
  have HZV := Lib.hid hzv; have HZC := Lib.hid hzc
  clear hzc hzv
  obtain ⟨pz, hpz, hbz⟩ : ∃ l, zeros32.map vb = l ∧ ∀ w, (Instr.build 32 #[]).run Tryz.prog w = .ok (.agg l.toArray) w := ⟨_, rfl, fun w => by kernel_rfl⟩
  have HPZ := Lib.hid hpz; have HBZ := Lib.hid hbz
  clear hpz hbz
  obtain ⟨p1, hp1, hb1⟩ : ∃ l, pool1.map vb = l ∧ ∀ w, (Instr.build 32 #[(0, .int .u8 1)]).run Tryz.prog w = .ok (.agg l.toArray) w := ⟨_, rfl, fun w => by kernel_rfl⟩
  have HP1 := Lib.hid hp1; have HBP := Lib.hid hb1
  clear hp1 hb1
  have HG := Lib.hid hg; have HK := Lib.hid (Keep.refl noBlk w)
  clear hg
  go_enter Tryz.func6, Tryz.ntmps6
  go_wp2_with fail
  refine (of_any w 5).mono ?_
  rintro e w1 ⟨v1, rfl, ho, hk⟩
  have HG := Lib.hid (HG.out.keep hk)
  have HK := Lib.hid (HK.out.trans hk)
  clear hk
  obtain ⟨a1, c1, hv_, -, -⟩ := (Rd.of_owns ho).form
  subst hv_
  obtain ⟨m1, hm_⟩ : ∃ m, (packU (ofUb 5)).length = m := ⟨_, rfl⟩
  have HM1 := Lib.hid hm_
  have hr_ := Rd.of_owns ho
  rw [hm_] at hr_ ⊢
  have HRB1 := Lib.hid hr_
  obtain ⟨lc1, hlc_, hl1, hoo⟩ : ∃ l, ubCs (Value.slice none 0 0) (ofUb 5) = l ∧ l.length = 69 ∧ ∀ u ∈ l, u.oneCell' = true := ⟨_, rfl, rfl, oneCell_ub _⟩
  have HLC1 := Lib.hid hlc_; have HC1 := Lib.hid hoo
  rw [hlc_]
  clear ho hm_ hr_ hlc_ hoo
  go_wp2_with (first
    | ((with_reducible show wpList _ _ _ (⟨_, .alloc 36, _, _, _, _⟩ :: _) _ _); refine wpList_alloc_at rfl 36 rfl _ HZV.out zc.toArray rfl ?_)
    | ((with_reducible show wpList _ _ _ (⟨none, .store 36 (.tmp 1) (.tmp 30), _, _, _, _⟩ :: _) _ _)
       refine wpList_store_agg rfl 36 (.tmp 1) (.tmp 30) rfl w1.heap.size 0 lc1 rfl rfl zc.toArray _ (heap_alloc_new _ _) (by rw [hl1, List.size_toArray, hzl]; exact Nat.le_refl _) (sizeUbL hl1) HC1.out ?_
       intro w2 hb5 hk5
       rw [spl_whole _ _ (by rw [hl1, List.size_toArray, hzl])] at hb5
       have hkb : Keep noBlk w1 w2 := ((Keep.refl noBlk w1).alloc _).trans' hk5 (fun _ _ h => h.elim) (fun i hi e => by omega)
       clear hk5
       obtain ⟨b1, hb_⟩ : ∃ b, w1.heap.size = b := ⟨_, rfl⟩
       rw [hb_] at hb5 ⊢
       have HBS1 := Lib.hid hb_; clear hb_
       have HB1 := Lib.hid hb5; clear hb5))
  have HG := Lib.hid (HG.out.keep hkb)
  have HK := Lib.hid (HK.out.trans hkb)
  have HRB1 := Lib.hid (HRB1.out.keep hkb fun _ _ => id)
  clear hkb
  go_wp2_with fail
  refine (of_any w2 6).mono ?_
  rintro e w3 ⟨v2, rfl, ho, hk⟩
  have HG := Lib.hid (HG.out.keep hk)
  have HK := Lib.hid (HK.out.trans hk)
  have HRB1 := Lib.hid (HRB1.out.keep hk fun _ _ => id)
  have HB1 := Lib.hid (hk.blk HB1.out id)
  clear hk
  obtain ⟨a2, c2, hv_, -, -⟩ := (Rd.of_owns ho).form
  subst hv_
  obtain ⟨m2, hm_⟩ : ∃ m, (packU (ofUb 6)).length = m := ⟨_, rfl⟩
  have HM2 := Lib.hid hm_
  have hr_ := Rd.of_owns ho
  rw [hm_] at hr_ ⊢
  have HRB2 := Lib.hid hr_
  obtain ⟨lc2, hlc_, hl2, hoo⟩ : ∃ l, ubCs (Value.slice none 0 0) (ofUb 6) = l ∧ l.length = 69 ∧ ∀ u ∈ l, u.oneCell' = true := ⟨_, rfl, rfl, oneCell_ub _⟩
  have HLC2 := Lib.hid hlc_; have HC2 := Lib.hid hoo
  rw [hlc_]
  clear ho hm_ hr_ hlc_ hoo
  go_wp2_with (first
    | ((with_reducible show wpList _ _ _ (⟨_, .alloc 36, _, _, _, _⟩ :: _) _ _); refine wpList_alloc_at rfl 36 rfl _ HZV.out zc.toArray rfl ?_)
    | ((with_reducible show wpList _ _ _ (⟨none, .store 36 (.tmp 3) (.tmp 34), _, _, _, _⟩ :: _) _ _)
       refine wpList_store_agg rfl 36 (.tmp 3) (.tmp 34) rfl w3.heap.size 0 lc2 rfl rfl zc.toArray _ (heap_alloc_new _ _) (by rw [hl2, List.size_toArray, hzl]; exact Nat.le_refl _) (sizeUbL hl2) HC2.out ?_
       intro w4 hb5 hk5
       rw [spl_whole _ _ (by rw [hl2, List.size_toArray, hzl])] at hb5
       have hkb : Keep noBlk w3 w4 := ((Keep.refl noBlk w3).alloc _).trans' hk5 (fun _ _ h => h.elim) (fun i hi e => by omega)
       clear hk5
       obtain ⟨b2, hb_⟩ : ∃ b, w3.heap.size = b := ⟨_, rfl⟩
       rw [hb_] at hb5 ⊢
       have HBS2 := Lib.hid hb_; clear hb_
       have HB2 := Lib.hid hb5; clear hb5))
  have HG := Lib.hid (HG.out.keep hkb)
  have HK := Lib.hid (HK.out.trans hkb)
  have HRB1 := Lib.hid (HRB1.out.keep hkb fun _ _ => id)
  have HB1 := Lib.hid (hkb.blk HB1.out id)
  have HRB2 := Lib.hid (HRB2.out.keep hkb fun _ _ => id)
  clear hkb
  go_wp2_with fail
  refine (slot_any w4 1 (by decide) (by decide)).mono ?_
  rintro e w5 ⟨rfl, hk⟩
  rw [show slotN 1 = 2 from rfl, show slotB 1 = true from rfl]
  have HG := Lib.hid (HG.out.keep hk)
  have HK := Lib.hid (HK.out.trans hk)
  have HRB1 := Lib.hid (HRB1.out.keep hk fun _ _ => id)
  have HB1 := Lib.hid (hk.blk HB1.out id)
  have HRB2 := Lib.hid (HRB2.out.keep hk fun _ _ => id)
  have HB2 := Lib.hid (hk.blk HB2.out id)
  clear hk
  go_wp2_with fail
  refine (slot_any w5 4 (by decide) (by decide)).mono ?_
  rintro e w6 ⟨rfl, hk⟩
  rw [show slotN 4 = 1 from rfl, show slotB 4 = true from rfl]
  have HG := Lib.hid (HG.out.keep hk)
  have HK := Lib.hid (HK.out.trans hk)
  have HRB1 := Lib.hid (HRB1.out.keep hk fun _ _ => id)
  have HB1 := Lib.hid (hk.blk HB1.out id)
  have HRB2 := Lib.hid (HRB2.out.keep hk fun _ _ => id)
  have HB2 := Lib.hid (hk.blk HB2.out id)
  clear hk
  go_wp2_with fail
  refine (slot_any w6 2147483648 (by decide) (by decide)).mono ?_
  rintro e w7 ⟨rfl, hk⟩
  rw [show slotN 2147483648 = 1 from rfl, show slotB 2147483648 = true from rfl]
  have HG := Lib.hid (HG.out.keep hk)
  have HK := Lib.hid (HK.out.trans hk)
  have HRB1 := Lib.hid (HRB1.out.keep hk fun _ _ => id)
  have HB1 := Lib.hid (hk.blk HB1.out id)
  have HRB2 := Lib.hid (HRB2.out.keep hk fun _ _ => id)
  have HB2 := Lib.hid (hk.blk HB2.out id)
  clear hk
  go_wp2_with fail
  refine (slot_any w7 0 (by decide) (by decide)).mono ?_
  rintro e w8 ⟨rfl, hk⟩
  rw [show slotN 0 = 0 from rfl, show slotB 0 = false from rfl]
  have HG := Lib.hid (HG.out.keep hk)
  have HK := Lib.hid (HK.out.trans hk)
  have HRB1 := Lib.hid (HRB1.out.keep hk fun _ _ => id)
  have HB1 := Lib.hid (hk.blk HB1.out id)
  have HRB2 := Lib.hid (HRB2.out.keep hk fun _ _ => id)
  have HB2 := Lib.hid (hk.blk HB2.out id)
  clear hk
  go_wp2_with (first
    | ((with_reducible show wpList _ _ _ (⟨_, .makeSlice _ _ _, _, _, _, _⟩ :: _) _ _)
       refine wpList_make_one rfl (.const (.int .i64 256)) (.const (.int .i64 256)) 51 rfl w8.heap.size 5 (.int .u8 0) 1 Tryz.underlying51 infoU8 rfl 256 rfl rfl (by decide) (by unfold maxLen; omega) (Nat.le_refl _) ?_
       intro w9 ho hk
       obtain ⟨zb, hzb⟩ : ∃ x, w8.heap.size = x := ⟨_, rfl⟩
       rw [hzb] at ho ⊢
       have hz_ : Rd w9 1 (.slice (some ⟨zb, 0, none⟩) 256 256) 256 (z256.map vb) := by rw [z256_vb]; exact Rd.of_owns ho
       have HZR := Lib.hid hz_
       have HKM := Lib.hid hk
       clear ho hz_ hzb hk)
    | ((with_reducible show wpList _ _ _ (⟨_, .build 32 #[], _, _, _, _⟩ :: _) _ _); refine wpList_build_to rfl 32 #[] rfl [] rfl (.agg pz.toArray) HBZ.out ?_))
  have HG := Lib.hid (HG.out.keep HKM.out)
  have HK := Lib.hid (HK.out.trans HKM.out)
  have HRB1 := Lib.hid (HRB1.out.keep HKM.out fun _ _ => id)
  have HB1 := Lib.hid (HKM.out.blk HB1.out id)
  have HRB2 := Lib.hid (HRB2.out.keep HKM.out fun _ _ => id)
  have HB2 := Lib.hid (HKM.out.blk HB2.out id)
  obtain ⟨rb_, hrb_⟩ : ∃ x, w9.heap.size = x := ⟨_, rfl⟩
  have hb_ := heap_alloc_new w9 (.cells #[.slice a1 m1 c1, .slice (some ⟨zb, 0, none⟩) 256 256, .slice (some ⟨zb, 0, none⟩) 256 256, .slice (some ⟨zb, 0, none⟩) 256 256] 51)
  have hk : Keep noBlk w9 (w9.alloc (.cells #[.slice a1 m1 c1, .slice (some ⟨zb, 0, none⟩) 256 256, .slice (some ⟨zb, 0, none⟩) 256 256, .slice (some ⟨zb, 0, none⟩) 256 256] 51)) := (Keep.refl _ _).alloc _
  rw [hrb_] at hb_ ⊢
  generalize w9.alloc (.cells #[.slice a1 m1 c1, .slice (some ⟨zb, 0, none⟩) 256 256, .slice (some ⟨zb, 0, none⟩) 256 256, .slice (some ⟨zb, 0, none⟩) 256 256] 51) = wa at *
  have HG := Lib.hid (HG.out.keep hk)
  have HK := Lib.hid (HK.out.trans hk)
  have HRB1 := Lib.hid (HRB1.out.keep hk fun _ _ => id)
  have HB1 := Lib.hid (hk.blk HB1.out id)
  have HRB2 := Lib.hid (HRB2.out.keep hk fun _ _ => id)
  have HB2 := Lib.hid (hk.blk HB2.out id)
  have HZR := Lib.hid (HZR.out.keep hk fun _ _ => id)
  clear hk
  have hr0 : RowsB wa (.slice (some ⟨rb_, 0, none⟩) 4 4) [packU (ofUb 5), z256, z256, z256] := rows4 hb_ (by rw [HM1.out]; exact HRB1.out) HZR.out HZR.out HZR.out
  clear hb_ hrb_
  have HRW_ := Lib.hid (show RowsB wa _ [packU (ofUb 5), z256, z256, z256] from hr0)
  refine (show Calls Tryz.prog 19 #[_, .agg pz.toArray] wa (FoundPost wa ([], 0)) from by rw [← HPZ.out, ← known1]; exact found_any wa aF aR HG.out _ _ HRW_.out zeros32 rfl (by exact lens_rows 5)).mono ?_
  rintro e wb ⟨v_, qs_, rfl, ho, hq, hu, hk⟩
  have HG := Lib.hid (HG.out.keep hk)
  have HK := Lib.hid (HK.out.trans hk)
  have HRB1 := Lib.hid (HRB1.out.keep hk fun _ _ => id)
  have HB1 := Lib.hid (hk.blk HB1.out id)
  have HRB2 := Lib.hid (HRB2.out.keep hk fun _ _ => id)
  have HB2 := Lib.hid (hk.blk HB2.out id)
  have HZR := Lib.hid (HZR.out.keep hk fun _ _ => id)
  have hq2 : qs_.length = 0 := by have h := congrArg List.length hq; simpa using h
  obtain ⟨ax_, cx_, hv_, -, -⟩ := (Rd.of_owns ho).form
  rw [hq2] at hv_ ho
  subst hv_
  clear hk ho hq hu hq2 HRW_
  clear hr0
  go_wp2_with fail
  refine (four_any wb _ _ (packU (ofUb 5)) (packU (ofUb 6)) (by rw [HM1.out]; exact HRB1.out) (by rw [HM2.out]; exact HRB2.out)).mono ?_
  rintro e wc ⟨v4, rfl, hr4, hk⟩
  have HG := Lib.hid (HG.out.keep hk)
  have HK := Lib.hid (HK.out.trans hk)
  have HRB1 := Lib.hid (HRB1.out.keep hk fun _ _ => id)
  have HB1 := Lib.hid (hk.blk HB1.out id)
  have HRB2 := Lib.hid (HRB2.out.keep hk fun _ _ => id)
  have HB2 := Lib.hid (hk.blk HB2.out id)
  have HZR := Lib.hid (HZR.out.keep hk fun _ _ => id)
  clear hk
  obtain ⟨a4, c4, hv_, -⟩ := hr4.form
  subst hv_
  go_wp2_with ((with_reducible show wpList _ _ _ (⟨_, .build 32 #[(0, .const (.int .u8 1))], _, _, _, _⟩ :: _) _ _); refine wpList_build_to rfl 32 #[(0, .const (.int .u8 1))] rfl [(0, .int .u8 1)] rfl (.agg p1.toArray) HBP.out ?_)
  have HRW_ := Lib.hid (show RowsB wc _ [z256, packU (ofUb 5), packU (ofUb 6), z256] from hr4)
  refine (show Calls Tryz.prog 19 #[_, .agg p1.toArray] wc (FoundPost wc ([], 0)) from by rw [← HP1.out, ← known2]; exact found_any wc aF aR HG.out _ _ HRW_.out pool1 rfl (by exact len56)).mono ?_
  rintro e wd ⟨v_, qs_, rfl, ho, hq, hu, hk⟩
  have HG := Lib.hid (HG.out.keep hk)
  have HK := Lib.hid (HK.out.trans hk)
  have HRB1 := Lib.hid (HRB1.out.keep hk fun _ _ => id)
  have HB1 := Lib.hid (hk.blk HB1.out id)
  have HRB2 := Lib.hid (HRB2.out.keep hk fun _ _ => id)
  have HB2 := Lib.hid (hk.blk HB2.out id)
  have HZR := Lib.hid (HZR.out.keep hk fun _ _ => id)
  have hq2 : qs_.length = 0 := by have h := congrArg List.length hq; simpa using h
  obtain ⟨ax_, cx_, hv_, -, -⟩ := (Rd.of_owns ho).form
  rw [hq2] at hv_ ho
  subst hv_
  clear hk ho hq hu hq2 HRW_
  clear hr4
  go_wp2_with fail
  refine (four_any wd _ _ (packU (ofUb 5)) (packU (ofUb 6)) (by rw [HM1.out]; exact HRB1.out) (by rw [HM2.out]; exact HRB2.out)).mono ?_
  rintro e we ⟨v4, rfl, hr4, hk⟩
  have HG := Lib.hid (HG.out.keep hk)
  have HK := Lib.hid (HK.out.trans hk)
  have HRB1 := Lib.hid (HRB1.out.keep hk fun _ _ => id)
  have HB1 := Lib.hid (hk.blk HB1.out id)
  have HRB2 := Lib.hid (HRB2.out.keep hk fun _ _ => id)
  have HB2 := Lib.hid (hk.blk HB2.out id)
  have HZR := Lib.hid (HZR.out.keep hk fun _ _ => id)
  clear hk
  obtain ⟨a4, c4, hv_, -⟩ := hr4.form
  subst hv_
  go_wp2_with fail
  have HU_ := Lib.hid (used_any we _ [z256, packU (ofUb 5), packU (ofUb 6), z256] hr4 len56b)
  refine (show Calls Tryz.prog 21 _ we (fun e w' => e = .returned (.tuple #[.int .i64 2, .int .i64 0]) ∧ Keep noBlk we w') from HU_.out.mono fun e w' h => ⟨h.1.trans (by rw [used1.1, used1.2]), h.2⟩).mono ?_
  rintro e wf ⟨rfl, hk⟩
  have HG := Lib.hid (HG.out.keep hk)
  have HK := Lib.hid (HK.out.trans hk)
  have HRB1 := Lib.hid (HRB1.out.keep hk fun _ _ => id)
  have HB1 := Lib.hid (hk.blk HB1.out id)
  have HRB2 := Lib.hid (HRB2.out.keep hk fun _ _ => id)
  have HB2 := Lib.hid (hk.blk HB2.out id)
  have HZR := Lib.hid (HZR.out.keep hk fun _ _ => id)
  clear hk HU_
  clear hr4
  go_wp2_with fail
  obtain ⟨rb_, hrb_⟩ : ∃ x, wf.heap.size = x := ⟨_, rfl⟩
  have hb_ := heap_alloc_new wf (.cells #[.slice none 0 0, .slice none 0 0, .slice none 0 0, .slice none 0 0] 51)
  have hk : Keep noBlk wf (wf.alloc (.cells #[.slice none 0 0, .slice none 0 0, .slice none 0 0, .slice none 0 0] 51)) := (Keep.refl _ _).alloc _
  rw [hrb_] at hb_ ⊢
  generalize wf.alloc (.cells #[.slice none 0 0, .slice none 0 0, .slice none 0 0, .slice none 0 0] 51) = wg at *
  have HG := Lib.hid (HG.out.keep hk)
  have HK := Lib.hid (HK.out.trans hk)
  have HRB1 := Lib.hid (HRB1.out.keep hk fun _ _ => id)
  have HB1 := Lib.hid (hk.blk HB1.out id)
  have HRB2 := Lib.hid (HRB2.out.keep hk fun _ _ => id)
  have HB2 := Lib.hid (hk.blk HB2.out id)
  have HZR := Lib.hid (HZR.out.keep hk fun _ _ => id)
  have hr0 : RowsB wg (.slice (some ⟨rb_, 0, none⟩) 4 4) [[], [], [], []] := rows4 hb_ (Rd.nil _ _) (Rd.nil _ _) (Rd.nil _ _) (Rd.nil _ _)
  clear hb_ hrb_ hk
  have HU_ := Lib.hid (used_any wg _ [[], [], [], []] hr0 (by decide))
  refine (show Calls Tryz.prog 21 _ wg (fun e w' => e = .returned (.tuple #[.int .i64 0, .int .i64 0]) ∧ Keep noBlk wg w') from HU_.out.mono fun e w' h => ⟨h.1.trans (by rw [used2.1, used2.2]), h.2⟩).mono ?_
  rintro e wh ⟨rfl, hk⟩
  have HG := Lib.hid (HG.out.keep hk)
  have HK := Lib.hid (HK.out.trans hk)
  have HRB1 := Lib.hid (HRB1.out.keep hk fun _ _ => id)
  have HB1 := Lib.hid (hk.blk HB1.out id)
  have HRB2 := Lib.hid (HRB2.out.keep hk fun _ _ => id)
  have HB2 := Lib.hid (hk.blk HB2.out id)
  have HZR := Lib.hid (HZR.out.keep hk fun _ _ => id)
  clear hk HU_
  clear hr0
  go_wp2_with fail
  obtain ⟨rb_, hrb_⟩ : ∃ x, wh.heap.size = x := ⟨_, rfl⟩
  have hb_ := heap_alloc_new wh (.cells #[.slice a1 m1 c1] 51)
  have hk : Keep noBlk wh (wh.alloc (.cells #[.slice a1 m1 c1] 51)) := (Keep.refl _ _).alloc _
  rw [hrb_] at hb_ ⊢
  generalize wh.alloc (.cells #[.slice a1 m1 c1] 51) = wi at *
  have HG := Lib.hid (HG.out.keep hk)
  have HK := Lib.hid (HK.out.trans hk)
  have HRB1 := Lib.hid (HRB1.out.keep hk fun _ _ => id)
  have HB1 := Lib.hid (hk.blk HB1.out id)
  have HRB2 := Lib.hid (HRB2.out.keep hk fun _ _ => id)
  have HB2 := Lib.hid (hk.blk HB2.out id)
  have HZR := Lib.hid (HZR.out.keep hk fun _ _ => id)
  have hr0 : RowsB wi (.slice (some ⟨rb_, 0, none⟩) 1 1) [packU (ofUb 5)] := rows1 hb_ (by rw [HM1.out]; exact HRB1.out)
  clear hb_ hrb_ hk
  have HU_ := Lib.hid (used_any wi _ [packU (ofUb 5)] hr0 len5b)
  refine (show Calls Tryz.prog 21 _ wi (fun e w' => e = .returned (.tuple #[.int .i64 0, .int .i64 2]) ∧ Keep noBlk wi w') from HU_.out.mono fun e w' h => ⟨h.1.trans (by rw [used3.1, used3.2]), h.2⟩).mono ?_
  rintro e wj ⟨rfl, hk⟩
  have HG := Lib.hid (HG.out.keep hk)
  have HK := Lib.hid (HK.out.trans hk)
  have HRB1 := Lib.hid (HRB1.out.keep hk fun _ _ => id)
  have HB1 := Lib.hid (hk.blk HB1.out id)
  have HRB2 := Lib.hid (HRB2.out.keep hk fun _ _ => id)
  have HB2 := Lib.hid (hk.blk HB2.out id)
  have HZR := Lib.hid (HZR.out.keep hk fun _ _ => id)
  clear hk HU_
  clear hr0
  go_wp2_with ((with_reducible show wpList _ _ _ (⟨_, .build 32 #[], _, _, _, _⟩ :: _) _ _); refine wpList_build_to rfl 32 #[] rfl [] rfl (.agg pz.toArray) HBZ.out ?_)
  obtain ⟨rb_, hrb_⟩ : ∃ x, wj.heap.size = x := ⟨_, rfl⟩
  have hb_ := heap_alloc_new wj (.cells #[.slice a1 m1 c1] 51)
  have hk : Keep noBlk wj (wj.alloc (.cells #[.slice a1 m1 c1] 51)) := (Keep.refl _ _).alloc _
  rw [hrb_] at hb_ ⊢
  generalize wj.alloc (.cells #[.slice a1 m1 c1] 51) = wk at *
  have HG := Lib.hid (HG.out.keep hk)
  have HK := Lib.hid (HK.out.trans hk)
  have HRB1 := Lib.hid (HRB1.out.keep hk fun _ _ => id)
  have HB1 := Lib.hid (hk.blk HB1.out id)
  have HRB2 := Lib.hid (HRB2.out.keep hk fun _ _ => id)
  have HB2 := Lib.hid (hk.blk HB2.out id)
  have HZR := Lib.hid (HZR.out.keep hk fun _ _ => id)
  have hr0 : RowsB wk (.slice (some ⟨rb_, 0, none⟩) 1 1) [packU (ofUb 5)] := rows1 hb_ (by rw [HM1.out]; exact HRB1.out)
  clear hb_ hrb_ hk
  have HRW_ := Lib.hid (show RowsB wk _ [packU (ofUb 5)] from hr0)
  refine (show Calls Tryz.prog 19 #[_, .agg pz.toArray] wk (FoundPost wk ([], 2)) from by rw [← HPZ.out, ← known3]; exact found_any wk aF aR HG.out _ _ HRW_.out zeros32 rfl (by exact len5c)).mono ?_
  rintro e wl ⟨v_, qs_, rfl, ho, hq, hu, hk⟩
  have HG := Lib.hid (HG.out.keep hk)
  have HK := Lib.hid (HK.out.trans hk)
  have HRB1 := Lib.hid (HRB1.out.keep hk fun _ _ => id)
  have HB1 := Lib.hid (hk.blk HB1.out id)
  have HRB2 := Lib.hid (HRB2.out.keep hk fun _ _ => id)
  have HB2 := Lib.hid (hk.blk HB2.out id)
  have HZR := Lib.hid (HZR.out.keep hk fun _ _ => id)
  have hq2 : qs_.length = 0 := by have h := congrArg List.length hq; simpa using h
  obtain ⟨ax_, cx_, hv_, -, -⟩ := (Rd.of_owns ho).form
  rw [hq2] at hv_ ho
  subst hv_
  clear hk ho hq hu hq2 HRW_
  clear hr0
  go_wp2_with fail
  refine (awakeR_any wl aF aR HG.out).mono ?_
  rintro e wm ⟨rfl, hk⟩
  have HG := Lib.hid (HG.out.keep hk)
  have HK := Lib.hid (HK.out.trans hk)
  have HRB1 := Lib.hid (HRB1.out.keep hk fun _ _ => id)
  have HB1 := Lib.hid (hk.blk HB1.out id)
  have HRB2 := Lib.hid (HRB2.out.keep hk fun _ _ => id)
  have HB2 := Lib.hid (hk.blk HB2.out id)
  have HZR := Lib.hid (HZR.out.keep hk fun _ _ => id)
  clear hk
  go_wp2_with fail
  go_ret
  exact ⟨rfl, HK.out⟩

end Go.Proofs.YtaiicjhnhbkgmaaGreatDoor
