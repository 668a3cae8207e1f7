/-
  LabelTurned: a label's sector of which bits are turned is no label, but where the digest is the same.
  Conditions: none but those of the given statement.
-/
import Derived.Test.YtdlegbcdmlmbpaaAwake
import Derived.Test.YtdlegbcdmlmbpaaPlain5
import Derived.Test.YtdlegbcdmlmbpaaLPacks
import Derived.Test.YtdlegbcdmlmbpaaRsum
namespace Go.Proofs.Ytdlegbcdmlmbpaa
open Go.RowKit
set_option maxRecDepth 100000

theorem xor_any (a m : UInt8) : Value.int .u8 (bits .xor .u8 (a.toNat : Int) (m.toNat : Int)) = vb (a ^^^ m) := by
  rw [u8_xor_nat a.toNat m.toNat a.toNat_lt m.toNat_lt]
  unfold vb
  rw [UInt8.toNat_xor]
theorem may_er (b : Bool) : (if b then (0 : Int) else 2) = 0 ∧ b = true ∨ (if b then (0 : Int) else 2) = 2 ∧ b = false := by cases b <;> simp

set_option maxHeartbeats 4000000 in
theorem labelTurned_let (L : Lab) (hL : L.pool.length = 32) (at' : Int) (m : UInt8) (w : World) (hc : L.may = false ∨ m = 0) :
    Calls Try.prog 5 #[.agg L.cells.toArray, .int .i64 at', vb m] w (TherePost w true) := by
  obtain ⟨lc, hlc⟩ : ∃ lc, L.cells = lc := ⟨_, rfl⟩
  have hlcl : lc.length = 37 := by rw [← hlc]; exact L.cells_length hL
  have CP := fun w => pack_fit L hL w
  rw [hlc] at CP ⊢
  obtain ⟨x, hx⟩ : ∃ x : Int, (m.toNat : Int) = x := ⟨_, rfl⟩
  have hvm : vb m = .int .u8 x := by rw [← hx]; rfl
  rw [hvm]
  have hxm : m = 0 → x = 0 := by rintro rfl; rw [← hx]; rfl
  have HLC := Lib.hid hlc; have HCP := Lib.hid CP; have HX := Lib.hid hx
  clear hlc CP hx hvm
  go_enter Try.func5, Try.ntmps5
  go_wp2_with fail
  obtain ⟨w1, hw1⟩ : ∃ w1, w.alloc (.cells lc.toArray 25) = w1 := ⟨_, rfl⟩
  have hb1 : w1.heap[w.heap.size]? = some (.cells lc.toArray 25 (0, 0)) := by rw [← hw1]; exact heap_alloc_new _ _
  have hk1 : Keep noBlk w w1 := by rw [← hw1]; exact (Keep.refl _ _).alloc _
  rw [hw1]
  obtain ⟨b1, hb⟩ : ∃ b1, w.heap.size = b1 := ⟨_, rfl⟩
  rw [hb] at hb1 ⊢
  have HB1 := Lib.hid hb1; have HK1 := Lib.hid hk1
  clear hb hb1 hk1 hw1
  refine (awake_any w1).mono ?_
  rintro e w2 ⟨rfl, hk2⟩
  have HB2 := Lib.hid (hk2.blk HB1.out id); have HK2 := Lib.hid (HK1.out.trans hk2)
  clear hk2
  go_wp2_with (first
    | ((with_reducible show wpList _ _ _ (⟨some 15, .load 25 (.tmp 3), _, _, _, _⟩ :: _) _ _); refine wpList_load_mid rfl 25 (.tmp 3) rfl b1 0 rfl lc _ (rangeAt_whole HB2.out) Try.underlying25 rfl (by rw [hlcl]; exact sizeLab) ?_))
  refine (HCP.out w2).mono ?_
  rintro e w3 ⟨v3, rfl, hown3, hk3, hf3⟩
  have HK3 := Lib.hid (HK2.out.trans hk3)
  clear hk3 hown3 hf3
  rcases may_er L.may with ⟨h1, h2⟩ | ⟨h1, h2⟩
  · rw [h1]
    obtain rfl : x = 0 := hxm (by exact hc.resolve_left (by rw [h2]; simp))
    clear h1 h2 hc hxm
    go_wp2_with fail
    go_ret
    exact ⟨rfl, HK3.out⟩
  · rw [h1]
    clear h1 h2 hc hxm
    go_wp2_with fail
    go_ret
    exact ⟨rfl, HK3.out⟩

set_option maxHeartbeats 8000000 in
theorem labelTurned_main (L : Lab) (hL : L.pool.length = 32) (hm : L.may = true) (at' : Int) (ha : -9223372036854775808 ≤ at') (ha' : at' ≤ 9223372036854775807) (m : UInt8) (hm0 : m ≠ 0) (w : World) :
    Calls Try.prog 5 #[.agg L.cells.toArray, .int .i64 at', vb m] w (TherePost w true) := by
  obtain ⟨lc, hlc⟩ : ∃ lc, L.cells = lc := ⟨_, rfl⟩
  have hlcl : lc.length = 37 := by rw [← hlc]; exact L.cells_length hL
  have CP := fun w => pack_fit L hL w
  rw [hlc] at CP ⊢
  obtain ⟨x, hx⟩ : ∃ x : Int, (m.toNat : Int) = x := ⟨_, rfl⟩
  have hvm : vb m = .int .u8 x := by rw [← hx]; rfl
  rw [hvm]
  have hx0 : (x == 0) = false := by
    have : m.toNat ≠ 0 := fun h => hm0 (UInt8.toNat_inj.1 (by rw [h]; rfl))
    rw [← hx]; simp; omega
  have HLC := Lib.hid hlc; have HCP := Lib.hid CP; have HX := Lib.hid hx
  clear hlc CP hx hvm
  go_enter Try.func5, Try.ntmps5
  go_wp2_with fail
  obtain ⟨w1, hw1⟩ : ∃ w1, w.alloc (.cells lc.toArray 25) = w1 := ⟨_, rfl⟩
  have hb1 : w1.heap[w.heap.size]? = some (.cells lc.toArray 25 (0, 0)) := by rw [← hw1]; exact heap_alloc_new _ _
  have hk1 : Keep noBlk w w1 := by rw [← hw1]; exact (Keep.refl _ _).alloc _
  rw [hw1]
  obtain ⟨b1, hb⟩ : ∃ b1, w.heap.size = b1 := ⟨_, rfl⟩
  rw [hb] at hb1 ⊢
  have HB1 := Lib.hid hb1; have HK1 := Lib.hid hk1
  clear hb hb1 hk1 hw1
  refine (awake_any w1).mono ?_
  rintro e w2 ⟨rfl, hk2⟩
  have HB2 := Lib.hid (hk2.blk HB1.out id); have HK2 := Lib.hid (HK1.out.trans hk2)
  clear hk2
  go_wp2_with (first
    | ((with_reducible show wpList _ _ _ (⟨some 15, .load 25 (.tmp 3), _, _, _, _⟩ :: _) _ _); refine wpList_load_mid rfl 25 (.tmp 3) rfl b1 0 rfl lc _ (rangeAt_whole HB2.out) Try.underlying25 rfl (by rw [hlcl]; exact sizeLab) ?_))
  refine (HCP.out w2).mono ?_
  rintro e w3 ⟨v3, rfl, hown3, hk3, hf3⟩
  rw [hm]
  obtain ⟨k, hk⟩ := hf3.bytes hown3
  have HK3 := Lib.hid (HK2.out.trans hk3); have HPL := Lib.hid (packB_len L hL hm)
  have HR3 := Lib.hid (Rd.of_owns hown3)
  obtain ⟨g, c, hv, hc, hcm, hg0⟩ : ∃ g c, v3 = .slice (some ⟨g, 0, none⟩) 256 c ∧ 256 ≤ c ∧ c ≤ maxLen ∧ w2.heap.size ≤ g := by
    rcases hown3.2 with ⟨-, h0⟩ | ⟨g, cap, cur, h1, h5, _, h2, h3, _⟩
    · rw [HPL.out] at h0; omega
    · rw [HPL.out] at h1 h2; exact ⟨g, cap, h1, h2, h3, h5⟩
  obtain ⟨hblk, hkl, hkt⟩ := hk g c (by rw [HPL.out]; exact hv)
  rw [HPL.out] at hkt
  have hkt : k.take 256 = packB L := vb_inj hkt
  subst hv
  have HBLK := Lib.hid hblk; have HKL := Lib.hid hkl; have HKT := Lib.hid hkt; have HG0 := Lib.hid hg0
  have hcm' : c ≤ 9223372036854775807 := by unfold maxLen at hcm; exact hcm
  have HCM := Lib.hid hcm
  clear hk3 hown3 hf3 hk hblk hkl hkt hg0 hcm
  go_wp2_with fail
  refine (pick_any w3 at' 256 (by omega) (by omega) ha ha').mono ?_
  rintro e w4 ⟨rfl, rfl⟩
  obtain ⟨i, hi, hi256⟩ : ∃ i : Nat, at' % 256 = (i : Int) ∧ i < 256 := ⟨(at' % 256).toNat, by omega, by omega⟩
  rw [hi]
  clear hi ha ha'
  go_wp2_with fail
  have r1 := rd_take HR3.out rfl 0 224 c (by rw [HPL.out]; omega) (by omega) HCM.out
  obtain ⟨q, hq⟩ : ∃ q, (packB L).take 224 = q := ⟨_, rfl⟩
  have hql : q.length = 224 := by rw [← hq, List.length_take, HPL.out]; rfl
  rw [List.drop_zero, hq, hql] at r1
  refine (rsum_any _ q w3 (by rw [hql]; exact r1) (by rw [hql]; omega)).mono ?_
  rintro e w4 ⟨rfl, hk4⟩
  obtain ⟨d, hd⟩ : ∃ d, digest q = d := ⟨_, rfl⟩
  have hdl : d.length = 32 := by rw [← hd]; exact digest_length q
  rw [hd]
  have HD := Lib.hid hd; have HQ := Lib.hid hq
  obtain ⟨ki, hki⟩ : ∃ ki, k[i]? = some ki := ⟨k[i]'(by rw [HKL.out]; omega), List.getElem?_eq_getElem _⟩
  have hxy := xor_any ki m
  rw [HX.out] at hxy
  obtain ⟨y, hy⟩ : ∃ y : Int, (ki.toNat : Int) = y := ⟨_, rfl⟩
  have hvy : vb ki = .int .u8 y := by rw [← hy]; rfl
  rw [hy] at hxy
  have HKI := Lib.hid hki; have HXY := Lib.hid hxy; have HVY := Lib.hid hvy
  have hi0 : (0 : Int) ≤ (i : Int) := by omega
  have hi1 : (i : Int) < 256 := by omega
  have HK4 := Lib.hid (HK3.out.trans hk4); have HB4 := Lib.hid (hk4.blk HBLK.out id); have hs4 := hk4.size
  have hg4 : g < w4.heap.size := by have := lt_of_block HBLK.out; omega
  have HG4 := Lib.hid hg4
  clear hd hq r1 hk4 HR3 HBLK hg4 hql hs4 hki hxy hy hvy
  go_wp2_with (first
    | (refine wpList_alloc_at rfl 23 rfl zero32 zeroID (Array.replicate 32 (.int .u8 0)) rfl ?_)
    | ((with_reducible show wpList _ _ _ (⟨none, .store 23 (.tmp 10) (.tmp 33), _, _, _, _⟩ :: _) _ _); refine wpList_store_agg rfl 23 (.tmp 10) (.tmp 33) rfl w4.heap.size 0 (d.map vb) rfl rfl (Array.replicate 32 (.int .u8 0)) _ (heap_alloc_new _ _) (by rw [List.length_map, hdl]; simp) (by rw [List.length_map, hdl]; exact sizeID) (oneCell_vb _) ?_; intro w5 hb5 hk5
       have hk45 : Keep noBlk w4 w5 := ((Keep.refl noBlk w4).alloc _).trans' hk5 (fun _ _ h => h) (fun i hi e => by omega)
       rw [spl_whole _ _ (by rw [List.length_map, hdl]; simp)] at hb5
       have hgk := hk45.blk HB4.out id
       have hcell : w5.cell? ⟨g, i, none⟩ = some (.int .u8 y) := blk_cell hgk (by rw [List.getElem?_toArray, List.getElem?_map, HKI.out, Option.map_some, HVY.out])
       have hfz := blk_free hgk i
       have HD5 := Lib.hid hb5; have HKB := Lib.hid (HK4.out.trans hk45); have HGK := Lib.hid hgk
       clear hb5 hk5 hk45 hgk))
  obtain ⟨W, hW⟩ : ∃ W, w5.setCell ⟨g, i, none⟩ (.int .u8 (bits .xor .u8 y x)) = W := ⟨_, rfl⟩
  rw [hW]
  have HS : W.heap[g]? = some (.cells ((k.set i (ki ^^^ m)).map vb).toArray 5 (0, 0)) := by
    rw [← hW, HXY.out, set_blk HGK.out i (vb (ki ^^^ m)), List.setIfInBounds_toArray, List.map_set]
  have hkW : Keep (fun k => k = g) w5 W := by rw [← hW]; exact (Keep.refl (fun k => k = g) w5).setCell (fun _ => rfl) _
  have hg4' := HG4.out
  have HKW := Lib.hid (show Keep noBlk w W from HKB.out.trans' hkW (fun _ _ h => h) (fun i hi e => by have := HK2.out.size; have := HG0.out; omega))
  have HDW := Lib.hid (hkW.blk HD5.out (by omega))
  have HTT : turnB (packB L) i m = (k.set i (ki ^^^ m)).take 256 := by
    unfold turnB
    rw [← HKT.out, List.take_set, List.getD_eq_getElem?_getD, List.getElem?_take, if_pos hi256, HKI.out, Option.getD_some]
  have HRW := Lib.hid (show Rd W 1 (.slice (some ⟨g, 0, none⟩) 256 c) (turnB (packB L) i m).length ((turnB (packB L) i m).map vb) by
    rw [HTT]; exact rd_of_blk HS (by rw [List.length_set, HKL.out]; exact hc) hc HCM.out)
  have HTL := Lib.hid (show (turnB (packB L) i m).length = 256 by rw [turnB_length, HPL.out])
  obtain ⟨zc, hzc, hzl, hzo⟩ : ∃ zc, zeroLab.cells = zc ∧ zc.length = 37 ∧ ∀ u ∈ zc, u.oneCell' = true := ⟨_, rfl, rfl, oneCell_lab _⟩
  have hzv : ∀ w, (zeroValue 25).run Try.prog w = .ok (.agg zc.toArray) w := by rw [← hzc]; exact zeroValLab
  have hbd : ∀ w, (Instr.build 25 #[]).run Try.prog w = .ok (.agg zc.toArray) w := by rw [← hzc]; exact buildLab
  have heq := eqLab zeroLab zeroLab (by decide) (by decide)
  rw [hzc] at heq
  simp only [decide_true, Bool.and_true] at heq
  have HZC := Lib.hid hzc
  clear hcell hfz hW HS hkW hg4' HTT HXY HVY hzc HKI HGK HB4 HD5 hkt
  rcases Nat.lt_or_ge i 224 with hlt | hge
  · have hlt' : decide ((i : Int) < 224) = true := decide_eq_true (by omega)
    obtain ⟨S, hS0⟩ : ∃ S : World → Prop, S = fun w' => Keep noBlk W w' := ⟨_, rfl⟩
    have hSe : ∀ w', S w' → Keep noBlk W w' := fun w' h => by rw [hS0] at h; exact h
    have hSk : ∀ w' w'', S w' → Keep noBlk w' w'' → S w'' := fun w' w'' h k => by rw [hS0] at h ⊢; exact h.trans k
    have hS : S W.drew := by rw [hS0]; exact (Keep.refl _ _).drew
    have hSr : ∀ w', S w' → w'.rangeAt w4.heap.size 0 (d.map vb) := fun w' h => rangeAt_whole ((hSe w' h).blk HDW.out id)
    clear hS0
    refine wp_region_held (S := S) (by kernel_rfl) ?_
    change wpAnyH _ _ _ _ _ _ _ _ W.drew
    refine wpAnyH_take (i := 0) (v := .int .i64 i) rfl (by kernel_rfl) (by kernel_rfl) (by kernel_rfl) (fun _ _ _ h => h) (.inl ⟨by rfl, fun _ _ => rfl⟩) hS ?_
    simp only [Act.put, List.setIfInBounds_toArray, List.set_cons_zero, List.set_cons_succ, List.getElem_toArray, List.getElem_cons_zero]
    refine wpAnyH_take (i := 1) (v := .bool true) rfl (by kernel_rfl) (by kernel_rfl) (by kernel_rfl) (fun _ _ _ h => h) (.inl ⟨by rfl, fun _ _ => ?_⟩) hS ?_
    · go_simp
    simp only [Act.put, List.setIfInBounds_toArray, List.set_cons_zero, List.set_cons_succ, List.getElem_toArray, List.getElem_cons_succ, List.getElem_cons_zero]
    refine wpAnyH_take (i := 2) (v := .bool true) rfl (by kernel_rfl) (by kernel_rfl) (by kernel_rfl) (fun _ _ _ h => h) (.inl ⟨by rfl, fun _ _ => rfl⟩) hS ?_
    simp only [Act.put, List.setIfInBounds_toArray, List.set_cons_zero, List.set_cons_succ, List.getElem_toArray, List.getElem_cons_succ, List.getElem_cons_zero]
    refine wpAnyH_take (i := 3) (v := .slice (some ⟨g, 0, none⟩) 256 c) rfl (by kernel_rfl) (by kernel_rfl) (by kernel_rfl) (fun _ _ _ h => h) (.inl ⟨by rfl, fun _ _ => rfl⟩) hS ?_
    simp only [Act.put, List.setIfInBounds_toArray, List.set_cons_zero, List.set_cons_succ, List.getElem_toArray, List.getElem_cons_succ, List.getElem_cons_zero]
    refine wpAnyH_take (i := 4) (v := .slice (some ⟨g, 0, none⟩) 224 c) rfl (by kernel_rfl) (by kernel_rfl) (by kernel_rfl) (fun _ _ _ h => h) (.inl ⟨by rfl, fun _ _ => ?_⟩) hS ?_
    · go_simp
      exact fun h => by omega
    simp only [Act.put, List.setIfInBounds_toArray, List.set_cons_zero, List.set_cons_succ, List.getElem_toArray, List.getElem_cons_succ, List.getElem_cons_zero]
    refine wpAnyH_take (i := 6) (v := .agg (d.map vb).toArray) rfl (by kernel_rfl) (by kernel_rfl) (by kernel_rfl) (fun _ _ _ h => h) (yieldsIf_load_mid (by rfl) 23 (.tmp 10) rfl w4.heap.size 0 rfl (d.map vb) _ hSr Try.underlying23 rfl (by rw [List.length_map, hdl]; exact sizeID)) hS ?_
    simp only [Act.put, List.setIfInBounds_toArray, List.set_cons_zero, List.set_cons_succ, List.getElem_toArray, List.getElem_cons_succ, List.getElem_cons_zero]
    refine wpAnyH_one (k := 5) rfl (by kernel_rfl) ?_
    go_wp2_with fail
    have r2 := rd_take (HRW.out.keep (hSe _ hS) fun _ _ => id) rfl 0 224 c (by rw [HTL.out]; omega) (by omega) HCM.out
    obtain ⟨q2, hq2⟩ : ∃ q2, (turnB (packB L) i m).take 224 = q2 := ⟨_, rfl⟩
    have hql2 : q2.length = 224 := by rw [← hq2, List.length_take, HTL.out]; rfl
    rw [List.drop_zero, hq2, hql2] at r2
    refine (rsum_any _ q2 _ (by rw [hql2]; exact r2) (by rw [hql2]; omega)).mono ?_
    rintro e w6 ⟨rfl, hk6⟩
    obtain ⟨d2, hd2⟩ : ∃ d2, digest q2 = d2 := ⟨_, rfl⟩
    have hdl2 : d2.length = 32 := by rw [← hd2]; exact digest_length q2
    rw [hd2]
    have hS6 := hSk _ w6 hS hk6
    have HD2 := Lib.hid hd2; have HQ2 := Lib.hid hq2
    clear hk6 hd2 hq2 r2 hql2
    go_wp2_with fail
    refine ⟨hS6, ?_⟩
    have heq2 := eqID d2 d hdl2 hdl
    obtain ⟨bb, hbb⟩ : ∃ bb, decide (d2 = d) = bb := ⟨_, rfl⟩
    rw [hbb] at heq2
    refine wpAnyH_take (i := 7) (v := .bool bb) rfl (by kernel_rfl) (by kernel_rfl) (by kernel_rfl) (fun _ _ _ h => h) (.inl ⟨by rfl, fun _ _ => ?_⟩) hS6 ?_
    · go_simp
    simp only [Act.put, List.setIfInBounds_toArray, List.set_cons_zero, List.set_cons_succ, List.getElem_toArray, List.getElem_cons_succ, List.getElem_cons_zero]
    clear heq2
    refine wpAnyH_take (i := 8) (v := .bool bb) rfl (by kernel_rfl) (by kernel_rfl) (by kernel_rfl) (fun _ _ _ h => h) (.inl ⟨by rfl, fun _ _ => rfl⟩) hS6 ?_
    simp only [Act.put, List.setIfInBounds_toArray, List.set_cons_zero, List.set_cons_succ, List.getElem_toArray, List.getElem_cons_succ, List.getElem_cons_zero]
    refine wpAnyH_done (by kernel_rfl) ?_ _
    have hk6 := hSe _ hS6
    have HRW6 := Lib.hid (HRW.out.keep hk6 fun _ _ => id); have HKW6 := Lib.hid (HKW.out.trans hk6)
    clear hS hS6 hSe hSk hSr hk6
    cases bb with
    | true =>
      clear hbb
      go_wp2_with fail
      go_ret
      exact ⟨rfl, HKW6.out⟩
    | false =>
      have hne : d2 ≠ d := of_decide_eq_false hbb
      have hU : unpackR (turnB (packB L) i m) = (zeroLab, 11) := turned_bad L hL hm i hi256 m hm0 (fun _ => by rw [HQ2.out, HQ.out, HD2.out, HD.out]; exact hne)
      clear hbb hne
      go_wp2_with fail
      have CU := unpack_any w6 _ (turnB (packB L) i m) HRW6.out (by rw [HTL.out]; omega)
      rw [hU] at CU
      refine CU.mono ?_
      clear CU
      rintro e w8 ⟨rfl, hk8⟩
      rw [show (zeroLab, (11 : Int)).1.cells = zc from HZC.out]
      have HK8 := Lib.hid ((HKW6.out).trans hk8); clear hk8 hU
      go_wp2_with (first
        | (refine wpList_alloc_at rfl 25 rfl _ hzv zc.toArray rfl ?_)
        | ((with_reducible show wpList _ _ _ (⟨none, .store 25 (.tmp 11) (.tmp 56), _, _, _, _⟩ :: _) _ _); refine wpList_store_agg rfl 25 (.tmp 11) (.tmp 56) rfl w8.heap.size 0 zc rfl rfl zc.toArray _ (heap_alloc_new _ _) (by rw [hzl, List.size_toArray, hzl]; exact Nat.le_refl _) (by rw [hzl]; exact sizeLab) hzo ?_; intro w9 hb9 hk9
           have hk89 : Keep noBlk w8 w9 := ((Keep.refl noBlk w8).alloc _).trans' hk9 (fun _ _ h => h) (fun i hi e => by omega)
           rw [spl_whole _ _ (by rw [hzl, List.size_toArray, hzl])] at hb9
           have HL9 := Lib.hid hb9; have HK9 := Lib.hid (HK8.out.trans hk89)
           clear hb9 hk9 hk89)
        | (refine wpList_load_g (by rfl) 25 (.tmp 11) rfl w8.heap.size 0 rfl zc _ (rangeAt_whole HL9.out) Try.underlying25 rfl (by rw [hzl]; exact sizeLab) ?_))
      go_ret
      exact ⟨rfl, HK9.out⟩
  · have hlt' : decide ((i : Int) < 224) = false := decide_eq_false (by omega)
    have hU : unpackR (turnB (packB L) i m) = (zeroLab, 11) := turned_bad L hL hm i hi256 m hm0 (fun h => by omega)
    obtain ⟨S, hS0⟩ : ∃ S : World → Prop, S = fun w' => Keep noBlk W w' := ⟨_, rfl⟩
    have hSe : ∀ w', S w' → Keep noBlk W w' := fun w' h => by rw [hS0] at h; exact h
    have hSk : ∀ w' w'', S w' → Keep noBlk w' w'' → S w'' := fun w' w'' h k => by rw [hS0] at h ⊢; exact h.trans k
    have hS : S W.drew := by rw [hS0]; exact (Keep.refl _ _).drew
    have hSr : ∀ w', S w' → w'.rangeAt w4.heap.size 0 (d.map vb) := fun w' h => rangeAt_whole ((hSe w' h).blk HDW.out id)
    clear hS0
    refine wp_region_held (S := S) (by kernel_rfl) ?_
    change wpAnyH _ _ _ _ _ _ _ _ W.drew
    refine wpAnyH_take (i := 0) (v := .int .i64 i) rfl (by kernel_rfl) (by kernel_rfl) (by kernel_rfl) (fun _ _ _ h => h) (.inl ⟨by rfl, fun _ _ => rfl⟩) hS ?_
    simp only [Act.put, List.setIfInBounds_toArray, List.set_cons_zero, List.set_cons_succ, List.getElem_toArray, List.getElem_cons_zero]
    refine wpAnyH_take (i := 1) (v := .bool false) rfl (by kernel_rfl) (by kernel_rfl) (by kernel_rfl) (fun _ _ _ h => h) (.inl ⟨by rfl, fun _ _ => ?_⟩) hS ?_
    · go_simp
    simp only [Act.put, List.setIfInBounds_toArray, List.set_cons_zero, List.set_cons_succ, List.getElem_toArray, List.getElem_cons_succ, List.getElem_cons_zero]
    refine wpAnyH_take (i := 2) (v := .bool false) rfl (by kernel_rfl) (by kernel_rfl) (by kernel_rfl) (fun _ _ _ h => h) (.inl ⟨by rfl, fun _ _ => rfl⟩) hS ?_
    simp only [Act.put, List.setIfInBounds_toArray, List.set_cons_zero, List.set_cons_succ, List.getElem_toArray, List.getElem_cons_succ, List.getElem_cons_zero]
    refine wpAnyH_take (i := 3) (v := undef) rfl (by kernel_rfl) (by kernel_rfl) (by kernel_rfl) (fun _ _ _ h => h) (.inr ⟨by rfl, rfl⟩) hS ?_
    simp only [Act.put, List.setIfInBounds_toArray, List.set_cons_zero, List.set_cons_succ, List.getElem_toArray, List.getElem_cons_succ, List.getElem_cons_zero]
    refine wpAnyH_take (i := 4) (v := undef) rfl (by kernel_rfl) (by kernel_rfl) (by kernel_rfl) (fun _ _ _ h => h) (.inr ⟨by rfl, rfl⟩) hS ?_
    simp only [Act.put, List.setIfInBounds_toArray, List.set_cons_zero, List.set_cons_succ, List.getElem_toArray, List.getElem_cons_succ, List.getElem_cons_zero]
    refine wpAnyH_take (i := 5) (v := undef) rfl (by kernel_rfl) (by kernel_rfl) (by kernel_rfl) (fun _ _ _ h => h) (.inr ⟨by rfl, rfl⟩) hS ?_
    simp only [Act.put, List.setIfInBounds_toArray, List.set_cons_zero, List.set_cons_succ, List.getElem_toArray, List.getElem_cons_succ, List.getElem_cons_zero]
    refine wpAnyH_take (i := 6) (v := undef) rfl (by kernel_rfl) (by kernel_rfl) (by kernel_rfl) (fun _ _ _ h => h) (.inr ⟨by rfl, rfl⟩) hS ?_
    simp only [Act.put, List.setIfInBounds_toArray, List.set_cons_zero, List.set_cons_succ, List.getElem_toArray, List.getElem_cons_succ, List.getElem_cons_zero]
    refine wpAnyH_take (i := 7) (v := undef) rfl (by kernel_rfl) (by kernel_rfl) (by kernel_rfl) (fun _ _ _ h => h) (.inr ⟨by rfl, rfl⟩) hS ?_
    simp only [Act.put, List.setIfInBounds_toArray, List.set_cons_zero, List.set_cons_succ, List.getElem_toArray, List.getElem_cons_succ, List.getElem_cons_zero]
    refine wpAnyH_take (i := 8) (v := .bool false) rfl (by kernel_rfl) (by kernel_rfl) (by kernel_rfl) (fun _ _ _ h => h) (.inl ⟨by rfl, fun _ _ => rfl⟩) hS ?_
    simp only [Act.put, List.setIfInBounds_toArray, List.set_cons_zero, List.set_cons_succ, List.getElem_toArray, List.getElem_cons_succ, List.getElem_cons_zero]
    refine wpAnyH_done (by kernel_rfl) ?_ _
    have hk6 := hSe _ hS
    have HRW6 := Lib.hid (HRW.out.keep hk6 fun _ _ => id); have HKW6 := Lib.hid (HKW.out.trans hk6)
    clear hS hSe hSk hSr hk6
    go_wp2_with fail
    have CU := unpack_any W.drew _ (turnB (packB L) i m) HRW6.out (by rw [HTL.out]; omega)
    rw [hU] at CU
    refine CU.mono ?_
    clear CU
    rintro e w8 ⟨rfl, hk8⟩
    rw [show (zeroLab, (11 : Int)).1.cells = zc from HZC.out]
    have HK8 := Lib.hid ((HKW6.out).trans hk8); clear hk8 hU
    go_wp2_with (first
      | (refine wpList_alloc_at rfl 25 rfl _ hzv zc.toArray rfl ?_)
      | ((with_reducible show wpList _ _ _ (⟨none, .store 25 (.tmp 11) (.tmp 56), _, _, _, _⟩ :: _) _ _); refine wpList_store_agg rfl 25 (.tmp 11) (.tmp 56) rfl w8.heap.size 0 zc rfl rfl zc.toArray _ (heap_alloc_new _ _) (by rw [hzl, List.size_toArray, hzl]; exact Nat.le_refl _) (by rw [hzl]; exact sizeLab) hzo ?_; intro w9 hb9 hk9
         have hk89 : Keep noBlk w8 w9 := ((Keep.refl noBlk w8).alloc _).trans' hk9 (fun _ _ h => h) (fun i hi e => by omega)
         rw [spl_whole _ _ (by rw [hzl, List.size_toArray, hzl])] at hb9
         have HL9 := Lib.hid hb9; have HK9 := Lib.hid (HK8.out.trans hk89)
         clear hb9 hk9 hk89)
      | (refine wpList_load_g (by rfl) 25 (.tmp 11) rfl w8.heap.size 0 rfl zc _ (rangeAt_whole HL9.out) Try.underlying25 rfl (by rw [hzl]; exact sizeLab) ?_))
    go_ret
    exact ⟨rfl, HK9.out⟩
theorem labelTurned_walk (L : Lab) (hL : L.pool.length = 32) (at' : Int) (ha : -9223372036854775808 ≤ at') (ha' : at' ≤ 9223372036854775807) (m : UInt8) (w : World) :
    Calls Try.prog 5 #[.agg L.cells.toArray, .int .i64 at', vb m] w (TherePost w true) := by
  by_cases hm : L.may = true
  · by_cases h0 : m = 0
    · exact labelTurned_let L hL at' m w (.inr h0)
    · exact labelTurned_main L hL hm at' ha ha' m h0 w
  · exact labelTurned_let L hL at' m w (.inl (by simpa using hm))
end Go.Proofs.Ytdlegbcdmlmbpaa
