/-
  LabelBack: a label's sector is read as it, and what is read of a sector is told as that sector.
  Conditions: none but those of the given statement.
-/
import Derived.Test.YtdlegbcdmlmbpaaLKnown
import Derived.Test.YtdlegbcdmlmbpaaPlain5
namespace Go.Proofs.Ytdlegbcdmlmbpaa
open Go.RowKit
set_option maxRecDepth 100000
set_option linter.unusedVariables false


set_option maxHeartbeats 4000000 in
theorem labelBack_may_long (L : Lab) (hL : L.pool.length = 32) (hm : L.may = true) (bv : Value) (b : List UInt8) (hl : 1000 < b.length) (w : World) (hr : Rd w 1 bv b.length (b.map vb)) :
    Calls Try.prog 8 #[.agg L.cells.toArray, bv] w (TherePost w true) := by
  obtain ⟨a, c, rfl, -, -⟩ := hr.form
  obtain ⟨lc, hlc⟩ : ∃ lc, L.cells = lc := ⟨_, rfl⟩
  have hlcl : lc.length = 37 := by rw [← hlc]; exact L.cells_length hL
  have hlco : ∀ u ∈ lc, u.oneCell' = true := by rw [← hlc]; exact oneCell_lab L
  obtain ⟨zc, hzc, hzl, hzo⟩ : ∃ zc, zeroLab.cells = zc ∧ zc.length = 37 ∧ ∀ u ∈ zc, u.oneCell' = true := ⟨_, rfl, rfl, oneCell_lab _⟩
  have hzv : ∀ w, (zeroValue 25).run Try.prog w = .ok (.agg zc.toArray) w := by rw [← hzc]; exact zeroValLab
  have hbd : ∀ w, (Instr.build 25 #[]).run Try.prog w = .ok (.agg zc.toArray) w := by rw [← hzc]; exact buildLab
  have HEZ := Lib.hid (eqSame zeroLab (by decide) hzc)
  have HNL := Lib.hid fun w => neq_of_eql (eqSame L hL hlc w)
  have CK := Lib.hid (check_keep L hL hlc (n := 0) (by rw [hm]; rfl))
  have CP := fun w => pack_any L hL w
  unfold PackPost at CP
  rw [hm, hlc] at CP
  have HCP := Lib.hid CP
  have HR := Lib.hid hr
  have HLC := Lib.hid hlc; have HLL := Lib.hid hlcl; have HLO := Lib.hid hlco; have HZC := Lib.hid hzc; have HZL := Lib.hid hzl; have HZO := Lib.hid hzo; have HZV := Lib.hid hzv; have HBD := Lib.hid hbd
  rw [hlc]
  have HPL := Lib.hid (packB_len L hL hm)
  have HUP := Lib.hid (unpackR_pack L hL hm)
  have ht : decide ((1000 : Int) < (b.length : Int)) = true := decide_eq_true (by omega)
  have hnb : ∃ n, b.length = n := ⟨_, rfl⟩
  obtain ⟨n, hn⟩ := hnb
  have HN := Lib.hid hn
  rw [hn] at ht hl HR ⊢

  clear hr hlc hlcl hlco hzc hzl hzo hzv hbd CP hn hL hm
  obtain ⟨w0, hw0, hk0, hb0, hs0⟩ := alloc_facts w lc.toArray 25
  have HK0 := Lib.hid hk0; have HB0 := Lib.hid hb0
  clear hk0 hb0
  go_enter Try.func8, Try.ntmps8
  go_wp2_with fail
  clear hw0
  refine (labelKnown_walk w0).mono ?_
  rintro e w1 ⟨rfl, hk1⟩
  have HK1 := Lib.hid (HK0.out.trans hk1); have HB1 := Lib.hid (hk1.blk HB0.out id)
  clear hk1
  go_wp2_with (refine wpList_load_mid rfl 25 (.tmp 2) rfl w.heap.size 0 rfl lc _ (rangeAt_whole HB1.out) Try.underlying25 rfl (by rw [HLL.out]; exact sizeLab) ?_)
  refine (HCP.out _).mono ?_
  rintro e w2 ⟨v, rfl, ho2, hk2⟩
  rw [HPL.out] at ho2
  have HO2 := Lib.hid ho2; have HK2 := Lib.hid (HK1.out.trans hk2); have HB2 := Lib.hid (hk2.blk HB1.out id)
  obtain ⟨va, vc, rfl, -, -⟩ := (Rd.of_owns ho2).form
  clear ho2 hk2
  go_wp2_with (refine wpList_load_mid rfl 25 (.tmp 2) rfl w.heap.size 0 rfl lc _ (rangeAt_whole HB2.out) Try.underlying25 rfl (by rw [HLL.out]; exact sizeLab) ?_)
  refine (CK.out _).mono ?_
  rintro e w3 ⟨rfl, hk3⟩
  have HK3 := Lib.hid (HK2.out.trans hk3); have HB3 := Lib.hid (hk3.blk HB2.out id); have HO3 := Lib.hid (hk3.owns HO2.out fun _ _ => id)
  clear hk3
  go_wp2_with fail
  have CV := unpack_any w3 (.slice va 256 vc) (packB L) (by have := Rd.of_owns HO3.out; rw [HPL.out]; exact this) (by rw [HPL.out]; omega)
  rw [HUP.out] at CV
  refine CV.mono ?_
  clear CV
  rintro e w4 ⟨rfl, hk4⟩
  rw [show (L, (0 : Int)).1.cells = lc from HLC.out]
  have HK4 := Lib.hid (HK3.out.trans hk4); have HB4 := Lib.hid (hk4.blk HB3.out id)
  clear hk4
  have hnl := HNL.out
  go_wp2_with (first
    | (refine wpList_alloc_at rfl 25 rfl _ HZV.out zc.toArray rfl ?_)
    | ((with_reducible show wpList _ _ _ (⟨none, .store 25 (.tmp 8) (.tmp 44), _, _, _, _⟩ :: _) _ _); refine wpList_store_agg rfl 25 (.tmp 8) (.tmp 44) rfl w4.heap.size 0 lc rfl rfl zc.toArray _ (heap_alloc_new _ _) (by rw [HLL.out, List.size_toArray, HZL.out]; exact Nat.le_refl _) (by rw [HLL.out]; exact sizeLab) HLO.out ?_
       intro w5 hbw5 hkw5
       rw [spl_whole _ _ (by rw [HLL.out, List.size_toArray, HZL.out])] at hbw5
       have HBw5 := Lib.hid hbw5
       have HKw5 := Lib.hid (HK4.out.trans (((Keep.refl noBlk w4).alloc _).trans' hkw5 (fun _ _ h => h) (fun i hi e => by omega)))
       have HBL5 := Lib.hid ((((Keep.refl noBlk w4).alloc _).trans' hkw5 (fun _ _ h => h) (fun i hi e => by omega) : Keep noBlk w4 w5).blk HB4.out id)
       clear hbw5 hkw5)
    | (refine wpList_load_g (by rfl) 25 (.tmp 8) rfl w4.heap.size 0 rfl lc _ (rangeAt_whole HBw5.out) Try.underlying25 rfl (by rw [HLL.out]; exact sizeLab) ?_)
    | (refine wpList_load_g (by rfl) 25 (.tmp 2) rfl w.heap.size 0 rfl lc _ (rangeAt_whole HBL5.out) Try.underlying25 rfl (by rw [HLL.out]; exact sizeLab) ?_))
  clear hnl
  have HKX := HKw5
  go_ret
  exact ⟨rfl, HKX.out⟩

set_option maxHeartbeats 4000000 in
theorem labelBack_may_no (L : Lab) (hL : L.pool.length = 32) (hm : L.may = true) (bv : Value) (b : List UInt8) (hl : ¬ 1000 < b.length) (her : (unpackR b).2 ≠ 0) (w : World) (hr : Rd w 1 bv b.length (b.map vb)) :
    Calls Try.prog 8 #[.agg L.cells.toArray, bv] w (TherePost w true) := by
  obtain ⟨a, c, rfl, -, -⟩ := hr.form
  obtain ⟨lc, hlc⟩ : ∃ lc, L.cells = lc := ⟨_, rfl⟩
  have hlcl : lc.length = 37 := by rw [← hlc]; exact L.cells_length hL
  have hlco : ∀ u ∈ lc, u.oneCell' = true := by rw [← hlc]; exact oneCell_lab L
  obtain ⟨zc, hzc, hzl, hzo⟩ : ∃ zc, zeroLab.cells = zc ∧ zc.length = 37 ∧ ∀ u ∈ zc, u.oneCell' = true := ⟨_, rfl, rfl, oneCell_lab _⟩
  have hzv : ∀ w, (zeroValue 25).run Try.prog w = .ok (.agg zc.toArray) w := by rw [← hzc]; exact zeroValLab
  have hbd : ∀ w, (Instr.build 25 #[]).run Try.prog w = .ok (.agg zc.toArray) w := by rw [← hzc]; exact buildLab
  have HEZ := Lib.hid (eqSame zeroLab (by decide) hzc)
  have HNL := Lib.hid fun w => neq_of_eql (eqSame L hL hlc w)
  have CK := Lib.hid (check_keep L hL hlc (n := 0) (by rw [hm]; rfl))
  have CP := fun w => pack_any L hL w
  unfold PackPost at CP
  rw [hm, hlc] at CP
  have HCP := Lib.hid CP
  have HR := Lib.hid hr
  have HLC := Lib.hid hlc; have HLL := Lib.hid hlcl; have HLO := Lib.hid hlco; have HZC := Lib.hid hzc; have HZL := Lib.hid hzl; have HZO := Lib.hid hzo; have HZV := Lib.hid hzv; have HBD := Lib.hid hbd
  rw [hlc]
  have HPL := Lib.hid (packB_len L hL hm)
  have HUP := Lib.hid (unpackR_pack L hL hm)
  have ht : decide ((1000 : Int) < (b.length : Int)) = false := decide_eq_false (by omega)
  have CU := fun w (h : Rd w 1 (.slice a b.length c) b.length (b.map vb)) => unpack_any w (.slice a b.length c) b h (by omega)
  have HU1 : Hid ((unpackR b).1.cells = zc) := Lib.hid (by rw [unpackR_no her, hzc])
  obtain ⟨er, hre⟩ : ∃ er, (unpackR b).2 = er := ⟨_, rfl⟩
  have HU2 := Lib.hid hre
  rw [hre] at her
  have he0 : (er == 0) = false := beq_eq_false_iff_ne.2 her
  have he1 : (er != 0) = true := by rw [bne_iff_ne]; exact her
  clear hre her
  have hnb : ∃ n, b.length = n := ⟨_, rfl⟩
  obtain ⟨n, hn⟩ := hnb
  have HN := Lib.hid hn
  rw [hn] at ht hl HR CU ⊢
  have HCU := Lib.hid CU
  clear CU
  clear hr hlc hlcl hlco hzc hzl hzo hzv hbd CP hn hL hm
  obtain ⟨w0, hw0, hk0, hb0, hs0⟩ := alloc_facts w lc.toArray 25
  have HK0 := Lib.hid hk0; have HB0 := Lib.hid hb0
  clear hk0 hb0
  go_enter Try.func8, Try.ntmps8
  go_wp2_with fail
  clear hw0
  refine (labelKnown_walk w0).mono ?_
  rintro e w1 ⟨rfl, hk1⟩
  have HK1 := Lib.hid (HK0.out.trans hk1); have HB1 := Lib.hid (hk1.blk HB0.out id)
  clear hk1
  go_wp2_with (refine wpList_load_mid rfl 25 (.tmp 2) rfl w.heap.size 0 rfl lc _ (rangeAt_whole HB1.out) Try.underlying25 rfl (by rw [HLL.out]; exact sizeLab) ?_)
  refine (HCP.out _).mono ?_
  rintro e w2 ⟨v, rfl, ho2, hk2⟩
  rw [HPL.out] at ho2
  have HO2 := Lib.hid ho2; have HK2 := Lib.hid (HK1.out.trans hk2); have HB2 := Lib.hid (hk2.blk HB1.out id)
  obtain ⟨va, vc, rfl, -, -⟩ := (Rd.of_owns ho2).form
  clear ho2 hk2
  go_wp2_with (refine wpList_load_mid rfl 25 (.tmp 2) rfl w.heap.size 0 rfl lc _ (rangeAt_whole HB2.out) Try.underlying25 rfl (by rw [HLL.out]; exact sizeLab) ?_)
  refine (CK.out _).mono ?_
  rintro e w3 ⟨rfl, hk3⟩
  have HK3 := Lib.hid (HK2.out.trans hk3); have HB3 := Lib.hid (hk3.blk HB2.out id); have HO3 := Lib.hid (hk3.owns HO2.out fun _ _ => id)
  clear hk3
  go_wp2_with fail
  have CV := unpack_any w3 (.slice va 256 vc) (packB L) (by have := Rd.of_owns HO3.out; rw [HPL.out]; exact this) (by rw [HPL.out]; omega)
  rw [HUP.out] at CV
  refine CV.mono ?_
  clear CV
  rintro e w4 ⟨rfl, hk4⟩
  rw [show (L, (0 : Int)).1.cells = lc from HLC.out]
  have HK4 := Lib.hid (HK3.out.trans hk4); have HB4 := Lib.hid (hk4.blk HB3.out id)
  clear hk4
  have hnl := HNL.out
  go_wp2_with (first
    | (refine wpList_alloc_at rfl 25 rfl _ HZV.out zc.toArray rfl ?_)
    | ((with_reducible show wpList _ _ _ (⟨none, .store 25 (.tmp 8) (.tmp 44), _, _, _, _⟩ :: _) _ _); refine wpList_store_agg rfl 25 (.tmp 8) (.tmp 44) rfl w4.heap.size 0 lc rfl rfl zc.toArray _ (heap_alloc_new _ _) (by rw [HLL.out, List.size_toArray, HZL.out]; exact Nat.le_refl _) (by rw [HLL.out]; exact sizeLab) HLO.out ?_
       intro w5 hbw5 hkw5
       rw [spl_whole _ _ (by rw [HLL.out, List.size_toArray, HZL.out])] at hbw5
       have HBw5 := Lib.hid hbw5
       have HKw5 := Lib.hid (HK4.out.trans (((Keep.refl noBlk w4).alloc _).trans' hkw5 (fun _ _ h => h) (fun i hi e => by omega)))
       have HBL5 := Lib.hid ((((Keep.refl noBlk w4).alloc _).trans' hkw5 (fun _ _ h => h) (fun i hi e => by omega) : Keep noBlk w4 w5).blk HB4.out id)
       clear hbw5 hkw5)
    | (refine wpList_load_g (by rfl) 25 (.tmp 8) rfl w4.heap.size 0 rfl lc _ (rangeAt_whole HBw5.out) Try.underlying25 rfl (by rw [HLL.out]; exact sizeLab) ?_)
    | (refine wpList_load_g (by rfl) 25 (.tmp 2) rfl w.heap.size 0 rfl lc _ (rangeAt_whole HBL5.out) Try.underlying25 rfl (by rw [HLL.out]; exact sizeLab) ?_))
  clear hnl
  have HKX := HKw5
  refine (HCU.out w5 (HR.out.keep HKX.out fun _ _ => id)).mono ?_
  rintro e w6 ⟨rfl, hk6⟩
  rw [HU1.out, HU2.out]
  have HK6 := Lib.hid (HKX.out.trans hk6)
  clear hk6
  have hzv := HZV.out
  have hbd := HBD.out
  have hzv := HZV.out
  have hez := HEZ.out
  go_wp2_with (first
    | (refine wpList_alloc_at rfl 25 rfl _ HZV.out zc.toArray rfl ?_)
    | ((with_reducible show wpList _ _ _ (⟨none, .store 25 (.tmp 10) (.tmp 65), _, _, _, _⟩ :: _) _ _); refine wpList_store_agg rfl 25 (.tmp 10) (.tmp 65) rfl w6.heap.size 0 zc rfl rfl zc.toArray _ (heap_alloc_new _ _) (by rw [HZL.out, List.size_toArray, HZL.out]; exact Nat.le_refl _) (by rw [HZL.out]; exact sizeLab) HZO.out ?_
       intro w7 hbw7 hkw7
       rw [spl_whole _ _ (by rw [HZL.out, List.size_toArray, HZL.out])] at hbw7
       have HBw7 := Lib.hid hbw7
       have HKw7 := Lib.hid (HK6.out.trans (((Keep.refl noBlk w6).alloc _).trans' hkw7 (fun _ _ h => h) (fun i hi e => by omega)))
       clear hbw7 hkw7)
    | (refine wpList_load_g (by rfl) 25 (.tmp 10) rfl w6.heap.size 0 rfl zc _ (rangeAt_whole HBw7.out) Try.underlying25 rfl (by rw [HZL.out]; exact sizeLab) ?_))
  go_ret
  exact ⟨rfl, HKw7.out⟩

set_option maxHeartbeats 4000000 in
theorem labelBack_may_ok (L : Lab) (hL : L.pool.length = 32) (hm : L.may = true) (bv : Value) (b : List UInt8) (hl : ¬ 1000 < b.length) (her : (unpackR b).2 = 0) (w : World) (hr : Rd w 1 bv b.length (b.map vb)) :
    Calls Try.prog 8 #[.agg L.cells.toArray, bv] w (TherePost w true) := by
  obtain ⟨a, c, rfl, -, -⟩ := hr.form
  obtain ⟨lc, hlc⟩ : ∃ lc, L.cells = lc := ⟨_, rfl⟩
  have hlcl : lc.length = 37 := by rw [← hlc]; exact L.cells_length hL
  have hlco : ∀ u ∈ lc, u.oneCell' = true := by rw [← hlc]; exact oneCell_lab L
  obtain ⟨zc, hzc, hzl, hzo⟩ : ∃ zc, zeroLab.cells = zc ∧ zc.length = 37 ∧ ∀ u ∈ zc, u.oneCell' = true := ⟨_, rfl, rfl, oneCell_lab _⟩
  have hzv : ∀ w, (zeroValue 25).run Try.prog w = .ok (.agg zc.toArray) w := by rw [← hzc]; exact zeroValLab
  have hbd : ∀ w, (Instr.build 25 #[]).run Try.prog w = .ok (.agg zc.toArray) w := by rw [← hzc]; exact buildLab
  have HEZ := Lib.hid (eqSame zeroLab (by decide) hzc)
  have HNL := Lib.hid fun w => neq_of_eql (eqSame L hL hlc w)
  have CK := Lib.hid (check_keep L hL hlc (n := 0) (by rw [hm]; rfl))
  have CP := fun w => pack_any L hL w
  unfold PackPost at CP
  rw [hm, hlc] at CP
  have HCP := Lib.hid CP
  have HR := Lib.hid hr
  have HLC := Lib.hid hlc; have HLL := Lib.hid hlcl; have HLO := Lib.hid hlco; have HZC := Lib.hid hzc; have HZL := Lib.hid hzl; have HZO := Lib.hid hzo; have HZV := Lib.hid hzv; have HBD := Lib.hid hbd
  rw [hlc]
  have HPL := Lib.hid (packB_len L hL hm)
  have HUP := Lib.hid (unpackR_pack L hL hm)
  have ht : decide ((1000 : Int) < (b.length : Int)) = false := decide_eq_false (by omega)
  have CU := fun w (h : Rd w 1 (.slice a b.length c) b.length (b.map vb)) => unpack_any w (.slice a b.length c) b h (by omega)
  obtain ⟨u1, u2, u3, u4⟩ := unpackR_ok her
  have hM : (labOf b).pool.length = 32 := labOf_pool b u2
  obtain ⟨mc, hmc⟩ : ∃ mc, (labOf b).cells = mc := ⟨_, rfl⟩
  have HML : Hid (mc.length = 37) := Lib.hid (by rw [← hmc]; exact (labOf b).cells_length hM)
  have HMO : Hid (∀ u ∈ mc, u.oneCell' = true) := Lib.hid (by rw [← hmc]; exact oneCell_lab _)
  have CQ := fun w => pack_any (labOf b) hM w
  unfold PackPost at CQ
  rw [u3, hmc, u4] at CQ
  have HCQ := Lib.hid CQ
  have HU1 : Hid ((unpackR b).1.cells = mc) := Lib.hid (by rw [u1, hmc])
  have HU2 := Lib.hid her
  clear u1 u2 u3 u4 hM hmc CQ
  have hnb : ∃ n, b.length = n := ⟨_, rfl⟩
  obtain ⟨n, hn⟩ := hnb
  have HN := Lib.hid hn
  rw [hn] at ht hl HR CU ⊢
  have HCU := Lib.hid CU
  clear CU
  clear hr hlc hlcl hlco hzc hzl hzo hzv hbd CP hn hL hm
  obtain ⟨w0, hw0, hk0, hb0, hs0⟩ := alloc_facts w lc.toArray 25
  have HK0 := Lib.hid hk0; have HB0 := Lib.hid hb0
  clear hk0 hb0
  go_enter Try.func8, Try.ntmps8
  go_wp2_with fail
  clear hw0
  refine (labelKnown_walk w0).mono ?_
  rintro e w1 ⟨rfl, hk1⟩
  have HK1 := Lib.hid (HK0.out.trans hk1); have HB1 := Lib.hid (hk1.blk HB0.out id)
  clear hk1
  go_wp2_with (refine wpList_load_mid rfl 25 (.tmp 2) rfl w.heap.size 0 rfl lc _ (rangeAt_whole HB1.out) Try.underlying25 rfl (by rw [HLL.out]; exact sizeLab) ?_)
  refine (HCP.out _).mono ?_
  rintro e w2 ⟨v, rfl, ho2, hk2⟩
  rw [HPL.out] at ho2
  have HO2 := Lib.hid ho2; have HK2 := Lib.hid (HK1.out.trans hk2); have HB2 := Lib.hid (hk2.blk HB1.out id)
  obtain ⟨va, vc, rfl, -, -⟩ := (Rd.of_owns ho2).form
  clear ho2 hk2
  go_wp2_with (refine wpList_load_mid rfl 25 (.tmp 2) rfl w.heap.size 0 rfl lc _ (rangeAt_whole HB2.out) Try.underlying25 rfl (by rw [HLL.out]; exact sizeLab) ?_)
  refine (CK.out _).mono ?_
  rintro e w3 ⟨rfl, hk3⟩
  have HK3 := Lib.hid (HK2.out.trans hk3); have HB3 := Lib.hid (hk3.blk HB2.out id); have HO3 := Lib.hid (hk3.owns HO2.out fun _ _ => id)
  clear hk3
  go_wp2_with fail
  have CV := unpack_any w3 (.slice va 256 vc) (packB L) (by have := Rd.of_owns HO3.out; rw [HPL.out]; exact this) (by rw [HPL.out]; omega)
  rw [HUP.out] at CV
  refine CV.mono ?_
  clear CV
  rintro e w4 ⟨rfl, hk4⟩
  rw [show (L, (0 : Int)).1.cells = lc from HLC.out]
  have HK4 := Lib.hid (HK3.out.trans hk4); have HB4 := Lib.hid (hk4.blk HB3.out id)
  clear hk4
  have hnl := HNL.out
  go_wp2_with (first
    | (refine wpList_alloc_at rfl 25 rfl _ HZV.out zc.toArray rfl ?_)
    | ((with_reducible show wpList _ _ _ (⟨none, .store 25 (.tmp 8) (.tmp 44), _, _, _, _⟩ :: _) _ _); refine wpList_store_agg rfl 25 (.tmp 8) (.tmp 44) rfl w4.heap.size 0 lc rfl rfl zc.toArray _ (heap_alloc_new _ _) (by rw [HLL.out, List.size_toArray, HZL.out]; exact Nat.le_refl _) (by rw [HLL.out]; exact sizeLab) HLO.out ?_
       intro w5 hbw5 hkw5
       rw [spl_whole _ _ (by rw [HLL.out, List.size_toArray, HZL.out])] at hbw5
       have HBw5 := Lib.hid hbw5
       have HKw5 := Lib.hid (HK4.out.trans (((Keep.refl noBlk w4).alloc _).trans' hkw5 (fun _ _ h => h) (fun i hi e => by omega)))
       have HBL5 := Lib.hid ((((Keep.refl noBlk w4).alloc _).trans' hkw5 (fun _ _ h => h) (fun i hi e => by omega) : Keep noBlk w4 w5).blk HB4.out id)
       clear hbw5 hkw5)
    | (refine wpList_load_g (by rfl) 25 (.tmp 8) rfl w4.heap.size 0 rfl lc _ (rangeAt_whole HBw5.out) Try.underlying25 rfl (by rw [HLL.out]; exact sizeLab) ?_)
    | (refine wpList_load_g (by rfl) 25 (.tmp 2) rfl w.heap.size 0 rfl lc _ (rangeAt_whole HBL5.out) Try.underlying25 rfl (by rw [HLL.out]; exact sizeLab) ?_))
  clear hnl
  have HKX := HKw5
  refine (HCU.out w5 (HR.out.keep HKX.out fun _ _ => id)).mono ?_
  rintro e w6 ⟨rfl, hk6⟩
  rw [HU1.out, HU2.out]
  have HK6 := Lib.hid (HKX.out.trans hk6)
  clear hk6
  go_wp2_with (first
    | (refine wpList_alloc_at rfl 25 rfl _ HZV.out zc.toArray rfl ?_)
    | ((with_reducible show wpList _ _ _ (⟨none, .store 25 (.tmp 10) (.tmp 65), _, _, _, _⟩ :: _) _ _); refine wpList_store_agg rfl 25 (.tmp 10) (.tmp 65) rfl w6.heap.size 0 mc rfl rfl zc.toArray _ (heap_alloc_new _ _) (by rw [HML.out, List.size_toArray, HZL.out]; exact Nat.le_refl _) (by rw [HML.out]; exact sizeLab) HMO.out ?_
       intro w7 hbw7 hkw7
       rw [spl_whole _ _ (by rw [HML.out, List.size_toArray, HZL.out])] at hbw7
       have HBw7 := Lib.hid hbw7
       have HKw7 := Lib.hid (HK6.out.trans (((Keep.refl noBlk w6).alloc _).trans' hkw7 (fun _ _ h => h) (fun i hi e => by omega)))
       clear hbw7 hkw7)
    | (refine wpList_load_mid rfl 25 (.tmp 10) rfl w6.heap.size 0 rfl mc _ (rangeAt_whole HBw7.out) Try.underlying25 rfl (by rw [HML.out]; exact sizeLab) ?_))
  refine (HCQ.out _).mono ?_
  rintro e w8 ⟨v8, rfl, ho8, hk8⟩
  have HO8 := Lib.hid ho8; have HK8 := Lib.hid (HKw7.out.trans hk8)
  obtain ⟨va8, vc8, rfl, -, -⟩ := (Rd.of_owns ho8).form
  clear ho8 hk8
  have CS := Lib.hid (same_any w8 _ _ b b (Rd.of_owns HO8.out) (by have h8 := HR.out.keep HK8.out fun _ _ => id; rw [← HN.out] at h8; exact h8) true (decide_eq_true rfl))
  rw [HN.out] at CS
  rw [HN.out]
  go_wp2_with fail
  refine CS.out.mono ?_
  rintro e w9 ⟨rfl, rfl⟩
  go_wp2_with fail
  go_ret
  exact ⟨rfl, HK8.out⟩

set_option maxHeartbeats 4000000 in
theorem labelBack_not_long (L : Lab) (hL : L.pool.length = 32) (hm : L.may = false) (bv : Value) (b : List UInt8) (hl : 1000 < b.length) (w : World) (hr : Rd w 1 bv b.length (b.map vb)) :
    Calls Try.prog 8 #[.agg L.cells.toArray, bv] w (TherePost w true) := by
  obtain ⟨a, c, rfl, -, -⟩ := hr.form
  obtain ⟨lc, hlc⟩ : ∃ lc, L.cells = lc := ⟨_, rfl⟩
  have hlcl : lc.length = 37 := by rw [← hlc]; exact L.cells_length hL
  have hlco : ∀ u ∈ lc, u.oneCell' = true := by rw [← hlc]; exact oneCell_lab L
  obtain ⟨zc, hzc, hzl, hzo⟩ : ∃ zc, zeroLab.cells = zc ∧ zc.length = 37 ∧ ∀ u ∈ zc, u.oneCell' = true := ⟨_, rfl, rfl, oneCell_lab _⟩
  have hzv : ∀ w, (zeroValue 25).run Try.prog w = .ok (.agg zc.toArray) w := by rw [← hzc]; exact zeroValLab
  have hbd : ∀ w, (Instr.build 25 #[]).run Try.prog w = .ok (.agg zc.toArray) w := by rw [← hzc]; exact buildLab
  have HEZ := Lib.hid (eqSame zeroLab (by decide) hzc)
  have HNL := Lib.hid fun w => neq_of_eql (eqSame L hL hlc w)
  have CK := Lib.hid (check_keep L hL hlc (n := 2) (by rw [hm]; rfl))
  have CP := fun w => pack_any L hL w
  unfold PackPost at CP
  rw [hm, hlc] at CP
  have HCP := Lib.hid CP
  have HR := Lib.hid hr
  have HLC := Lib.hid hlc; have HLL := Lib.hid hlcl; have HLO := Lib.hid hlco; have HZC := Lib.hid hzc; have HZL := Lib.hid hzl; have HZO := Lib.hid hzo; have HZV := Lib.hid hzv; have HBD := Lib.hid hbd
  rw [hlc]
  have HPL : Hid ((packB L).length = 0) := Lib.hid (by unfold packB; rw [hm]; rfl)
  have ht : decide ((1000 : Int) < (b.length : Int)) = true := decide_eq_true (by omega)
  have hnb : ∃ n, b.length = n := ⟨_, rfl⟩
  obtain ⟨n, hn⟩ := hnb
  have HN := Lib.hid hn
  rw [hn] at ht hl HR ⊢

  clear hr hlc hlcl hlco hzc hzl hzo hzv hbd CP hn hL hm
  obtain ⟨w0, hw0, hk0, hb0, hs0⟩ := alloc_facts w lc.toArray 25
  have HK0 := Lib.hid hk0; have HB0 := Lib.hid hb0
  clear hk0 hb0
  go_enter Try.func8, Try.ntmps8
  go_wp2_with fail
  clear hw0
  refine (labelKnown_walk w0).mono ?_
  rintro e w1 ⟨rfl, hk1⟩
  have HK1 := Lib.hid (HK0.out.trans hk1); have HB1 := Lib.hid (hk1.blk HB0.out id)
  clear hk1
  go_wp2_with (refine wpList_load_mid rfl 25 (.tmp 2) rfl w.heap.size 0 rfl lc _ (rangeAt_whole HB1.out) Try.underlying25 rfl (by rw [HLL.out]; exact sizeLab) ?_)
  refine (HCP.out _).mono ?_
  rintro e w2 ⟨v, rfl, ho2, hk2⟩
  rw [HPL.out] at ho2
  have HO2 := Lib.hid ho2; have HK2 := Lib.hid (HK1.out.trans hk2); have HB2 := Lib.hid (hk2.blk HB1.out id)
  obtain ⟨va, vc, rfl, -, -⟩ := (Rd.of_owns ho2).form
  clear ho2 hk2
  go_wp2_with (refine wpList_load_mid rfl 25 (.tmp 2) rfl w.heap.size 0 rfl lc _ (rangeAt_whole HB2.out) Try.underlying25 rfl (by rw [HLL.out]; exact sizeLab) ?_)
  refine (CK.out _).mono ?_
  rintro e w3 ⟨rfl, hk3⟩
  have HK3 := Lib.hid (HK2.out.trans hk3); have HB3 := Lib.hid (hk3.blk HB2.out id); have HO3 := Lib.hid (hk3.owns HO2.out fun _ _ => id)
  clear hk3
  go_wp2_with fail
  have HKX := HK3
  go_ret
  exact ⟨rfl, HKX.out⟩

set_option maxHeartbeats 4000000 in
theorem labelBack_not_no (L : Lab) (hL : L.pool.length = 32) (hm : L.may = false) (bv : Value) (b : List UInt8) (hl : ¬ 1000 < b.length) (her : (unpackR b).2 ≠ 0) (w : World) (hr : Rd w 1 bv b.length (b.map vb)) :
    Calls Try.prog 8 #[.agg L.cells.toArray, bv] w (TherePost w true) := by
  obtain ⟨a, c, rfl, -, -⟩ := hr.form
  obtain ⟨lc, hlc⟩ : ∃ lc, L.cells = lc := ⟨_, rfl⟩
  have hlcl : lc.length = 37 := by rw [← hlc]; exact L.cells_length hL
  have hlco : ∀ u ∈ lc, u.oneCell' = true := by rw [← hlc]; exact oneCell_lab L
  obtain ⟨zc, hzc, hzl, hzo⟩ : ∃ zc, zeroLab.cells = zc ∧ zc.length = 37 ∧ ∀ u ∈ zc, u.oneCell' = true := ⟨_, rfl, rfl, oneCell_lab _⟩
  have hzv : ∀ w, (zeroValue 25).run Try.prog w = .ok (.agg zc.toArray) w := by rw [← hzc]; exact zeroValLab
  have hbd : ∀ w, (Instr.build 25 #[]).run Try.prog w = .ok (.agg zc.toArray) w := by rw [← hzc]; exact buildLab
  have HEZ := Lib.hid (eqSame zeroLab (by decide) hzc)
  have HNL := Lib.hid fun w => neq_of_eql (eqSame L hL hlc w)
  have CK := Lib.hid (check_keep L hL hlc (n := 2) (by rw [hm]; rfl))
  have CP := fun w => pack_any L hL w
  unfold PackPost at CP
  rw [hm, hlc] at CP
  have HCP := Lib.hid CP
  have HR := Lib.hid hr
  have HLC := Lib.hid hlc; have HLL := Lib.hid hlcl; have HLO := Lib.hid hlco; have HZC := Lib.hid hzc; have HZL := Lib.hid hzl; have HZO := Lib.hid hzo; have HZV := Lib.hid hzv; have HBD := Lib.hid hbd
  rw [hlc]
  have HPL : Hid ((packB L).length = 0) := Lib.hid (by unfold packB; rw [hm]; rfl)
  have ht : decide ((1000 : Int) < (b.length : Int)) = false := decide_eq_false (by omega)
  have CU := fun w (h : Rd w 1 (.slice a b.length c) b.length (b.map vb)) => unpack_any w (.slice a b.length c) b h (by omega)
  have HU1 : Hid ((unpackR b).1.cells = zc) := Lib.hid (by rw [unpackR_no her, hzc])
  obtain ⟨er, hre⟩ : ∃ er, (unpackR b).2 = er := ⟨_, rfl⟩
  have HU2 := Lib.hid hre
  rw [hre] at her
  have he0 : (er == 0) = false := beq_eq_false_iff_ne.2 her
  have he1 : (er != 0) = true := by rw [bne_iff_ne]; exact her
  clear hre her
  have hnb : ∃ n, b.length = n := ⟨_, rfl⟩
  obtain ⟨n, hn⟩ := hnb
  have HN := Lib.hid hn
  rw [hn] at ht hl HR CU ⊢
  have HCU := Lib.hid CU
  clear CU
  clear hr hlc hlcl hlco hzc hzl hzo hzv hbd CP hn hL hm
  obtain ⟨w0, hw0, hk0, hb0, hs0⟩ := alloc_facts w lc.toArray 25
  have HK0 := Lib.hid hk0; have HB0 := Lib.hid hb0
  clear hk0 hb0
  go_enter Try.func8, Try.ntmps8
  go_wp2_with fail
  clear hw0
  refine (labelKnown_walk w0).mono ?_
  rintro e w1 ⟨rfl, hk1⟩
  have HK1 := Lib.hid (HK0.out.trans hk1); have HB1 := Lib.hid (hk1.blk HB0.out id)
  clear hk1
  go_wp2_with (refine wpList_load_mid rfl 25 (.tmp 2) rfl w.heap.size 0 rfl lc _ (rangeAt_whole HB1.out) Try.underlying25 rfl (by rw [HLL.out]; exact sizeLab) ?_)
  refine (HCP.out _).mono ?_
  rintro e w2 ⟨v, rfl, ho2, hk2⟩
  rw [HPL.out] at ho2
  have HO2 := Lib.hid ho2; have HK2 := Lib.hid (HK1.out.trans hk2); have HB2 := Lib.hid (hk2.blk HB1.out id)
  obtain ⟨va, vc, rfl, -, -⟩ := (Rd.of_owns ho2).form
  clear ho2 hk2
  go_wp2_with (refine wpList_load_mid rfl 25 (.tmp 2) rfl w.heap.size 0 rfl lc _ (rangeAt_whole HB2.out) Try.underlying25 rfl (by rw [HLL.out]; exact sizeLab) ?_)
  refine (CK.out _).mono ?_
  rintro e w3 ⟨rfl, hk3⟩
  have HK3 := Lib.hid (HK2.out.trans hk3); have HB3 := Lib.hid (hk3.blk HB2.out id); have HO3 := Lib.hid (hk3.owns HO2.out fun _ _ => id)
  clear hk3
  go_wp2_with fail
  have HKX := HK3
  refine (HCU.out w3 (HR.out.keep HKX.out fun _ _ => id)).mono ?_
  rintro e w6 ⟨rfl, hk6⟩
  rw [HU1.out, HU2.out]
  have HK6 := Lib.hid (HKX.out.trans hk6)
  clear hk6
  have hzv := HZV.out
  have hbd := HBD.out
  have hzv := HZV.out
  have hez := HEZ.out
  go_wp2_with (first
    | (refine wpList_alloc_at rfl 25 rfl _ HZV.out zc.toArray rfl ?_)
    | ((with_reducible show wpList _ _ _ (⟨none, .store 25 (.tmp 10) (.tmp 65), _, _, _, _⟩ :: _) _ _); refine wpList_store_agg rfl 25 (.tmp 10) (.tmp 65) rfl w6.heap.size 0 zc rfl rfl zc.toArray _ (heap_alloc_new _ _) (by rw [HZL.out, List.size_toArray, HZL.out]; exact Nat.le_refl _) (by rw [HZL.out]; exact sizeLab) HZO.out ?_
       intro w7 hbw7 hkw7
       rw [spl_whole _ _ (by rw [HZL.out, List.size_toArray, HZL.out])] at hbw7
       have HBw7 := Lib.hid hbw7
       have HKw7 := Lib.hid (HK6.out.trans (((Keep.refl noBlk w6).alloc _).trans' hkw7 (fun _ _ h => h) (fun i hi e => by omega)))
       clear hbw7 hkw7)
    | (refine wpList_load_g (by rfl) 25 (.tmp 10) rfl w6.heap.size 0 rfl zc _ (rangeAt_whole HBw7.out) Try.underlying25 rfl (by rw [HZL.out]; exact sizeLab) ?_))
  go_ret
  exact ⟨rfl, HKw7.out⟩

set_option maxHeartbeats 4000000 in
theorem labelBack_not_ok (L : Lab) (hL : L.pool.length = 32) (hm : L.may = false) (bv : Value) (b : List UInt8) (hl : ¬ 1000 < b.length) (her : (unpackR b).2 = 0) (w : World) (hr : Rd w 1 bv b.length (b.map vb)) :
    Calls Try.prog 8 #[.agg L.cells.toArray, bv] w (TherePost w true) := by
  obtain ⟨a, c, rfl, -, -⟩ := hr.form
  obtain ⟨lc, hlc⟩ : ∃ lc, L.cells = lc := ⟨_, rfl⟩
  have hlcl : lc.length = 37 := by rw [← hlc]; exact L.cells_length hL
  have hlco : ∀ u ∈ lc, u.oneCell' = true := by rw [← hlc]; exact oneCell_lab L
  obtain ⟨zc, hzc, hzl, hzo⟩ : ∃ zc, zeroLab.cells = zc ∧ zc.length = 37 ∧ ∀ u ∈ zc, u.oneCell' = true := ⟨_, rfl, rfl, oneCell_lab _⟩
  have hzv : ∀ w, (zeroValue 25).run Try.prog w = .ok (.agg zc.toArray) w := by rw [← hzc]; exact zeroValLab
  have hbd : ∀ w, (Instr.build 25 #[]).run Try.prog w = .ok (.agg zc.toArray) w := by rw [← hzc]; exact buildLab
  have HEZ := Lib.hid (eqSame zeroLab (by decide) hzc)
  have HNL := Lib.hid fun w => neq_of_eql (eqSame L hL hlc w)
  have CK := Lib.hid (check_keep L hL hlc (n := 2) (by rw [hm]; rfl))
  have CP := fun w => pack_any L hL w
  unfold PackPost at CP
  rw [hm, hlc] at CP
  have HCP := Lib.hid CP
  have HR := Lib.hid hr
  have HLC := Lib.hid hlc; have HLL := Lib.hid hlcl; have HLO := Lib.hid hlco; have HZC := Lib.hid hzc; have HZL := Lib.hid hzl; have HZO := Lib.hid hzo; have HZV := Lib.hid hzv; have HBD := Lib.hid hbd
  rw [hlc]
  have HPL : Hid ((packB L).length = 0) := Lib.hid (by unfold packB; rw [hm]; rfl)
  have ht : decide ((1000 : Int) < (b.length : Int)) = false := decide_eq_false (by omega)
  have CU := fun w (h : Rd w 1 (.slice a b.length c) b.length (b.map vb)) => unpack_any w (.slice a b.length c) b h (by omega)
  obtain ⟨u1, u2, u3, u4⟩ := unpackR_ok her
  have hM : (labOf b).pool.length = 32 := labOf_pool b u2
  obtain ⟨mc, hmc⟩ : ∃ mc, (labOf b).cells = mc := ⟨_, rfl⟩
  have HML : Hid (mc.length = 37) := Lib.hid (by rw [← hmc]; exact (labOf b).cells_length hM)
  have HMO : Hid (∀ u ∈ mc, u.oneCell' = true) := Lib.hid (by rw [← hmc]; exact oneCell_lab _)
  have CQ := fun w => pack_any (labOf b) hM w
  unfold PackPost at CQ
  rw [u3, hmc, u4] at CQ
  have HCQ := Lib.hid CQ
  have HU1 : Hid ((unpackR b).1.cells = mc) := Lib.hid (by rw [u1, hmc])
  have HU2 := Lib.hid her
  clear u1 u2 u3 u4 hM hmc CQ
  have hnb : ∃ n, b.length = n := ⟨_, rfl⟩
  obtain ⟨n, hn⟩ := hnb
  have HN := Lib.hid hn
  rw [hn] at ht hl HR CU ⊢
  have HCU := Lib.hid CU
  clear CU
  clear hr hlc hlcl hlco hzc hzl hzo hzv hbd CP hn hL hm
  obtain ⟨w0, hw0, hk0, hb0, hs0⟩ := alloc_facts w lc.toArray 25
  have HK0 := Lib.hid hk0; have HB0 := Lib.hid hb0
  clear hk0 hb0
  go_enter Try.func8, Try.ntmps8
  go_wp2_with fail
  clear hw0
  refine (labelKnown_walk w0).mono ?_
  rintro e w1 ⟨rfl, hk1⟩
  have HK1 := Lib.hid (HK0.out.trans hk1); have HB1 := Lib.hid (hk1.blk HB0.out id)
  clear hk1
  go_wp2_with (refine wpList_load_mid rfl 25 (.tmp 2) rfl w.heap.size 0 rfl lc _ (rangeAt_whole HB1.out) Try.underlying25 rfl (by rw [HLL.out]; exact sizeLab) ?_)
  refine (HCP.out _).mono ?_
  rintro e w2 ⟨v, rfl, ho2, hk2⟩
  rw [HPL.out] at ho2
  have HO2 := Lib.hid ho2; have HK2 := Lib.hid (HK1.out.trans hk2); have HB2 := Lib.hid (hk2.blk HB1.out id)
  obtain ⟨va, vc, rfl, -, -⟩ := (Rd.of_owns ho2).form
  clear ho2 hk2
  go_wp2_with (refine wpList_load_mid rfl 25 (.tmp 2) rfl w.heap.size 0 rfl lc _ (rangeAt_whole HB2.out) Try.underlying25 rfl (by rw [HLL.out]; exact sizeLab) ?_)
  refine (CK.out _).mono ?_
  rintro e w3 ⟨rfl, hk3⟩
  have HK3 := Lib.hid (HK2.out.trans hk3); have HB3 := Lib.hid (hk3.blk HB2.out id); have HO3 := Lib.hid (hk3.owns HO2.out fun _ _ => id)
  clear hk3
  go_wp2_with fail
  have HKX := HK3
  refine (HCU.out w3 (HR.out.keep HKX.out fun _ _ => id)).mono ?_
  rintro e w6 ⟨rfl, hk6⟩
  rw [HU1.out, HU2.out]
  have HK6 := Lib.hid (HKX.out.trans hk6)
  clear hk6
  go_wp2_with (first
    | (refine wpList_alloc_at rfl 25 rfl _ HZV.out zc.toArray rfl ?_)
    | ((with_reducible show wpList _ _ _ (⟨none, .store 25 (.tmp 10) (.tmp 65), _, _, _, _⟩ :: _) _ _); refine wpList_store_agg rfl 25 (.tmp 10) (.tmp 65) rfl w6.heap.size 0 mc rfl rfl zc.toArray _ (heap_alloc_new _ _) (by rw [HML.out, List.size_toArray, HZL.out]; exact Nat.le_refl _) (by rw [HML.out]; exact sizeLab) HMO.out ?_
       intro w7 hbw7 hkw7
       rw [spl_whole _ _ (by rw [HML.out, List.size_toArray, HZL.out])] at hbw7
       have HBw7 := Lib.hid hbw7
       have HKw7 := Lib.hid (HK6.out.trans (((Keep.refl noBlk w6).alloc _).trans' hkw7 (fun _ _ h => h) (fun i hi e => by omega)))
       clear hbw7 hkw7)
    | (refine wpList_load_mid rfl 25 (.tmp 10) rfl w6.heap.size 0 rfl mc _ (rangeAt_whole HBw7.out) Try.underlying25 rfl (by rw [HML.out]; exact sizeLab) ?_))
  refine (HCQ.out _).mono ?_
  rintro e w8 ⟨v8, rfl, ho8, hk8⟩
  have HO8 := Lib.hid ho8; have HK8 := Lib.hid (HKw7.out.trans hk8)
  obtain ⟨va8, vc8, rfl, -, -⟩ := (Rd.of_owns ho8).form
  clear ho8 hk8
  have CS := Lib.hid (same_any w8 _ _ b b (Rd.of_owns HO8.out) (by have h8 := HR.out.keep HK8.out fun _ _ => id; rw [← HN.out] at h8; exact h8) true (decide_eq_true rfl))
  rw [HN.out] at CS
  rw [HN.out]
  go_wp2_with fail
  refine CS.out.mono ?_
  rintro e w9 ⟨rfl, rfl⟩
  go_wp2_with fail
  go_ret
  exact ⟨rfl, HK8.out⟩

theorem labelBack_walk (w : World) (L : Lab) (hL : L.pool.length = 32) (bv : Value) (b : List UInt8) (hr : Rd w 1 bv b.length (b.map vb)) : Calls Try.prog 8 #[.agg L.cells.toArray, bv] w (TherePost w true) := by
  cases hm : L.may
  · by_cases hl : 1000 < b.length
    · exact labelBack_not_long L hL hm bv b hl w hr
    · by_cases h : (unpackR b).2 = 0
      · exact labelBack_not_ok L hL hm bv b hl h w hr
      · exact labelBack_not_no L hL hm bv b hl h w hr
  · by_cases hl : 1000 < b.length
    · exact labelBack_may_long L hL hm bv b hl w hr
    · by_cases h : (unpackR b).2 = 0
      · exact labelBack_may_ok L hL hm bv b hl h w hr
      · exact labelBack_may_no L hL hm bv b hl h w hr
end Go.Proofs.Ytdlegbcdmlmbpaa
