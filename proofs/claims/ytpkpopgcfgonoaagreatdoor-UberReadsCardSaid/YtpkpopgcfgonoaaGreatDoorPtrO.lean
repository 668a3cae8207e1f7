/-
  caulkerref09.Pack.
  Conditions: those told.
-/
import Derived.Test.YtpkpopgcfgonoaaGreatDoorPtrN
import Derived.Test.YtpkpopgcfgonoaaGreatDoorPtrE
import Derived.Test.YtpkpopgcfgonoaaGreatDoorRsum
import Derived.Test.YtpkpopgcfgonoaaGreatDoorRef01
namespace Go.Proofs.YtpkpopgcfgonoaaGreatDoor
open Go.RowKit Go.Maps Go.ChangeMaps
set_option maxRecDepth 100000
set_option linter.unusedVariables false

/-- What a write keeps of what is no writer's and no bytes. -/
theorem rw_keepU {w w' : World} {p : Nat} {v : Value} {l : List UInt8} {er : Int} (hv : RW w p p v l er) (hk : Keep (fun k => k = p ∨ v.ownBlock = some k) w w') (i : Nat) (hi : i < p) : ¬ (i = p ∨ v.ownBlock = some i) := by
  rintro (rfl | h3)
  · omega
  · have := owns_ge hv.own h3; omega
/-- The uberblock, the pointer's bytes and the document's writer, behind k writes. -/
structure RkU (w wr : World) (u : Ub) (uv pv : Value) (p k : Nat) : Prop where
  blk : wr.heap[w.heap.size]? = some (.cells (ubCs uv u).toArray 28 (0, 0))
  wrt : ∃ v, RW wr p p v (ubS u k) 0
  rd : Rd wr 1 pv (ptBytes u.root).length ((ptBytes u.root).map vb)
  pl : ∀ i, pv.ownBlock = some i → i < p
  keep : Keep noBlk w wr
  le : w.heap.size < p
theorem RkU.same {w wr w' : World} {u : Ub} {uv pv : Value} {p k : Nat} (h : RkU w wr u uv pv p k) (hk : Keep noBlk wr w') : RkU w w' u uv pv p k :=
  ⟨hk.blk h.blk id, by obtain ⟨v, hv⟩ := h.wrt; exact ⟨v, hv.keep hk id (fun _ _ => id)⟩, h.rd.keep hk (fun _ _ => id), h.pl, h.keep.trans hk, h.le⟩
theorem RkU.next {w wr w2 : World} {u : Ub} {uv pv v : Value} {p k : Nat} {e : Ending} (h : RkU w wr u uv pv p k) (hv : RW wr p p v (ubS u k) 0) (hp : RPost wr p p v (ubS u (k + 1), 0) e w2) : RkU w w2 u uv pv p (k + 1) := by
  obtain ⟨-, v', hw', hk, -⟩ := hp
  have hne := rw_keepU hv hk
  exact ⟨hk.blk h.blk (hne _ h.le), ⟨v', hw'⟩, h.rd.keep hk (fun i hi => hne i (h.pl i hi)), h.pl, h.keep.trans' hk (fun _ _ h => h) (fun i hi h3 => hne i (by have := h.le; omega) h3), h.le⟩
theorem rubytes_any {w : World} {v : Value} {u : Ub} (h : PtV w v u.root) (hm : u.root.may = true) (wx : World) (k : Keep noBlk w wx) : Calls Tryz.prog 30 #[.agg (ptCs v u.root).toArray] wx fun e w' =>
    ∃ x, e = .returned (.tuple #[x, .int .i64 0]) ∧ w'.ownsRow wx.heap.size 5 1 x (ptBytes u.root).length ((ptBytes u.root).map vb) ∧ Keep noBlk wx w' := by
  refine (rbytes_any wx v u.root (h.keep k fun _ _ => id)).mono ?_
  rintro e w' ⟨x, rfl, ho, hk⟩
  unfold ptB at ho
  rw [hm, if_pos rfl] at ho
  exact ⟨x, by rw [hm]; rfl, ho, hk⟩
set_option maxHeartbeats 1000000 in
theorem rupack_no (w : World) (v : Value) (u : Ub) (h0 : UbV w v u) (hm : u.may = false) : Calls Tryz.prog 8 #[.agg (ubCs v u).toArray] w (UPackPost w u) := by
  obtain ⟨oa, ca, hv, -, -⟩ := h0.root.rd.form
  subst hv
  obtain ⟨n, hn⟩ : ∃ x, u.root.addrs.length = x := ⟨_, rfl⟩
  rw [hn] at h0 ⊢
  have HP := Lib.hid h0.pool; have HSU := Lib.hid h0.root.sum; have HM := Lib.hid hm
  obtain ⟨w1, hw1, hk1, hb_0, hs1⟩ := alloc_facts w (ubCs (.slice oa n ca) u).toArray 28
  have HC := Lib.hid (rcheckU_any w1 (.slice oa n ca) u (h0.keep hk1 fun _ _ => id))
  unfold OkPost at HC
  rw [hm] at HC
  have HB0 := Lib.hid hb_0
  have HUB := Lib.hid (rangeAt_whole hb_0)
  obtain ⟨-, r0, -, -⟩ := ub_mem h0.root.sum (rangeAt_whole hb_0)
  have HR0 := Lib.hid r0
  have hl0 : (ptCs (.slice oa n ca) u.root).length = 35 := ptCs_len h0.root.sum
  have hul : (ubCs (.slice oa n ca) u).length = 69 := ubCs_len h0.root.sum h0.pool
  obtain ⟨uc, huc⟩ : ∃ x, ubCs (.slice oa n ca) u = x := ⟨_, rfl⟩
  have HUC := Lib.hid huc
  have HK := Lib.hid hk1
  have hs1' : w1.heap.size = w.heap.size + 1 := hs1
  rw [huc] at hw1 HUB HC hul ⊢
  clear h0 hm huc hb_0 HB0 r0 hk1 hs1 hs1' HR0 hl0
  go_enter Tryz.func8, Tryz.ntmps8
  go_wp2_with (first
    | ((with_reducible show wpList _ _ _ (⟨_, .load 28 (.tmp 1), _, _, _, _⟩ :: _) _ _); refine wpList_load_g (by rfl) 28 (.tmp 1) rfl (w.heap.size) 0 rfl uc _ HUB.out ubUnder rfl (sizeUbL hul) ?_))
  refine HC.out.mono ?_
  rintro e w2 ⟨rfl, hk2⟩
  have HK2 := Lib.hid (HK.out.trans hk2)
  clear hk2 HC
  go_wp2_with fail
  go_ret2
  refine ⟨_, by rw [HM.out]; rfl, ?_, HK2.out⟩
  rw [show packU u = [] by unfold packU; rw [HM.out]; rfl]
  exact World.ownsRow_nil _ _ _ _
set_option maxHeartbeats 4000000 in
theorem rupack_yes (w : World) (v : Value) (u : Ub) (h0 : UbV w v u) (hm : u.may = true) : Calls Tryz.prog 8 #[.agg (ubCs v u).toArray] w (UPackPost w u) := by
  obtain ⟨oa, ca, hv, -, -⟩ := h0.root.rd.form
  subst hv
  obtain ⟨n, hn⟩ : ∃ x, u.root.addrs.length = x := ⟨_, rfl⟩
  rw [hn] at h0 ⊢
  have HP := Lib.hid h0.pool; have HSU := Lib.hid h0.root.sum; have HM := Lib.hid hm
  obtain ⟨w1, hw1, hk1, hb_0, hs1⟩ := alloc_facts w (ubCs (.slice oa n ca) u).toArray 28
  have HC := Lib.hid (rcheckU_any w1 (.slice oa n ca) u (h0.keep hk1 fun _ _ => id))
  unfold OkPost at HC
  rw [hm] at HC
  have HB0 := Lib.hid hb_0
  have HUB := Lib.hid (rangeAt_whole hb_0)
  obtain ⟨-, r0, -, -⟩ := ub_mem h0.root.sum (rangeAt_whole hb_0)
  have HR0 := Lib.hid r0
  have hl0 : (ptCs (.slice oa n ca) u.root).length = 35 := ptCs_len h0.root.sum
  have hul : (ubCs (.slice oa n ca) u).length = 69 := ubCs_len h0.root.sum h0.pool
  obtain ⟨uc, huc⟩ : ∃ x, ubCs (.slice oa n ca) u = x := ⟨_, rfl⟩
  have HUC := Lib.hid huc
  have HK := Lib.hid hk1
  have hs1' : w1.heap.size = w.heap.size + 1 := hs1
  have HBY := Lib.hid (rubytes_any (u := u) h0.root (ub_bounds hm).2.2.2.2)
  have hpl := ptBytes_len h0.root.sum
  obtain ⟨pc, hpc⟩ : ∃ x, ptCs (.slice oa n ca) u.root = x := ⟨_, rfl⟩
  have HPL := Lib.hid hpl
  have kc := fun (w : World) (C : Array Value) (n c : Nat) => Lib.run_convert_bytes_const (P := Tryz.prog) w 32 5 C n c Tryz.underlying32 Tryz.underlying5
  have kd := fun (w : World) (C : Array Value) (n c g : Nat) (h : g = w.heap.size) => bytes_const_atU (P := Tryz.prog) w 32 5 C n c g h Tryz.underlying32 Tryz.underlying5
  rw [huc] at hw1 HUB HC hul ⊢
  rw [hpc] at HR0 hl0 HBY
  clear h0 hm huc hpc hb_0 r0 hk1 hs1 hpl
  go_enter Tryz.func8, Tryz.ntmps8
  go_wp2_with (first
    | ((with_reducible show wpList _ _ _ (⟨_, .load 28 (.tmp 1), _, _, _, _⟩ :: _) _ _); refine wpList_load_g (by rfl) 28 (.tmp 1) rfl (w.heap.size) 0 rfl uc _ HUB.out ubUnder rfl (sizeUbL hul) ?_))
  refine HC.out.mono ?_
  rintro e w2 ⟨rfl, hk2⟩
  have HK2 := Lib.hid (HK.out.trans hk2)
  have HR0 := Lib.hid (hk2.rangeAt HR0.out)
  have HB2 := Lib.hid (hk2.blk HB0.out id)
  have hs2 : w1.heap.size ≤ w2.heap.size := hk2.size
  clear hk2 HC HB0
  go_wp2_with (first
    | ((with_reducible show wpList _ _ _ (⟨_, .load 26 (.tmp 12), _, _, _, _⟩ :: _) _ _); refine wpList_load_g (by rfl) 26 (.tmp 12) rfl (w.heap.size) 1 rfl pc _ HR0.out ptUnder rfl (sizePtL hl0) ?_))
  refine (HBY.out _ HK2.out).mono ?_
  rintro e w3 ⟨pv, rfl, ho3, hk3⟩
  obtain ⟨ap, cp, rfl, -, -⟩ := (Rd.of_owns ho3).form
  have HB3 := Lib.hid (hk3.blk HB2.out id)
  have HO3 := Lib.hid ho3; have HK3 := Lib.hid (HK2.out.trans hk3)
  have hs3 : w2.heap.size ≤ w3.heap.size := hk3.size
  clear hk3 ho3 HBY HB2
  go_wp2_with fail
  have kw : Keep noBlk w3 (w3.alloc (.cells #[.slice none 0 0, .int .i64 0] 56)) := (Keep.refl _ _).alloc _
  have U0 : Hid (RkU w (w3.alloc (.cells #[.slice none 0 0, .int .i64 0] 56)) u (.slice oa n ca) (.slice ap (ptBytes u.root).length cp) w3.heap.size 0) := Lib.hid ⟨kw.blk HB3.out id, ⟨.slice none 0 0, heap_alloc_new _ _, World.ownsRow_nil _ _ _ _, by simp [Value.ownBlock], Nat.le_refl _⟩, (Rd.of_owns HO3.out).keep kw (fun _ _ => id), fun i hi => by obtain ⟨cur, hc⟩ := owns_block HO3.out hi; exact lt_of_block hc, HK3.out.trans kw, by omega⟩
  have HS := Lib.hid (show w.heap.size ≤ w3.heap.size by omega)
  have hrd0 := rd_litU (w3.alloc (.cells #[.slice none 0 0, .int .i64 0] 56)) ubHead 5 (8, 9) (by decide)
  rw [World.size_alloc] at hrd0
  clear HB3 HO3 HK3 hs1' hs2 hs3 kw
  have U0 := Lib.hid (U0.out.same (w' := (w3.alloc (.cells #[.slice none 0 0, .int .i64 0] 56)).alloc (.cells (ubHead.map vb).toArray 5 (8, 9))) ((Keep.refl _ _).alloc _))
  obtain ⟨v0, hv0⟩ := U0.out.wrt
  have HV0 := Lib.hid hv0
  clear hv0
  refine (rraw_any w3.heap.size _ _ w3.heap.size v0 _ ubHead 0 HV0.out hrd0 (Nat.le_trans (ubS_len HP.out HSU.out (k := 0) (by omega)) (by omega)) (by decide)).mono ?_
  rintro e w5 h1
  rw [show (ubHead, (0 : Int)) = (ubW u 0, 0) from rfl, ub_wst HP.out HSU.out (by omega)] at h1
  have U1 := Lib.hid (U0.out.next HV0.out h1)
  obtain rfl := h1.1
  clear h1 U0 HV0 kc kd hrd0
  have H2 := Lib.hid (show w3.heap.size + 1 ≤ w5.heap.size from by obtain ⟨v, hv⟩ := U1.out.wrt; have := lt_of_block hv.blk; omega)
  have RD := Lib.hid (ub_poolrd HP.out HSU.out (U1.out.same (w' := w5.alloc (.cells #[] 5)) ((Keep.refl _ _).alloc _)).blk)
  rw [HP.out] at RD
  go_wp2_with (at_builtin; refine wpList_append_rd rfl (.tmp 24) (.tmp 26) 32 rfl w5.heap.size 5 _ 1 1 Tryz.underlying32 infoU8 rfl (by omega) _ 0 [] rfl (World.ownsRow_made w5 #[] 0 (Nat.le_refl _) (by unfold maxLen; omega) (by simp)) _ 32 (u.pool.map vb) rfl RD.out (oneCell_vb _) (by unfold maxLen; omega) (by omega) (by simp) ?_; intro v' w6 hown6 hk6 hnil hat; obtain ⟨a6, c6, rfl, -, -⟩ := (Rd.of_owns hown6).form; have HR6 := Lib.hid (Rd.of_owns hown6); have HK6 := Lib.hid (hk6.new_any); clear hown6 hk6 hnil hat)
  have U1 := Lib.hid (U1.out.same HK6.out)
  have hr6 : Rd w6 1 (.slice a6 (0 + 32) c6) u.pool.length (u.pool.map vb) := by rw [HP.out]; simpa using HR6.out
  obtain ⟨v1, hv1⟩ := U1.out.wrt
  have HV1 := Lib.hid hv1
  clear hv1
  refine (rraw_any w3.heap.size w6 _ w3.heap.size v1 _ u.pool 0 HV1.out hr6 (Nat.le_trans (ubS_len HP.out HSU.out (k := 1) (by omega)) (by omega)) (by rw [HP.out]; omega)).mono ?_
  rintro e w7 h1
  rw [show (u.pool, (0 : Int)) = (ubW u 1, 0) from rfl, ub_wst HP.out HSU.out (by omega)] at h1
  have U2 := Lib.hid (U1.out.next HV1.out h1)
  obtain rfl := h1.1
  clear h1 U1 HV1 hr6 HR6 HK6 RD H2
  obtain ⟨v2, hv2⟩ := U2.out.wrt
  have HV2 := Lib.hid hv2
  clear hv2
  obtain ⟨c0, -, c2, -⟩ := ub_mem HSU.out (rangeAt_whole U2.out.blk)
  simp only [Nat.zero_add] at c0 c2
  go_wp2_with fail
  refine (rnum_any w3.heap.size u.txg 5 _ w3.heap.size v2 _ 0 HV2.out (Nat.le_trans (ubS_len HP.out HSU.out (k := 2) (by omega)) (by omega))).mono ?_
  rintro e w8 h1
  rw [ub_num5 HM.out, ub_wst HP.out HSU.out (by omega)] at h1
  have U3 := Lib.hid (U2.out.next HV2.out h1)
  obtain rfl := h1.1
  clear h1 U2 HV2 c0 c2
  obtain ⟨v3, hv3⟩ := U3.out.wrt
  have HV3 := Lib.hid hv3
  clear hv3
  obtain ⟨c0, -, c2, -⟩ := ub_mem HSU.out (rangeAt_whole U3.out.blk)
  simp only [Nat.zero_add] at c0 c2
  go_wp2_with fail
  refine (rnum_any w3.heap.size u.len 3 _ w3.heap.size v3 _ 0 HV3.out (Nat.le_trans (ubS_len HP.out HSU.out (k := 3) (by omega)) (by omega))).mono ?_
  rintro e w9 h1
  rw [ub_num3 HM.out, ub_wst HP.out HSU.out (by omega)] at h1
  have U4 := Lib.hid (U3.out.next HV3.out h1)
  obtain rfl := h1.1
  clear h1 U3 HV3 c0 c2
  obtain ⟨v4, hv4⟩ := U4.out.wrt
  have HV4 := Lib.hid hv4
  clear hv4
  go_wp2_with fail
  refine (rraw_any w3.heap.size _ _ w3.heap.size v4 _ (ptBytes u.root) 0 HV4.out U4.out.rd (Nat.le_trans (ubS_len HP.out HSU.out (k := 4) (by omega)) (by omega)) (by rw [HPL.out]; omega)).mono ?_
  rintro e w10 h1
  rw [show (ptBytes u.root, (0 : Int)) = (ubW u 4, 0) from rfl, ub_wst HP.out HSU.out (by omega)] at h1
  have U5 := Lib.hid (U4.out.next HV4.out h1)
  obtain rfl := h1.1
  clear h1 U4 HV4 
  obtain ⟨v5, hv5⟩ := U5.out.wrt
  have HV5 := Lib.hid hv5
  clear hv5
  go_wp2_with fail
  refine (rpad_any w3.heap.size 224 _ w3.heap.size v5 _ 0 HV5.out (Nat.le_trans (ubS_len HP.out HSU.out (k := 5) (by omega)) (by omega))).mono ?_
  rintro e w11 h1
  rw [ub_pad HP.out HSU.out, ub_wst HP.out HSU.out (by omega)] at h1
  have U6 := Lib.hid (U5.out.next HV5.out h1)
  obtain rfl := h1.1
  clear h1 U5 HV5 
  obtain ⟨v6, hv6⟩ := U6.out.wrt
  have hv6 : RW w11 w3.heap.size w3.heap.size v6 (ubBody u) 0 := hv6
  have HBL := Lib.hid (ubBody_len HP.out HSU.out)
  have hrd := Rd.of_owns hv6.own
  obtain ⟨a8, cp8, rfl, -, -⟩ := hrd.form
  obtain ⟨cp0, cp1, cpf⟩ := hv6.cells
  have HV8 := Lib.hid hv6; have HRD := Lib.hid hrd; clear hv6 hrd
  go_wp2_with fail
  refine (rsum_any _ (ubBody u) w11 HRD.out (by rw [HBL.out]; omega)).mono ?_
  rintro e w12 ⟨rfl, hk12⟩
  obtain ⟨ds, hds⟩ : ∃ ds, (digest (ubBody u)).map vb = ds := ⟨_, rfl⟩
  have hdl : ds.length = 32 := by rw [← hds]; simp [digest_length]
  have hdo : ∀ u ∈ ds, u.oneCell' = true := by rw [← hds]; exact oneCell_vb _
  rw [hds]
  have HDS := Lib.hid hds; have HK12 := Lib.hid hk12
  clear hds hk12 cp0 cp1 cpf
  go_wp2_with (first
    | (refine wpList_alloc_at rfl 24 rfl zero32 zeroID (Array.replicate 32 (.int .u8 0)) rfl ?_)
    | ((with_reducible show wpList _ _ _ (⟨none, .store 24 (.tmp 7) (.tmp 46), _, _, _, _⟩ :: _) _ _); refine wpList_store_agg rfl 24 (.tmp 7) (.tmp 46) rfl w12.heap.size 0 ds rfl rfl _ _ (heap_alloc_new _ _) (by rw [hdl]; simp) (by rw [hdl]; exact sizeID) hdo ?_; intro w13 hb13 hk13; have HAP := Lib.hid (dig_appU HV8.out.own HK12.out hb13 hk13 hdl); have HRD2 := Lib.hid (HAP.out.2.1.keep ((Keep.refl noBlk w13).alloc (.cells #[] 5)) fun _ _ => id); clear hb13 hk13)
    | (at_builtin; refine wpList_append_rd rfl (.tmp 48) (.tmp 49) 32 rfl w13.heap.size 5 _ 1 1 Tryz.underlying32 infoU8 rfl (by omega) _ 0 [] rfl (World.ownsRow_made w13 #[] 0 (Nat.le_refl _) (by unfold maxLen; omega) (by simp)) _ 32 ds rfl HRD2.out hdo (by unfold maxLen; omega) (by omega) (by simp) ?_; intro v' w14 hown14 hk14 hnil hat; obtain ⟨a14, c14, rfl, -, -⟩ := (Rd.of_owns hown14).form; have HR14 := Lib.hid (Rd.of_owns hown14); have HK14 := Lib.hid (hk14.new_any); clear hown14 hk14 hnil hat))
  have K14 : Keep noBlk w11 w14 := HAP.out.2.2.trans HK14.out
  have hv14 := HV8.out.keep K14 id (fun _ _ => id)
  have hr14 : Rd w14 1 (.slice a14 (0 + 32) c14) (digest (ubBody u)).length ((digest (ubBody u)).map vb) := by rw [digest_length, HDS.out]; simpa using HR14.out
  refine (rraw_any w3.heap.size w14 _ w3.heap.size _ _ (digest (ubBody u)) 0 hv14 hr14 (by rw [HBL.out]; omega) (by rw [digest_length]; omega)).mono ?_
  rintro e w15 h1
  rw [wst_ok _ _ (by rw [HBL.out, digest_length]; omega)] at h1
  obtain ⟨v15, hv15, hk15, -⟩ := h1.2
  have hkeep := (U6.out.keep.trans K14).trans' hk15 (fun _ _ h => h) (fun i hi h3 => rw_keepU hv14 hk15 i (by have := U6.out.le; omega) h3)
  obtain rfl := h1.1
  have HV15 := Lib.hid hv15; have HKE := Lib.hid hkeep
  clear K14 hv14 hr14 hv15 hk15 hkeep HR14 HK14 HAP HRD2 HV8 HRD U6 HK12
  go_wp2_with fail
  refine (rout_any w3.heap.size w15 w3.heap.size v15 _ 0 HV15.out (by simp only [List.length_append]; rw [HBL.out, digest_length]; omega)).mono ?_
  rintro e w16 ⟨v16, rfl, hown, hk16⟩
  rw [if_pos rfl] at hown
  obtain ⟨a16, c16, rfl, -, -⟩ := (Rd.of_owns hown).form
  have HO := Lib.hid hown; have HK16 := Lib.hid hk16
  clear hown hk16
  go_wp2_with fail
  go_ret2
  have hpk : packU u = ubBody u ++ digest (ubBody u) := by unfold packU; rw [HM.out]; rfl
  refine ⟨_, by rw [HM.out]; rfl, ?_, HKE.out.trans HK16.out⟩
  have ho := ownsRow_mono HO.out HKE.out.size
  rw [hpk]
  rw [List.length_append] at ho ⊢
  exact ho
theorem rupack_any (w : World) (v : Value) (u : Ub) (h0 : UbV w v u) : Calls Tryz.prog 8 #[.agg (ubCs v u).toArray] w (UPackPost w u) := by
  rcases hm : u.may with _ | _
  · exact rupack_no w v u h0 hm
  · exact rupack_yes w v u h0 hm

end Go.Proofs.YtpkpopgcfgonoaaGreatDoor
