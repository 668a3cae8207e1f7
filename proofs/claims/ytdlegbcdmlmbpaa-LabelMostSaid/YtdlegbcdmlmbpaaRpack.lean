/-
  The reference's Pack (caulkerref08.Pack): the same sector as the program's.
  Conditions: the bounds on sizes that each theorem names.
-/
import Derived.Test.YtdlegbcdmlmbpaaPack2
import Derived.Test.YtdlegbcdmlmbpaaRsum
import Derived.Test.YtdlegbcdmlmbpaaRef01
import Derived.Outline
namespace Go.Proofs.Ytdlegbcdmlmbpaa
open Go.RowKit
set_option maxRecDepth 100000

theorem bytes_const_at {P : Program} (w : World) (t e : TypeId) (C : Array Value) (n c g : Nat) (hg : g = w.heap.size) (ht : P.underlying t = some (.slice e)) (he : P.underlying e = some (.int .u8)) :
    (convert t t (.slice (some ⟨g, 0, none⟩) n c)).run P (w.alloc (.cells C e)) = .ok (.slice (some ⟨g, 0, none⟩) n c) (w.alloc (.cells C e (C.size, C.size + 1))) := by
  subst hg; exact Lib.run_convert_bytes_const w t e C n c ht he

/-- The label and the reference's writer, behind k writes. -/
structure RkW (w wr : World) (L : Lab) (b1 p k : Nat) : Prop where
  pool : L.pool.length = 32
  lab : wr.heap[b1]? = some (.cells L.cells.toArray 25 (0, 0))
  pk : ∃ v, RW wr p p v (labS L k).1 (labS L k).2
  keep : Keep noBlk w wr
  le : w.heap.size ≤ p

theorem RkW.cells {w wr : World} {L : Lab} {b1 p k : Nat} (h : RkW w wr L b1 p k) :
    wr.cell? ⟨b1, 32, none⟩ = some (.int .i64 L.dev) ∧ wr.cell? ⟨b1, 33, none⟩ = some (.int .i64 L.devs) ∧ wr.cell? ⟨b1, 34, none⟩ = some (.int .i64 L.copies) ∧
    wr.cell? ⟨b1, 35, none⟩ = some (.int .i64 L.sectors) ∧ wr.cell? ⟨b1, 36, none⟩ = some (.int .i64 L.life) := by
  obtain ⟨c0, c1, c2, c3, c4⟩ := L.at h.pool
  exact ⟨blk_cell h.lab c0, blk_cell h.lab c1, blk_cell h.lab c2, blk_cell h.lab c3, blk_cell h.lab c4⟩
theorem RkW.same {w wr w' : World} {L : Lab} {b1 p k : Nat} (h : RkW w wr L b1 p k) (hk : Keep noBlk wr w') : RkW w w' L b1 p k :=
  ⟨h.pool, hk.blk h.lab id, by obtain ⟨v, hv⟩ := h.pk; exact ⟨v, hv.keep hk id (fun _ _ => id)⟩, h.keep.trans hk, h.le⟩
theorem RkW.rd {w wr : World} {L : Lab} {b1 p k : Nat} (h : RkW w wr L b1 p k) : Rd wr 1 (.slice (some ⟨b1, 0, none⟩) 32 32) 32 (L.pool.map vb) := by
  refine ⟨by simp [h.pool], _, 32, rfl, Nat.le_refl _, by unfold maxLen; omega, (by intro h; cases h), fun _ => ⟨b1, 0, rfl, fun i u hu => ?_⟩⟩
  have hi : i < 32 := by
    rw [← h.pool]
    have := (List.getElem?_eq_some_iff.1 hu).1
    simpa using this
  rw [Nat.zero_add]
  exact blk_cell h.lab (by rw [List.getElem?_toArray, L.cells_pool h.pool i hi]; exact hu)
theorem RPost.end {w : World} {base p : Nat} {v : Value} {r : List UInt8 × Int} {e : Ending} {w' : World} (h : RPost w base p v r e w') : e = .returned (.tuple #[]) ∧ Hid (RPost w base p v r (.returned (.tuple #[])) w') :=
  ⟨h.1, Lib.hid ⟨rfl, h.2⟩⟩
/-- What a write keeps of what is no writer's and no bytes. -/
theorem rw_keep {w w' : World} {p : Nat} {v : Value} {l : List UInt8} {er : Int} (hv : RW w p p v l er) (hk : Keep (fun k => k = p ∨ v.ownBlock = some k) w w') {i : Nat} {cs : Array Value} {t : TypeId} {fr : Nat × Nat}
    (hi : w.heap[i]? = some (.cells cs t fr)) (h1 : t ≠ 5) (h2 : t ≠ 59) : w'.heap[i]? = some (.cells cs t fr) := by
  refine hk.blk hi ?_
  rintro (rfl | h3)
  · rw [hv.blk] at hi; cases hi; exact h2 rfl
  · obtain ⟨cur, hc⟩ := owns_block hv.own h3
    rw [hc] at hi; cases hi; exact h1 rfl
theorem rw_below {w0 w w' : World} {p : Nat} {v : Value} {l : List UInt8} {er : Int} (hv : RW w p p v l er) (h0 : Keep noBlk w0 w) (hk : Keep (fun k => k = p ∨ v.ownBlock = some k) w w') (hle : w0.heap.size ≤ p) : Keep noBlk w0 w' := by
  refine h0.trans' hk (fun _ _ h => h) (fun i hi h3 => ?_)
  rcases h3 with rfl | h3
  · omega
  · have := owns_ge hv.own h3; omega
theorem RkW.next {w wr w2 : World} {L : Lab} {b1 p k : Nat} {v : Value} (h : RkW w wr L b1 p k) (hv : RW wr p p v (labS L k).1 (labS L k).2) {e : Ending}
    (hp : RPost wr p p v (labS L (k + 1)) e w2) : RkW w w2 L b1 p (k + 1) := by
  obtain ⟨-, v', hw', hk, -⟩ := hp
  exact ⟨h.pool, rw_keep hv hk h.lab (by decide) (by decide), ⟨v', hw'⟩, rw_below hv h.keep hk h.le, h.le⟩

set_option maxHeartbeats 1000000 in
theorem rpack_no (L : Lab) (hl : L.pool.length = 32) (hm : L.may = false) (w : World) :
    Calls Try.prog 11 #[.agg L.cells.toArray] w (PackPost w L) := by
  have C := Lib.hid (rcheck_any L hl (w.alloc (.cells L.cells.toArray 25)))
  have HM := Lib.hid hm; clear hm
  obtain ⟨cs, hcs⟩ : ∃ cs, L.cells = cs := ⟨_, rfl⟩
  have hlen : cs.length = 37 := by rw [← hcs]; exact L.cells_length hl
  rw [hcs] at C ⊢
  have HCS := Lib.hid hcs; clear hcs
  go_enter Try.func11, Try.ntmps11
  go_wp2_with (first
    | ((with_reducible show wpList _ _ _ (⟨some 6, .load 25 (.tmp 1), _, _, _, _⟩ :: _) _ _); refine wpList_load_mid rfl 25 (.tmp 1) rfl w.heap.size 0 rfl cs _ (rangeAt_whole (heap_alloc_new _ _)) Try.underlying25 rfl (by rw [hlen]; exact sizeLab) ?_))
  refine C.out.mono ?_
  rintro e w1 ⟨rfl, rfl⟩
  rw [HM.out]
  go_wp2_with fail
  go_ret2
  refine ⟨_, by rw [HM.out]; rfl, ?_, (((Keep.refl _ _).alloc _).alloc _)⟩
  rw [show packB L = [] by unfold packB; rw [HM.out]; rfl]
  exact World.ownsRow_nil _ _ _ _

set_option maxHeartbeats 4000000 in
theorem rpack_yes (L : Lab) (hl : L.pool.length = 32) (hm : L.may = true) (w : World) :
    Calls Try.prog 11 #[.agg L.cells.toArray] w (PackPost w L) := by
  have C := Lib.hid (rcheck_any L hl (w.alloc (.cells L.cells.toArray 25)))
  have HM := Lib.hid hm; clear hm
  obtain ⟨cs, hcs⟩ : ∃ cs, L.cells = cs := ⟨_, rfl⟩
  have hlen : cs.length = 37 := by rw [← hcs]; exact L.cells_length hl
  rw [hcs] at C ⊢
  have HCS := Lib.hid hcs; clear hcs
  go_enter Try.func11, Try.ntmps11
  go_wp2_with (first
    | ((with_reducible show wpList _ _ _ (⟨some 6, .load 25 (.tmp 1), _, _, _, _⟩ :: _) _ _); refine wpList_load_mid rfl 25 (.tmp 1) rfl w.heap.size 0 rfl cs _ (rangeAt_whole (heap_alloc_new _ _)) Try.underlying25 rfl (by rw [hlen]; exact sizeLab) ?_))
  refine C.out.mono ?_
  rintro e w1 ⟨rfl, rfl⟩
  rw [HM.out]
  have kc := fun (w : World) (C : Array Value) (n c : Nat) => Lib.run_convert_bytes_const (P := Try.prog) w 26 5 C n c Try.underlying26 Try.underlying5
  have kd := fun (w : World) (C : Array Value) (n c g : Nat) (h : g = w.heap.size) => bytes_const_at (P := Try.prog) w 26 5 C n c g h Try.underlying26 Try.underlying5
  obtain ⟨w1, hw1, HLAB, HKW⟩ : ∃ w1, (w.alloc (.cells cs.toArray 25)).alloc (.cells cs.toArray 25) = w1 ∧ Hid (w1.heap[w.heap.size]? = some (.cells cs.toArray 25 (0, 0))) ∧ Hid (Keep noBlk w w1) :=
    ⟨_, rfl, Lib.hid (heap_alloc2_old _ _ _), Lib.hid (((Keep.refl _ _).alloc _).alloc _)⟩
  rw [hw1]
  have hws : w.heap.size ≤ w1.heap.size := HKW.out.size
  clear hw1 C
  go_wp2_with fail
  have R0 : RkW w (w1.alloc (.cells #[.slice none 0 0, .int .i64 0] 59)) L w.heap.size w1.heap.size 0 :=
    ⟨hl, by rw [HCS.out]; exact (((Keep.refl noBlk w1).alloc _).blk HLAB.out id), ⟨.slice none 0 0, heap_alloc_new _ _, World.ownsRow_nil _ _ _ _, by simp [Value.ownBlock], Nat.le_refl _⟩, HKW.out.trans ((Keep.refl _ _).alloc _), hws⟩
  have R0' := R0.same (w' := (w1.alloc (.cells #[.slice none 0 0, .int .i64 0] 59)).alloc (.cells (labHead.map vb).toArray 5 (8, 9))) ((Keep.refl _ _).alloc _)
  obtain ⟨v0, hv0⟩ := R0'.pk
  have hrd0 := rd_lit (w1.alloc (.cells #[.slice none 0 0, .int .i64 0] 59)) labHead 5 (8, 9) (by decide)
  rw [World.size_alloc] at hrd0
  refine (rraw_any w1.heap.size _ _ w1.heap.size v0 _ labHead _ hv0 hrd0 (labS_len L 0) (by decide)).mono ?_
  rintro e w2 h1
  have R1 := Lib.hid (R0'.next hv0 h1)
  obtain ⟨rfl, -⟩ := h1.end
  clear R0 R0' hv0 hrd0 HLAB HKW kc kd
  have H2 := Lib.hid (show w1.heap.size + 1 ≤ w2.heap.size from by have := (R1.out).keep.size; obtain ⟨v, hv⟩ := R1.out.pk; have := lt_of_block hv.blk; omega)
  have RD := Lib.hid ((R1.out.same (w' := w2.alloc (.cells #[] 5)) ((Keep.refl _ _).alloc _)).rd)
  go_wp2_with (at_builtin; refine wpList_append_rd rfl (.tmp 16) (.tmp 18) 26 rfl w2.heap.size 5 _ 1 1 Try.underlying26 infoU8 rfl (by omega) _ 0 [] rfl (World.ownsRow_made w2 #[] 0 (Nat.le_refl _) (by unfold maxLen; omega) (by simp)) _ 32 (L.pool.map vb) rfl RD.out (oneCell_vb _) (by unfold maxLen; omega) (by omega) (by simp) ?_; intro v' w3 hown3 hk3 hnil hat; obtain ⟨a3, c3, rfl, -, -⟩ := (Rd.of_owns hown3).form; have HR3 := Lib.hid (Rd.of_owns hown3); have HK3 := Lib.hid (hk3.new_any); clear hown3 hk3 hnil hat)
  have R1' := R1.out.same HK3.out
  obtain ⟨v1, hv1⟩ := R1'.pk
  have hr3 : Rd w3 1 (.slice a3 (0 + 32) c3) L.pool.length (L.pool.map vb) := by rw [hl]; simpa using HR3.out
  refine (rraw_any w1.heap.size _ _ w1.heap.size v1 _ L.pool _ hv1 hr3 (labS_len L 1) (by rw [hl]; omega)).mono ?_
  rintro e w4 h1
  have R2 := Lib.hid (R1'.next hv1 h1)
  obtain ⟨rfl, -⟩ := h1.end
  clear R1 R1' hv1 hr3 HR3 HK3 RD H2
  obtain ⟨v2, hv2⟩ := R2.out.pk
  obtain ⟨c0, c1, c2, c3, c4⟩ := R2.out.cells
  have HV2 := Lib.hid hv2; clear hv2
  go_wp2_with fail
  refine (rnum_any w1.heap.size L.dev 1 _ w1.heap.size v2 _ _ HV2.out (labS_len L 2)).mono ?_
  rintro e w5 h1
  have R3 := Lib.hid (R2.out.next HV2.out h1)
  obtain ⟨rfl, -⟩ := h1.end
  clear R2 HV2 c0 c1 c2 c3 c4
  obtain ⟨v3, hv3⟩ := R3.out.pk
  obtain ⟨c0, c1, c2, c3, c4⟩ := R3.out.cells
  have HV3 := Lib.hid hv3; clear hv3
  go_wp2_with fail
  refine (rnum_any w1.heap.size L.devs 1 _ w1.heap.size v3 _ _ HV3.out (labS_len L 3)).mono ?_
  rintro e w6 h1
  have R4 := Lib.hid (R3.out.next HV3.out h1)
  obtain ⟨rfl, -⟩ := h1.end
  clear R3 HV3 c0 c1 c2 c3 c4
  obtain ⟨v4, hv4⟩ := R4.out.pk
  obtain ⟨c0, c1, c2, c3, c4⟩ := R4.out.cells
  have HV4 := Lib.hid hv4; clear hv4
  go_wp2_with fail
  refine (rnum_any w1.heap.size L.copies 1 _ w1.heap.size v4 _ _ HV4.out (labS_len L 4)).mono ?_
  rintro e w7 h1
  have R5 := Lib.hid (R4.out.next HV4.out h1)
  obtain ⟨rfl, -⟩ := h1.end
  clear R4 HV4 c0 c1 c2 c3 c4
  obtain ⟨v5, hv5⟩ := R5.out.pk
  obtain ⟨c0, c1, c2, c3, c4⟩ := R5.out.cells
  have HV5 := Lib.hid hv5; clear hv5
  go_wp2_with fail
  refine (rnum_any w1.heap.size L.sectors 2 _ w1.heap.size v5 _ _ HV5.out (labS_len L 5)).mono ?_
  rintro e w8 h1
  have R6 := Lib.hid (R5.out.next HV5.out h1)
  obtain ⟨rfl, -⟩ := h1.end
  clear R5 HV5 c0 c1 c2 c3 c4
  obtain ⟨v6, hv6⟩ := R6.out.pk
  obtain ⟨c0, c1, c2, c3, c4⟩ := R6.out.cells
  have HV6 := Lib.hid hv6; clear hv6
  go_wp2_with fail
  refine (rnum_any w1.heap.size L.life 5 _ w1.heap.size v6 _ _ HV6.out (labS_len L 6)).mono ?_
  rintro e w9 h1
  have R7 := Lib.hid (R6.out.next HV6.out h1)
  obtain ⟨rfl, -⟩ := h1.end
  clear R6 HV6 c0 c1 c2 c3 c4
  obtain ⟨v7, hv7⟩ := R7.out.pk
  have HV7 := Lib.hid hv7; clear hv7
  go_wp2_with fail
  refine (rpad_any w1.heap.size 224 _ w1.heap.size v7 _ _ HV7.out (labS_len L 7)).mono ?_
  rintro e w10 h1
  have R8 := Lib.hid (R7.out.next HV7.out h1)
  obtain ⟨rfl, -⟩ := h1.end
  clear R7 HV7
  obtain ⟨v8, hv8⟩ := R8.out.pk
  rw [labS_ok L hl HM.out] at hv8
  have HBL := Lib.hid (labBody_length L hl)
  have hrd := Rd.of_owns hv8.own
  obtain ⟨a8, cp8, rfl, -, -⟩ := hrd.form
  obtain ⟨cp0, cp1, cpf⟩ := hv8.cells
  have HV8 := Lib.hid hv8; have HRD := Lib.hid hrd; clear hv8 hrd
  go_wp2_with fail
  refine (rsum_any _ (labBody L) w10 HRD.out (by rw [HBL.out]; omega)).mono ?_
  rintro e w11 ⟨rfl, hk11⟩
  obtain ⟨ds, hds⟩ : ∃ ds, (digest (labBody L)).map vb = ds := ⟨_, rfl⟩
  have hdl : ds.length = 32 := by rw [← hds]; simp [digest_length]
  have hdo : ∀ u ∈ ds, u.oneCell' = true := by rw [← hds]; exact oneCell_vb _
  rw [hds]
  have HDS := Lib.hid hds; have HK11 := Lib.hid hk11
  clear hds hk11 cp0 cp1 cpf
  go_wp2_with (first
    | (refine wpList_alloc_at rfl 23 rfl zero32 zeroID (Array.replicate 32 (.int .u8 0)) rfl ?_)
    | ((with_reducible show wpList _ _ _ (⟨none, .store 23 (.tmp 5) (.tmp 47), _, _, _, _⟩ :: _) _ _); refine wpList_store_agg rfl 23 (.tmp 5) (.tmp 47) rfl w11.heap.size 0 ds rfl rfl _ _ (heap_alloc_new _ _) (by rw [hdl]; simp) (by rw [hdl]; exact sizeID) hdo ?_; intro w12 hb12 hk12; have HAP := Lib.hid (dig_app HV8.out.own HK11.out hb12 hk12 hdl); have HRD2 := Lib.hid (HAP.out.2.1.keep ((Keep.refl noBlk w12).alloc (.cells #[] 5)) fun _ _ => id); clear hb12 hk12)
    | (at_builtin; refine wpList_append_rd rfl (.tmp 49) (.tmp 50) 26 rfl w12.heap.size 5 _ 1 1 Try.underlying26 infoU8 rfl (by omega) _ 0 [] rfl (World.ownsRow_made w12 #[] 0 (Nat.le_refl _) (by unfold maxLen; omega) (by simp)) _ 32 ds rfl HRD2.out hdo (by unfold maxLen; omega) (by omega) (by simp) ?_; intro v' w13 hown13 hk13 hnil hat; obtain ⟨a13, c13, rfl, -, -⟩ := (Rd.of_owns hown13).form; have HR13 := Lib.hid (Rd.of_owns hown13); have HK13 := Lib.hid (hk13.new_any); clear hown13 hk13 hnil hat))
  have K13 : Keep noBlk w10 w13 := HAP.out.2.2.trans HK13.out
  have hv13 := HV8.out.keep K13 id (fun _ _ => id)
  have hr13 : Rd w13 1 (.slice a13 (0 + 32) c13) (digest (labBody L)).length ((digest (labBody L)).map vb) := by rw [digest_length, HDS.out]; simpa using HR13.out
  refine (rraw_any w1.heap.size _ _ w1.heap.size _ _ (digest (labBody L)) _ hv13 hr13 (by rw [HBL.out]; omega) (by rw [digest_length]; omega)).mono ?_
  rintro e w14 h1
  rw [wst_ok _ _ (by rw [HBL.out, digest_length]; omega)] at h1
  obtain ⟨v14, hv14, hk14, -⟩ := h1.2
  have hkeep := rw_below hv13 (R8.out.keep.trans K13) hk14 R8.out.le
  obtain ⟨rfl, -⟩ := h1.end
  have HV14 := Lib.hid hv14; have HKE := Lib.hid hkeep
  clear K13 hv13 hr13 hv14 hk14 hkeep HR13 HK13 HAP HRD2 HV8 HRD R8 HK11
  go_wp2_with fail
  refine (rout_any w1.heap.size w14 w1.heap.size v14 _ 0 HV14.out (by simp only [List.length_append]; rw [HBL.out, digest_length]; omega)).mono ?_
  rintro e w15 ⟨v15, rfl, hown, hk15⟩
  rw [if_pos rfl] at hown
  obtain ⟨a15, c15, rfl, -, -⟩ := (Rd.of_owns hown).form
  have HO := Lib.hid hown; have HK15 := Lib.hid hk15
  clear hown hk15
  go_wp2_with fail
  go_ret2
  have hpk : packB L = labBody L ++ digest (labBody L) := by unfold packB; rw [HM.out]; rfl
  refine ⟨_, by rw [HM.out]; rfl, ?_, HKE.out.trans HK15.out⟩
  have ho := ownsRow_mono HO.out HKE.out.size
  rw [hpk]
  rw [List.length_append] at ho ⊢
  exact ho
theorem rpack_any (L : Lab) (hl : L.pool.length = 32) (w : World) : Calls Try.prog 11 #[.agg L.cells.toArray] w (PackPost w L) := by
  rcases hm : L.may with _ | _
  · exact rpack_no L hl hm w
  · exact rpack_yes L hl hm w
end Go.Proofs.Ytdlegbcdmlmbpaa
