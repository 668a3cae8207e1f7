/-
  LabelKnown: the chapter's examples are answered as it says.
  Conditions: none (a closed statement).
-/
import Derived.Test.YtdlegbcdmlmbpaaPool1
namespace Go.Proofs.Ytdlegbcdmlmbpaa
open Go.RowKit
set_option maxRecDepth 100000
set_option linter.unusedVariables false

def labA : Lab := { oneLab with dev := 3 }
def labB : Lab := { oneLab with copies := 4 }
def labC : Lab := { oneLab with sectors := 7 }
theorem labA_set : oneLab.cells.toArray.setIfInBounds 32 (.int .i64 3) = labA.cells.toArray := rfl
theorem labB_set : oneLab.cells.toArray.setIfInBounds 34 (.int .i64 4) = labB.cells.toArray := rfl
theorem labC_set : oneLab.cells.toArray.setIfInBounds 35 (.int .i64 7) = labC.cells.toArray := rfl
theorem labA_may : labA.may = false := by decide
theorem labB_may : labB.may = false := by decide
theorem labC_may : labC.may = false := by decide
theorem unpackR_zeros : unpackR (List.replicate 256 0) = (zeroLab, 6) := by
  unfold unpackR
  rw [if_neg (by simp), if_pos rfl]
theorem unpackR_nil : unpackR [] = (zeroLab, 4) := rfl
theorem ones_may : (labOf (List.replicate 256 1)).may = false := by decide +kernel
theorem unpackR_ones : unpackR (List.replicate 256 1) = (zeroLab, 11) := by
  unfold unpackR
  rw [if_neg (by simp), if_neg (by decide +kernel), if_neg]
  rw [ones_may]
  simp
theorem ones_step {n i : Nat} (h : i < n) : (List.replicate i (1 : UInt8) ++ List.replicate (n - i) 0).set i 1 = List.replicate (i + 1) 1 ++ List.replicate (n - (i + 1)) 0 := by
  apply List.ext_getElem?
  intro j
  rw [List.getElem?_set]
  simp only [List.length_append, List.length_replicate]
  by_cases hij : i = j
  · subst hij
    rw [if_pos rfl, if_pos (by omega), List.getElem?_append_left (by simp), List.getElem?_replicate, if_pos (by omega)]
  · rw [if_neg hij]
    by_cases hj : j < i
    · rw [List.getElem?_append_left (by simp; exact hj), List.getElem?_append_left (by simp; omega), List.getElem?_replicate, List.getElem?_replicate, if_pos hj, if_pos (by omega)]
    · rw [List.getElem?_append_right (by simp; omega), List.getElem?_append_right (by simp; omega), List.getElem?_replicate, List.getElem?_replicate]
      simp only [List.length_replicate]
      by_cases h2 : j < n
      · rw [if_pos (by omega), if_pos (by omega)]
      · rw [if_neg (by omega), if_neg (by omega)]

theorem known_stores (wf : World) (b : Nat) (lc : List Value) (hl : oneLab.cells = lc) (h1 : wf.heap[b]? = some (.cells lc.toArray 25 (0, 0))) (h2 : wf.heap[b + 1]? = some (.cells lc.toArray 25 (0, 0))) (h3 : wf.heap[b + 1 + 1]? = some (.cells lc.toArray 25 (0, 0))) :
    ∃ wg, ((wf.setCell ⟨b, 32, none⟩ (.int .i64 3)).setCell ⟨b + 1, 34, none⟩ (.int .i64 4)).setCell ⟨b + 1 + 1, 35, none⟩ (.int .i64 7) = wg ∧ wg.heap[b]? = some (.cells labA.cells.toArray 25 (0, 0)) ∧ wg.heap[b + 1]? = some (.cells labB.cells.toArray 25 (0, 0)) ∧
      wg.heap[b + 1 + 1]? = some (.cells labC.cells.toArray 25 (0, 0)) ∧ Keep (fun k => b ≤ k) wf wg := by
  subst hl
  have e1 := set_blk h1 32 (.int .i64 3)
  rw [labA_set] at e1
  have k1 : Keep (fun k => k = b) wf (wf.setCell ⟨b, 32, none⟩ (.int .i64 3)) := Keep.setCell (S := fun k => k = b) (p := ⟨b, 32, none⟩) (Keep.refl _ _) (fun _ => rfl) _
  have e2 := set_blk (k1.blk h2 (by omega)) 34 (.int .i64 4)
  rw [labB_set] at e2
  have k2 : Keep (fun k => k = b + 1) (wf.setCell ⟨b, 32, none⟩ (.int .i64 3)) ((wf.setCell ⟨b, 32, none⟩ (.int .i64 3)).setCell ⟨b + 1, 34, none⟩ (.int .i64 4)) := Keep.setCell (S := fun k => k = b + 1) (p := ⟨b + 1, 34, none⟩) (Keep.refl _ _) (fun _ => rfl) _
  have e3 := set_blk (k2.blk (k1.blk h3 (by omega)) (by omega)) 35 (.int .i64 7)
  rw [labC_set] at e3
  have k3 : Keep (fun k => k = b + 1 + 1) ((wf.setCell ⟨b, 32, none⟩ (.int .i64 3)).setCell ⟨b + 1, 34, none⟩ (.int .i64 4)) (((wf.setCell ⟨b, 32, none⟩ (.int .i64 3)).setCell ⟨b + 1, 34, none⟩ (.int .i64 4)).setCell ⟨b + 1 + 1, 35, none⟩ (.int .i64 7)) :=
    Keep.setCell (S := fun k => k = b + 1 + 1) (p := ⟨b + 1 + 1, 35, none⟩) (Keep.refl _ _) (fun _ => rfl) _
  exact ⟨_, rfl, k3.blk (k2.blk e1 (by omega)) (by omega), k3.blk e2 (by omega), e3, (k1.trans' k2 (U := fun k => b ≤ k) (fun i _ h => by omega) (fun i _ h => by omega)).trans' k3 (fun _ _ h => h) (fun i _ h => by omega)⟩
theorem check_keep (L : Lab) (hl : L.pool.length = 32) {lc : List Value} (h : L.cells = lc) {n : Int} (hn : (if L.may then 0 else 2) = n) (w : World) : Calls Try.prog 13 #[.agg lc.toArray] w (fun e w' => e = .returned (.int .i64 n) ∧ Keep noBlk w w') := by
  subst h; subst hn
  exact (check_any L hl w).mono fun e w' ⟨h1, h2⟩ => ⟨h1, by rw [← h2]; exact (Keep.refl _ _).alloc _⟩

theorem field_pool (L : Lab) (h : L.pool.length = 32) (w : World) : (Instr.field 25 (.agg L.cells.toArray) 0).run Try.prog w = .ok (.agg (L.pool.map vb).toArray) w := by
  have hf : (Instr.field 25 (.agg L.cells.toArray) 0).run Try.prog w = (part 23 L.cells.toArray 0).run Try.prog w := by kernel_rfl
  rw [hf, part_id, lab_extract L h]
theorem poolA_nil : poolA [] = (zeros, 0) := by simp [poolA, poolKeys, tally, sortL]

set_option maxHeartbeats 4000000 in
theorem labelKnown_walk (w : World) : Calls Try.prog 7 #[] w (TherePost w true) := by
  obtain ⟨lc, hlc, hlcl⟩ : ∃ lc, oneLab.cells = lc ∧ lc.length = 37 := ⟨_, rfl, rfl⟩
  have hlco : ∀ u ∈ lc, u.oneCell' = true := by rw [← hlc]; exact oneCell_lab oneLab
  obtain ⟨zc, hzc, hzl⟩ : ∃ zc, zeroLab.cells = zc ∧ zc.length = 37 := ⟨_, rfl, rfl⟩
  have hzco : ∀ u ∈ zc, u.oneCell' = true := by rw [← hzc]; exact oneCell_lab zeroLab
  have hzv : ∀ w, (zeroValue 25).run Try.prog w = .ok (.agg zc.toArray) w := fun w => by rw [← hzc]; exact zeroValLab w
  have hOne : ∀ w, Calls Try.prog 27 #[] w (fun e w' => e = .returned (.agg lc.toArray) ∧ Keep noBlk w w') := by rw [← hlc]; exact one_any
  have C1 := Lib.hid hOne
  have HZV := Lib.hid hzv; have HLCO := Lib.hid hlco; have HZCO := Lib.hid hzco; have HLC := Lib.hid hlc; have HZC := Lib.hid hzc
  have HLL := Lib.hid hlcl; have HZL := Lib.hid hzl
  have HSL : Hid ((Try.prog.info? 25).map (·.size) = some lc.length) := Lib.hid (by rw [hlcl]; exact sizeLab)
  have HSZ : Hid ((Try.prog.info? 25).map (·.size) = some zc.length) := Lib.hid (by rw [hzl]; exact sizeLab)
  obtain ⟨la, hla, hlal⟩ : ∃ la, labA.cells = la ∧ la.length = 37 := ⟨_, rfl, rfl⟩
  obtain ⟨lb, hlb, hlbl⟩ : ∃ lb, labB.cells = lb ∧ lb.length = 37 := ⟨_, rfl, rfl⟩
  obtain ⟨ld, hld, hldl⟩ : ∃ ld, labC.cells = ld ∧ ld.length = 37 := ⟨_, rfl, rfl⟩
  have CA := Lib.hid (check_keep labA onePool_len hla (n := 2) (by rw [labA_may]; rfl))
  have CB := Lib.hid (check_keep labB onePool_len hlb (n := 2) (by rw [labB_may]; rfl))
  have CC := Lib.hid (check_keep labC onePool_len hld (n := 2) (by rw [labC_may]; rfl))
  have CO := Lib.hid (check_keep oneLab onePool_len hlc (n := 0) (by rw [oneLab_may]; rfl))
  have HSA : Hid ((Try.prog.info? 25).map (·.size) = some la.length) := Lib.hid (by rw [hlal]; exact sizeLab)
  have HSB : Hid ((Try.prog.info? 25).map (·.size) = some lb.length) := Lib.hid (by rw [hlbl]; exact sizeLab)
  have HSD : Hid ((Try.prog.info? 25).map (·.size) = some ld.length) := Lib.hid (by rw [hldl]; exact sizeLab)
  have KST := Lib.hid known_stores
  rw [hla, hlb, hld] at KST
  clear hzv hlco hzco hlc hzc hOne hlcl hzl hla hlb hld hlal hlbl hldl
  go_enter Try.func7, Try.ntmps7
  go_wp2_with fail
  refine (C1.out _).mono ?_
  rintro e w1 ⟨rfl, hk1⟩
  go_wp2_with fail
  refine (C1.out _).mono ?_
  rintro e w2 ⟨rfl, hk2⟩
  go_wp2_with fail
  refine (C1.out _).mono ?_
  rintro e w3 ⟨rfl, hk3⟩
  have HK3 := Lib.hid ((hk1.trans hk2).trans hk3)
  clear hk1 hk2 hk3
  obtain ⟨wa, ha, ka, ba, sa⟩ := alloc_facts w3 zc.toArray 25
  obtain ⟨wb, hb, kb, bb, sb⟩ := alloc_facts wa zc.toArray 25
  obtain ⟨wc, hc, kc, bc, sc⟩ := alloc_facts wb zc.toArray 25
  rw [sb, sa] at bc
  rw [sa] at bb
  have HBA := Lib.hid (kc.blk (kb.blk ba id) id); have HBB := Lib.hid (kc.blk bb id); have HBC := Lib.hid bc
  have HKC := Lib.hid (((HK3.out.trans ka).trans kb).trans kc)
  have hsc : wc.heap.size = w3.heap.size + 3 := by omega
  clear ka kb kc ba bb bc
  go_wp2_with (first
    | ((with_reducible show wpList _ _ _ (⟨some 1, .alloc 25, _, _, _, _⟩ :: _) _ _); refine wpList_alloc_at rfl 25 rfl _ HZV.out zc.toArray rfl ?_; rw [ha])
    | ((with_reducible show wpList _ _ _ (⟨some 2, .alloc 25, _, _, _, _⟩ :: _) _ _); refine wpList_alloc_at rfl 25 rfl _ HZV.out zc.toArray rfl ?_; rw [hb, sa])
    | ((with_reducible show wpList _ _ _ (⟨some 3, .alloc 25, _, _, _, _⟩ :: _) _ _); refine wpList_alloc_at rfl 25 rfl _ HZV.out zc.toArray rfl ?_; rw [hc, sb, sa])
    | ((with_reducible show wpList _ _ _ (⟨none, .store 25 (.tmp 1) (.tmp 15), _, _, _, _⟩ :: _) _ _); refine wpList_store_agg rfl 25 (.tmp 1) (.tmp 15) rfl w3.heap.size 0 lc rfl rfl zc.toArray _ HBA.out (by rw [HLL.out, List.size_toArray, HZL.out]; exact Nat.le_refl _) HSL.out HLCO.out ?_
       intro wd hbd hkd
       rw [spl_whole _ _ (by rw [HLL.out, List.size_toArray, HZL.out])] at hbd
       have HD := Lib.hid hbd; have HKD := Lib.hid hkd; clear hbd hkd)
    | ((with_reducible show wpList _ _ _ (⟨none, .store 25 (.tmp 2) (.tmp 16), _, _, _, _⟩ :: _) _ _); refine wpList_store_agg rfl 25 (.tmp 2) (.tmp 16) rfl (w3.heap.size + 1) 0 lc rfl rfl zc.toArray _ (HKD.out.blk HBB.out (fun e => by have e' : w3.heap.size + 1 = w3.heap.size := e; omega)) (by rw [HLL.out, List.size_toArray, HZL.out]; exact Nat.le_refl _) HSL.out HLCO.out ?_
       intro we hbe hke
       rw [spl_whole _ _ (by rw [HLL.out, List.size_toArray, HZL.out])] at hbe
       have HE := Lib.hid hbe; have HKE := Lib.hid hke; clear hbe hke)
    | ((with_reducible show wpList _ _ _ (⟨none, .store 25 (.tmp 3) (.tmp 17), _, _, _, _⟩ :: _) _ _); refine wpList_store_agg rfl 25 (.tmp 3) (.tmp 17) rfl (w3.heap.size + 1 + 1) 0 lc rfl rfl zc.toArray _ (HKE.out.blk (HKD.out.blk HBC.out (fun e => by have e' : w3.heap.size + 1 + 1 = w3.heap.size := e; omega)) (fun e => by have e' : w3.heap.size + 1 + 1 = w3.heap.size + 1 := e; omega)) (by rw [HLL.out, List.size_toArray, HZL.out]; exact Nat.le_refl _) HSL.out HLCO.out ?_
       intro wf hbf hkf
       rw [spl_whole _ _ (by rw [HLL.out, List.size_toArray, HZL.out])] at hbf
       have h1 := hkf.blk (HKE.out.blk HD.out (fun e => by have e' : w3.heap.size = w3.heap.size + 1 := e; omega)) (fun e => by have e' : w3.heap.size = w3.heap.size + 1 + 1 := e; omega)
       have h2 := hkf.blk HE.out (fun e => by have e' : w3.heap.size + 1 = w3.heap.size + 1 + 1 := e; omega)
       have HF1 := Lib.hid h1; have HF2 := Lib.hid h2; have HF3 := Lib.hid hbf; have HKF := Lib.hid hkf; clear hbf hkf
       have q1 := blk_cell (i := 32) (v := .int .i64 1) h1 (by rw [← HLC.out]; rfl)
       have q2 := blk_cell (i := 34) (v := .int .i64 2) h2 (by rw [← HLC.out]; rfl)
       have q3 := blk_cell (i := 35) (v := .int .i64 300) HF3.out (by rw [← HLC.out]; rfl)
       have f1 := blk_free h1 32; have f2 := blk_free h2 34; have f3 := blk_free HF3.out 35
       clear h1 h2)
    | ((with_reducible show wpList _ _ _ (⟨some 21, .load 25 (.tmp 1), _, _, _, _⟩ :: _) _ _)
       obtain ⟨wg, hwg, g1, g2, g3, kg⟩ := KST.out _ _ _ HLC.out HF1.out HF2.out HF3.out
       rw [hwg]
       have HKG : Hid (Keep noBlk w wg) := Lib.hid ((HKC.out.trans' (((HKD.out.mono (T := fun k => w3.heap.size ≤ k) (fun k _ h => by omega)).trans (HKE.out.mono (fun k _ h => by omega))).trans (HKF.out.mono (fun k _ h => by omega))) (U := fun k => w3.heap.size ≤ k) (fun _ _ h => h.elim) (fun _ _ h => h)).trans' kg (fun i hi h => by have := HK3.out.size; omega) (fun i hi h => by have := HK3.out.size; omega))
       have G1 := Lib.hid g1; have G2 := Lib.hid g2; have G3 := Lib.hid g3
       clear hwg g1 g2 g3 kg q1 q2 q3 f1 f2 f3
       refine wpList_load_mid rfl 25 (.tmp 1) rfl w3.heap.size 0 rfl la _ (rangeAt_whole G1.out) Try.underlying25 rfl HSA.out ?_))
  refine (CA.out _).mono ?_
  rintro e w5 ⟨rfl, hk5⟩
  have HK5 := Lib.hid (HKG.out.trans hk5); have G25 := Lib.hid (hk5.blk G2.out id); have G35 := Lib.hid (hk5.blk G3.out id)
  clear hk5 G1 G2 G3 HKG
  go_wp2_with (refine wpList_load_g (by rfl) 25 (.tmp 2) rfl (w3.heap.size + 1) 0 rfl lb _ (rangeAt_whole G25.out) Try.underlying25 rfl HSB.out ?_)
  refine (CB.out _).mono ?_
  rintro e w6 ⟨rfl, hk6⟩
  have HK6 := Lib.hid (HK5.out.trans hk6); have G36 := Lib.hid (hk6.blk G35.out id)
  clear hk6 G25 G35 HK5
  go_wp2_with (refine wpList_load_g (by rfl) 25 (.tmp 3) rfl (w3.heap.size + 1 + 1) 0 rfl ld _ (rangeAt_whole G36.out) Try.underlying25 rfl HSD.out ?_)
  refine (CC.out _).mono ?_
  rintro e w7 ⟨rfl, hk7⟩
  have HK7 := Lib.hid (HK6.out.trans hk7)
  clear hk7 HK6 G36
  go_wp2_with fail
  refine (C1.out _).mono ?_
  rintro e w8 ⟨rfl, hk8⟩
  have HK8 := Lib.hid (HK7.out.trans hk8)
  clear hk8 HK7
  go_wp2_with fail
  refine (CO.out _).mono ?_
  rintro e w9 ⟨rfl, hk9⟩
  have HK9 := Lib.hid (HK8.out.trans hk9)
  clear hk9 HK8
  go_wp2_with (refine wpList_make_one rfl (.const (.int .i64 256)) (.const (.int .i64 256)) 26 rfl w9.heap.size 5 _ 1 Try.underlying26 infoU8 rfl 256 rfl rfl (by decide) (by decide) (Nat.le_refl _) ?_; intro w10 ho10 hk10; have HO10 := Lib.hid ho10; have HK10 := Lib.hid (HK9.out.trans hk10); clear ho10 hk10)
  have hz10 : Rd w10 1 (.slice (some ⟨w9.heap.size, 0, none⟩) 256 256) (List.replicate 256 (0 : UInt8)).length ((List.replicate 256 (0 : UInt8)).map vb) := by
    have := Rd.of_owns HO10.out
    rw [List.map_replicate, List.length_replicate]
    exact this
  have CZ := unpack_any w10 _ _ hz10 (by rw [List.length_replicate]; omega)
  rw [unpackR_zeros] at CZ
  have CZ' := Lib.hid CZ
  clear CZ hz10 HO10
  refine CZ'.out.mono ?_
  rintro e w11 ⟨rfl, hk11⟩
  rw [show (zeroLab, (6 : Int)).1.cells = zc from HZC.out]
  have HK11 := Lib.hid (HK10.out.trans hk11)
  clear hk11 CZ' HK10 HK9
  go_wp2_with (first
    | (refine wpList_alloc_at rfl 25 rfl _ HZV.out zc.toArray rfl ?_)
    | ((with_reducible show wpList _ _ _ (⟨none, .store 25 (.tmp 5) (.tmp 42), _, _, _, _⟩ :: _) _ _); refine wpList_store_agg rfl 25 (.tmp 5) (.tmp 42) rfl w11.heap.size 0 zc rfl rfl zc.toArray _ (heap_alloc_new _ _) (by rw [HZL.out, List.size_toArray, HZL.out]; exact Nat.le_refl _) HSZ.out HZCO.out ?_
       intro w12 hb12 hk12
       have HK12 := Lib.hid (HK11.out.trans (((Keep.refl noBlk w11).alloc _).trans' hk12 (fun _ _ h => h) (fun i hi e => by omega)))
       clear hb12 hk12))
  have CN := unpack_any w12 (.slice none 0 0) [] (Rd.nil _ _) (by simp)
  rw [unpackR_nil] at CN
  refine CN.mono ?_
  clear CN
  rintro e w13 ⟨rfl, hk13⟩
  rw [show (zeroLab, (4 : Int)).1.cells = zc from HZC.out]
  have HK13 := Lib.hid (HK12.out.trans hk13)
  clear hk13 HK12 HK11
  go_wp2_with (first
    | (refine wpList_alloc_at rfl 25 rfl _ HZV.out zc.toArray rfl ?_)
    | ((with_reducible show wpList _ _ _ (⟨none, .store 25 (.tmp 7) (.tmp 46), _, _, _, _⟩ :: _) _ _); refine wpList_store_agg rfl 25 (.tmp 7) (.tmp 46) rfl w13.heap.size 0 zc rfl rfl zc.toArray _ (heap_alloc_new _ _) (by rw [HZL.out, List.size_toArray, HZL.out]; exact Nat.le_refl _) HSZ.out HZCO.out ?_
       intro w14 hb14 hk14
       have HK14 := Lib.hid (HK13.out.trans (((Keep.refl noBlk w13).alloc _).trans' hk14 (fun _ _ h => h) (fun i hi e => by omega)))
       clear hb14 hk14)
    | (refine wpList_make_one rfl (.const (.int .i64 256)) (.const (.int .i64 256)) 26 rfl w14.heap.size 5 _ 1 Try.underlying26 infoU8 rfl 256 rfl rfl (by decide) (by decide) (Nat.le_refl _) ?_; intro w15 ho15 hk15; have HO15 := Lib.hid ho15; have HK15 := Lib.hid (HK14.out.trans hk15); have hg15 := hk15.size; clear ho15 hk15))
  obtain ⟨g, hg⟩ : ∃ g, w14.heap.size = g := ⟨_, rfl⟩
  have hwg : w.heap.size ≤ g := by have := HK14.out.size; omega
  have ho15 := HO15.out
  rw [hg] at ho15 ⊢
  have hb15 : w15.heap[g]? = some (.cells ((List.replicate 0 (1 : UInt8) ++ List.replicate (256 - 0) 0).map vb).toArray 5 (0, 0)) := by
    rcases ho15.2 with ⟨h, -⟩ | ⟨g', cap', cur, h, hb, hh, h1, h2, h3, h4⟩
    · cases h
    · cases h
      rw [hh]
      have : cur = ((List.replicate 0 (1 : UInt8) ++ List.replicate (256 - 0) 0).map vb).toArray := by
        apply Array.ext'
        rw [List.toList_toArray, ← List.take_of_length_le (l := cur.toList) (i := 256 * 1) (by simp [h3]), h4]
        simp [vb]
      rw [this]
  have HB15 := Lib.hid hb15
  clear hb15 ho15 hg HO15
  go_loopw [10] (fun i wr => ∃ j : Nat, j ≤ 256 ∧ i = .int .i64 j ∧ Hid (wr.heap[g]? = some (.cells ((List.replicate j (1 : UInt8) ++ List.replicate (256 - j) 0).map vb).toArray 5 (0, 0))) ∧ Hid (Keep noBlk w wr)) (fun i _ => 256 - (intOf i).toNat)
  case atStart => exact ⟨0, by omega, rfl, HB15, HK15⟩
  case round =>
    obtain ⟨j, hj, rfl, HB, HK⟩ := hrel
    by_cases hlt : j < 256
    · have hc := blk_cell (i := j) (v := .int .u8 0) HB.out (by rw [List.getElem?_toArray, List.getElem?_map, List.getElem?_append_right (by simp), List.length_replicate, Nat.sub_self, List.getElem?_replicate, if_pos (by omega)]; rfl)
      have hf := blk_free HB.out j
      have hset := set_blk HB.out j (.int .u8 1)
      have HS : Hid ((wr.setCell ⟨g, j, none⟩ (.int .u8 1)).heap[g]? = some (.cells ((List.replicate (j + 1) (1 : UInt8) ++ List.replicate (256 - (j + 1)) 0).map vb).toArray 5 (0, 0))) := by
        rw [List.setIfInBounds_toArray, show (Value.int .u8 1) = vb 1 from rfl, ← List.map_set, ones_step hlt] at hset
        exact Lib.hid hset
      have HKS : Hid (Keep noBlk w (wr.setCell ⟨g, j, none⟩ (.int .u8 1))) := Lib.hid (HK.out.setCell (p := ⟨g, j, none⟩) (fun h => by have h' : g < w.heap.size := h; omega) _)
      clear hset
      go_wp2_with fail
      go_roundw
      case rel => exact ⟨j + 1, by omega, by go_num, HS, HKS⟩
      case measure => simp [intOf]; omega
    · obtain rfl : j = 256 := by omega
      have hrd : Rd wr 1 (.slice (some ⟨g, 0, none⟩) 256 256) (List.replicate 256 (1 : UInt8)).length ((List.replicate 256 (1 : UInt8)).map vb) := by
        have h0 := HB.out
        rw [show (List.replicate 256 (1 : UInt8) ++ List.replicate (256 - 256) 0) = List.replicate 256 1 by simp] at h0
        exact rd_arr h0 (by rw [List.length_replicate]) (by unfold maxLen; omega)
      have CO1 := unpack_any wr _ _ hrd (by rw [List.length_replicate]; omega)
      rw [unpackR_ones] at CO1
      have CO1' := Lib.hid CO1
      clear CO1 hrd
      go_wp2_with fail
      refine CO1'.out.mono ?_
      rintro e w16 ⟨rfl, hk16⟩
      rw [show (zeroLab, (11 : Int)).1.cells = zc from HZC.out]
      have HK16 := Lib.hid (HK.out.trans hk16)
      clear hk16 CO1' HB HK
      go_wp2_with (first
        | (refine wpList_alloc_at rfl 25 rfl _ HZV.out zc.toArray rfl ?_)
        | ((with_reducible show wpList _ _ _ (⟨none, .store 25 (.tmp 11) (.tmp 61), _, _, _, _⟩ :: _) _ _); refine wpList_store_agg rfl 25 (.tmp 11) (.tmp 61) rfl w16.heap.size 0 zc rfl rfl zc.toArray _ (heap_alloc_new _ _) (by rw [HZL.out, List.size_toArray, HZL.out]; exact Nat.le_refl _) HSZ.out HZCO.out ?_
           intro w17 hb17 hk17
           have HK17 := Lib.hid (HK16.out.trans (((Keep.refl noBlk w16).alloc _).trans' hk17 (fun _ _ h => h) (fun i hi e => by omega)))
           clear hb17 hk17))
      refine (pool1 w17 (.slice none 0 0) [] (fun x hx => by cases hx) (Rd.nil _ _) (by simp)).mono ?_
      rintro e w18 ⟨rfl, hk18⟩
      rw [poolA_nil]
      obtain ⟨zp, hzp, hzpl, hzpo⟩ : ∃ zp, zeros.map vb = zp ∧ zp.length = 32 ∧ ∀ u ∈ zp, u.oneCell' = true := ⟨_, rfl, rfl, oneCell_vb _⟩
      rw [show (zeros, 0).1.map vb = zp from hzp]
      have HZPL := Lib.hid hzpl; have HZPO := Lib.hid hzpo
      have HSP : Hid ((Try.prog.info? 23).map (·.size) = some zp.length) := Lib.hid (by rw [hzpl]; exact sizeID)
      have HK18 := Lib.hid (HK17.out.trans hk18)
      clear hk18 HK17 HK16 hzpl hzpo hzp
      go_wp2_with (first
        | ((with_reducible show wpList _ _ _ (⟨some 13, .alloc 23, _, _, _, _⟩ :: _) _ _); refine wpList_alloc_at rfl 23 rfl zero32 zeroID (Array.replicate 32 (.int .u8 0)) rfl ?_)
        | ((with_reducible show wpList _ _ _ (⟨none, .store 23 (.tmp 13) (.tmp 65), _, _, _, _⟩ :: _) _ _); refine wpList_store_agg rfl 23 (.tmp 13) (.tmp 65) rfl w18.heap.size 0 zp rfl rfl (Array.replicate 32 (.int .u8 0)) _ (heap_alloc_new _ _) (by rw [HZPL.out, Array.size_replicate]; exact Nat.le_refl _) HSP.out HZPO.out ?_
           intro w19 hb19 hk19
           have HK19 := Lib.hid (HK18.out.trans (((Keep.refl noBlk w18).alloc _).trans' hk19 (fun _ _ h => h) (fun i hi e => by omega)))
           clear hb19 hk19))
      refine (awake_any w19).mono ?_
      rintro e w20 ⟨rfl, hk20⟩
      have HK20 := Lib.hid (HK19.out.trans hk20)
      clear hk20 HK19 HK18
      go_wp2_with fail
      refine (C1.out _).mono ?_
      rintro e w21 ⟨rfl, hk21⟩
      have HK21 := Lib.hid (HK20.out.trans hk21)
      clear hk21 HK20
      go_wp2_with fail
      refine (C1.out _).mono ?_
      rintro e w22 ⟨rfl, hk22⟩
      have HK22 := Lib.hid (HK21.out.trans hk22)
      clear hk22 HK21
      obtain ⟨ps, hps⟩ : ∃ ps, onePool.map vb = ps := ⟨_, rfl⟩
      have hfl := field_pool oneLab onePool_len w22
      rw [HLC.out, show oneLab.pool.map vb = ps from hps] at hfl
      have CT := Lib.hid (there_any w22 oneLab onePool 1 6 onePool_len onePool_len)
      rw [show oneLab.cells = lc from HLC.out, hps, show thereB oneLab onePool 1 6 = false by decide] at CT
      clear hps
      go_wp2_with fail
      refine CT.out.mono ?_
      rintro e w23 ⟨rfl, hk23⟩
      have HK23 := Lib.hid (HK22.out.trans hk23)
      clear hk23 HK22 CT hfl
      go_wp2_with fail
      go_ret
      exact ⟨rfl, HK23.out⟩
end Go.Proofs.Ytdlegbcdmlmbpaa
