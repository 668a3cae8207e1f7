/-
  The document's Read of a pointer.
  Conditions: those told.
-/
import Derived.Test.YtpkpopgcfgonoaaGreatDoorPtrH
namespace Go.Proofs.YtpkpopgcfgonoaaGreatDoor
open Go.RowKit Go.Maps Go.ChangeMaps
set_option maxRecDepth 100000
set_option linter.unusedVariables false

/-- The i-th byte. -/
def byN (b : List UInt8) (i : Nat) : Nat := (b.getD i 0).toNat
theorem byN_lt (b : List UInt8) (i : Nat) : byN b i < 256 := (b.getD i 0).toNat_lt
theorem drop_by {b : List UInt8} {i : Nat} (h : i < b.length) : b.drop i = b.getD i 0 :: b.drop (i + 1) := by
  rw [List.drop_eq_getElem_cons h, List.getD_eq_getElem?_getD, List.getElem?_eq_getElem h]
  rfl
theorem by1 {b : List UInt8} {i : Nat} (h : i < b.length) : beN ((b.drop i).take 1) = byN b i := by
  rw [drop_by h]
  simp [beN, byN]
theorem by2 {b : List UInt8} {i : Nat} (h : i + 1 < b.length) : beN ((b.drop i).take 2) = byN b i * 256 + byN b (i + 1) := by
  rw [drop_by (show i < b.length by omega), drop_by h]
  simp [beN, byN]
theorem by4 {b : List UInt8} {i : Nat} (h : i + 3 < b.length) : beN ((b.drop i).take 4) = byN b i * 16777216 + byN b (i + 1) * 65536 + byN b (i + 2) * 256 + byN b (i + 3) := by
  have h2 := drop_by (b := b) (i := i + 2) (by omega)
  have h3 := drop_by (b := b) (i := i + 3) (by omega)
  rw [drop_by (show i < b.length by omega), drop_by (show i + 1 < b.length by omega), show i + 1 + 1 = i + 2 from rfl, h2, show i + 2 + 1 = i + 3 from rfl, h3]
  simp only [List.take_succ_cons, List.take_zero, beN, byN, List.foldl_cons, List.foldl_nil]
  omega
/-- The digest, so many bytes of it. -/
def mixS (b : List UInt8) (k : Nat) : List UInt8 := (b.drop 15).take k ++ List.replicate (32 - k) 0
theorem mixS_len {b : List UInt8} (h : b.length = 47) {k : Nat} (hk : k ≤ 32) : (mixS b k).length = 32 := by
  unfold mixS
  rw [List.length_append, List.length_take, List.length_drop, List.length_replicate]
  omega
theorem mixS_set {b : List UInt8} (h : b.length = 47) {k : Nat} (hk : k < 32) : (mixS b k).set k (b.getD (15 + k) 0) = mixS b (k + 1) := by
  apply List.ext_getElem?
  intro i
  have hl := mixS_len h (Nat.le_of_lt hk)
  rw [List.getElem?_set, hl]
  unfold mixS
  by_cases e : k = i
  · subst e
    rw [if_pos rfl, if_pos hk, List.getElem?_append_left (by rw [List.length_take, List.length_drop]; omega), List.getElem?_take, if_pos (by omega), List.getElem?_drop, List.getD_eq_getElem?_getD, List.getElem?_eq_getElem (by omega)]
    rfl
  · rw [if_neg e]
    by_cases hi : i < k
    · rw [List.getElem?_append_left (by rw [List.length_take, List.length_drop]; omega), List.getElem?_append_left (by rw [List.length_take, List.length_drop]; omega), List.getElem?_take, List.getElem?_take, if_pos hi, if_pos (by omega)]
    · rw [List.getElem?_append_right (by rw [List.length_take, List.length_drop]; omega), List.getElem?_append_right (by rw [List.length_take, List.length_drop]; omega), List.getElem?_replicate, List.getElem?_replicate, List.length_take, List.length_take, List.length_drop]
      by_cases hi2 : i < 32
      · rw [if_pos (by omega), if_pos (by omega)]
      · rw [if_neg (by omega), if_neg (by omega)]
theorem ptCs_setS (v : Value) (q : Pt) (k : Nat) (x : UInt8) : (ptCs v q).toArray.setIfInBounds (3 + k) (vb x) = (ptCs v ⟨q.addrs, q.birth, q.level, q.sum.set k x⟩).toArray := by
  rw [List.setIfInBounds_toArray]
  congr 1
  unfold ptCs
  rw [show 3 + k = k + 1 + 1 + 1 by omega, List.set_cons_succ, List.set_cons_succ, List.set_cons_succ, List.map_set]
theorem adsOf_over {b : List UInt8} {k : Nat} (hk : k ≤ 3) (h : ¬ (k < beN (b.take 1) ∧ k < 3)) : adsOf b k = adsOf b 3 := by
  unfold adsOf
  rw [show min (beN (b.take 1)) k = min (beN (b.take 1)) 3 by omega]
/-- What stands in memory while the document's Read reads. -/
structure RqW (w wr : World) (rb fb pb B n : Nat) (v : Value) (q : Pt) : Prop where
  res : wr.heap[rb]? = some (.cells (ptCs (.slice none 0 0) zPt).toArray 26 (0, 0))
  flt : wr.heap[fb]? = some (.cells #[.int .i64 0, .int .i64 0] 74 (0, 0))
  pt : wr.heap[pb]? = some (.cells (ptCs v q).toArray 26 (0, 0))
  row : wr.ownsRow B 78 2 v n (adCells q.addrs)
  keep : Keep noBlk w wr
  ord : w.heap.size ≤ rb ∧ rb < fb ∧ fb < pb ∧ pb < B
  sz : B ≤ wr.heap.size
theorem RqW.same {w wr w' : World} {rb fb pb B n : Nat} {v : Value} {q : Pt} (h : RqW w wr rb fb pb B n v q) (k : Keep noBlk wr w') : RqW w w' rb fb pb B n v q :=
  ⟨k.blk h.res id, k.blk h.flt id, k.blk h.pt id, k.owns h.row fun _ _ => id, h.keep.trans k, h.ord, Nat.le_trans h.sz k.size⟩
theorem RqW.put {w wr w' : World} {rb fb pb B n m : Nat} {v u : Value} {q r : Pt} (h : RqW w wr rb fb pb B n v q) (hp : w'.heap[pb]? = some (.cells (ptCs u r).toArray 26 (0, 0))) (hr : w'.ownsRow B 78 2 u m (adCells r.addrs)) (hk : Keep (fun i => i = pb ∨ v.ownBlock = some i) wr w') : RqW w w' rb fb pb B m u r := by
  obtain ⟨h1, h2, h3, h4⟩ := h.ord
  have hno : ∀ i, i < pb → ¬ (i = pb ∨ v.ownBlock = some i) := fun i hi e => by
    rcases e with e | e
    · omega
    · have := owns_base h.row e; omega
  exact ⟨hk.blk h.res (hno _ (by omega)), hk.blk h.flt (hno _ (by omega)), hp, hr, h.keep.trans' hk (U := noBlk) (fun _ _ h => h) (fun i hi e => hno i (by omega) e), h.ord, Nat.le_trans h.sz hk.size⟩

set_option maxHeartbeats 8000000 in
theorem rread_less (w : World) (bv : Value) (b : List UInt8) (hr : Rd w 1 bv b.length (b.map vb)) (hl : b.length < 47) : Calls Tryz.prog 54 #[bv] w (ReadFPost w b) := by
  obtain ⟨oa, ca, rfl, -, -⟩ := hr.form
  have hmx : b.length ≤ maxLen := by obtain ⟨_, a', c', h1, h2, h3, -⟩ := hr; omega
  unfold maxLen at hmx
  have hB : readB b = false := by unfold readB; rw [decide_eq_false (by omega)]; rfl
  obtain ⟨n, hn⟩ : ∃ n, b.length = n := ⟨_, rfl⟩
  have hre : readE b = (4, (n : Int)) := by unfold readE; rw [if_neg (by omega), hn]; congr 1; omega
  have HRE := Lib.hid hre; have HBF := Lib.hid hB
  rw [hn] at hmx hl ⊢
  have hli : (n : Int) < 47 := by omega
  have hbf := fun w => buildFault2 w 4 (n : Int)
  clear hr hB hn hre
  have hz := zeroPtV
  have hbz : ∀ w, (Instr.build 26 #[]).run Tryz.prog w = .ok (.agg (ptCs (.slice none 0 0) zPt).toArray) w := fun w => by kernel_rfl
  obtain ⟨zc, hzc⟩ : ∃ x, ptCs (.slice none 0 0) zPt = x := ⟨_, rfl⟩
  have hzl : zc.length = 35 := by rw [← hzc]; rfl
  have zco : ∀ u ∈ zc, u.oneCell' = true := by rw [← hzc]; exact oneCell_pt _
  have HZ := Lib.hid hzc
  have hzlit : [.slice none 0 0, .int .i64 0, .int .i64 0, .int .u8 0, .int .u8 0, .int .u8 0, .int .u8 0, .int .u8 0, .int .u8 0, .int .u8 0, .int .u8 0, .int .u8 0, .int .u8 0, .int .u8 0, .int .u8 0, .int .u8 0, .int .u8 0, .int .u8 0, .int .u8 0, .int .u8 0, .int .u8 0, .int .u8 0, .int .u8 0, .int .u8 0, .int .u8 0, .int .u8 0, .int .u8 0, .int .u8 0, .int .u8 0, .int .u8 0, .int .u8 0, .int .u8 0, .int .u8 0, .int .u8 0, .int .u8 0] = zc := by rw [← hzc]; rfl
  rw [hzc] at hz hbz
  obtain ⟨wa, hwa, ka, ha, sa⟩ := alloc_facts w zc.toArray 26
  obtain ⟨wb, hwb, kb, hb, sb⟩ := alloc_facts wa #[.int .i64 0, .int .i64 0] 74
  obtain ⟨rb, hrb⟩ : ∃ x, w.heap.size = x := ⟨_, rfl⟩
  obtain ⟨fb, hfb⟩ : ∃ x, wa.heap.size = x := ⟨_, rfl⟩
  have hrf : rb < fb := by omega
  rw [hrb] at ha
  rw [hfb] at hb
  have HRB := Lib.hid (kb.blk ha id); have HFB := Lib.hid hb; have HKB := Lib.hid (ka.trans kb)
  have HRBE := Lib.hid hrb
  have HSW : Hid (wb.heap.size = fb + 1) := Lib.hid (by omega)
  clear ka kb ha hb sa sb hzc hl
  go_enter Tryz.func54, Tryz.ntmps54
  go_wp2_with (first
    | ((with_reducible show wpList _ _ _ (⟨some 2, .alloc 26, _, _, _, _⟩ :: _) _ _); refine wpList_alloc_at rfl 26 rfl _ hz zc.toArray rfl ?_; rw [hwa, hrb])
    | ((with_reducible show wpList _ _ _ (⟨some 3, .alloc 74, _, _, _, _⟩ :: _) _ _); refine wpList_alloc_at rfl 74 rfl _ zeroFlt #[.int .i64 0, .int .i64 0] rfl ?_; rw [hwb, hfb])
    | ((with_reducible show wpList _ _ _ (⟨none, .store 26 (.tmp 2) (.tmp 12), _, _, _, _⟩ :: _) _ _); refine wpList_store_agg rfl 26 (.tmp 2) (.tmp 12) rfl rb 0 zc rfl rfl zc.toArray 26 HRB.out (by rw [hzl, List.size_toArray, hzl]; exact Nat.le_refl _) (sizePtL hzl) zco ?_; intro w5 hb5 hk5; rw [spl_whole _ _ (by rw [hzl, List.size_toArray, hzl])] at hb5; have HF5 := Lib.hid (hk5.blk HFB.out (by omega)); have HB5 := Lib.hid hb5; have HK5 := Lib.hid hk5; clear hb5 hk5)
    | ((with_reducible show wpList _ _ _ (⟨none, .store 74 (.tmp 3) (.tmp 15), _, _, _, _⟩ :: _) _ _); refine wpList_store_agg rfl 74 (.tmp 3) (.tmp 15) rfl fb 0 [.int .i64 (4), .int .i64 ((n : Int))] rfl rfl #[.int .i64 0, .int .i64 0] 74 HF5.out (Nat.le_refl _) sizeFault (by simp [Value.oneCell']) ?_; intro w6 hb6 hk6; rw [spl_whole _ _ (by rfl)] at hb6; have HB6 := Lib.hid (hk6.blk HB5.out (by omega)); have HF6 := Lib.hid hb6; have HK6 := Lib.hid hk6; clear hb6 hk6))
  refine bodyPost_ret (results_cells2 rfl _ _ rb fb _ _ _ _ _ _ _ _ rfl HB6.out ptUnder rfl (by rw [List.size_toArray, hzl]; exact sizePt) rfl HF6.out Tryz.underlying74 rfl sizeFault) rfl ?_
  refine ⟨(HKB.out.trans' HK5.out (U := noBlk) (fun _ _ h => h) (fun i hi e => by have := HRBE.out; omega)).trans' HK6.out (fun _ _ h => h) (fun i hi e => by have := HRBE.out; omega), ?_⟩
  rw [HBF.out, if_neg (by decide), HRE.out, HZ.out]

set_option maxHeartbeats 8000000 in
theorem rread_more (w : World) (bv : Value) (b : List UInt8) (hr : Rd w 1 bv b.length (b.map vb)) (hl : 47 < b.length) : Calls Tryz.prog 54 #[bv] w (ReadFPost w b) := by
  obtain ⟨oa, ca, rfl, -, -⟩ := hr.form
  have hmx : b.length ≤ maxLen := by obtain ⟨_, a', c', h1, h2, h3, -⟩ := hr; omega
  unfold maxLen at hmx
  have hB : readB b = false := by unfold readB; rw [decide_eq_false (by omega)]; rfl
  obtain ⟨n, hn⟩ : ∃ n, b.length = n := ⟨_, rfl⟩
  have hre : readE b = (4, 47) := by unfold readE; rw [if_neg (by omega), hn]; congr 1; omega
  have HRE := Lib.hid hre; have HBF := Lib.hid hB
  rw [hn] at hmx hl ⊢
  have hli : ¬ (n : Int) < 47 := by omega
  have hli2 : (47 : Int) < (n : Int) := by omega
  have hbf := fun w => buildFault2 w 4 47
  clear hr hB hn hre
  have hz := zeroPtV
  have hbz : ∀ w, (Instr.build 26 #[]).run Tryz.prog w = .ok (.agg (ptCs (.slice none 0 0) zPt).toArray) w := fun w => by kernel_rfl
  obtain ⟨zc, hzc⟩ : ∃ x, ptCs (.slice none 0 0) zPt = x := ⟨_, rfl⟩
  have hzl : zc.length = 35 := by rw [← hzc]; rfl
  have zco : ∀ u ∈ zc, u.oneCell' = true := by rw [← hzc]; exact oneCell_pt _
  have HZ := Lib.hid hzc
  have hzlit : [.slice none 0 0, .int .i64 0, .int .i64 0, .int .u8 0, .int .u8 0, .int .u8 0, .int .u8 0, .int .u8 0, .int .u8 0, .int .u8 0, .int .u8 0, .int .u8 0, .int .u8 0, .int .u8 0, .int .u8 0, .int .u8 0, .int .u8 0, .int .u8 0, .int .u8 0, .int .u8 0, .int .u8 0, .int .u8 0, .int .u8 0, .int .u8 0, .int .u8 0, .int .u8 0, .int .u8 0, .int .u8 0, .int .u8 0, .int .u8 0, .int .u8 0, .int .u8 0, .int .u8 0, .int .u8 0, .int .u8 0] = zc := by rw [← hzc]; rfl
  rw [hzc] at hz hbz
  obtain ⟨wa, hwa, ka, ha, sa⟩ := alloc_facts w zc.toArray 26
  obtain ⟨wb, hwb, kb, hb, sb⟩ := alloc_facts wa #[.int .i64 0, .int .i64 0] 74
  obtain ⟨rb, hrb⟩ : ∃ x, w.heap.size = x := ⟨_, rfl⟩
  obtain ⟨fb, hfb⟩ : ∃ x, wa.heap.size = x := ⟨_, rfl⟩
  have hrf : rb < fb := by omega
  rw [hrb] at ha
  rw [hfb] at hb
  have HRB := Lib.hid (kb.blk ha id); have HFB := Lib.hid hb; have HKB := Lib.hid (ka.trans kb)
  have HRBE := Lib.hid hrb
  have HSW : Hid (wb.heap.size = fb + 1) := Lib.hid (by omega)
  clear ka kb ha hb sa sb hzc hl
  go_enter Tryz.func54, Tryz.ntmps54
  go_wp2_with (first
    | ((with_reducible show wpList _ _ _ (⟨some 2, .alloc 26, _, _, _, _⟩ :: _) _ _); refine wpList_alloc_at rfl 26 rfl _ hz zc.toArray rfl ?_; rw [hwa, hrb])
    | ((with_reducible show wpList _ _ _ (⟨some 3, .alloc 74, _, _, _, _⟩ :: _) _ _); refine wpList_alloc_at rfl 74 rfl _ zeroFlt #[.int .i64 0, .int .i64 0] rfl ?_; rw [hwb, hfb])
    | ((with_reducible show wpList _ _ _ (⟨none, .store 26 (.tmp 2) (.tmp 19), _, _, _, _⟩ :: _) _ _); refine wpList_store_agg rfl 26 (.tmp 2) (.tmp 19) rfl rb 0 zc rfl rfl zc.toArray 26 HRB.out (by rw [hzl, List.size_toArray, hzl]; exact Nat.le_refl _) (sizePtL hzl) zco ?_; intro w5 hb5 hk5; rw [spl_whole _ _ (by rw [hzl, List.size_toArray, hzl])] at hb5; have HF5 := Lib.hid (hk5.blk HFB.out (by omega)); have HB5 := Lib.hid hb5; have HK5 := Lib.hid hk5; clear hb5 hk5)
    | ((with_reducible show wpList _ _ _ (⟨none, .store 74 (.tmp 3) (.tmp 20), _, _, _, _⟩ :: _) _ _); refine wpList_store_agg rfl 74 (.tmp 3) (.tmp 20) rfl fb 0 [.int .i64 (4), .int .i64 (47)] rfl rfl #[.int .i64 0, .int .i64 0] 74 HF5.out (Nat.le_refl _) sizeFault (by simp [Value.oneCell']) ?_; intro w6 hb6 hk6; rw [spl_whole _ _ (by rfl)] at hb6; have HB6 := Lib.hid (hk6.blk HB5.out (by omega)); have HF6 := Lib.hid hb6; have HK6 := Lib.hid hk6; clear hb6 hk6))
  refine bodyPost_ret (results_cells2 rfl _ _ rb fb _ _ _ _ _ _ _ _ rfl HB6.out ptUnder rfl (by rw [List.size_toArray, hzl]; exact sizePt) rfl HF6.out Tryz.underlying74 rfl sizeFault) rfl ?_
  refine ⟨(HKB.out.trans' HK5.out (U := noBlk) (fun _ _ h => h) (fun i hi e => by have := HRBE.out; omega)).trans' HK6.out (fun _ _ h => h) (fun i hi e => by have := HRBE.out; omega), ?_⟩
  rw [HBF.out, if_neg (by decide), HRE.out, HZ.out]

set_option maxHeartbeats 16000000 in
theorem rread_main (w : World) (bv : Value) (b : List UInt8) (hr : Rd w 1 bv b.length (b.map vb)) (hl : b.length = 47) : Calls Tryz.prog 54 #[bv] w (ReadFPost w b) := by
  obtain ⟨g, o, c, rfl, hcells⟩ : ∃ g o c, bv = .slice (some ⟨g, o, none⟩) 47 c ∧ ∀ i, i < 47 → w.cell? ⟨g, o + i, none⟩ = some (.int .u8 (byN b i : Int)) := by
    obtain ⟨h0, a, cap, rfl, h2, h3, h4, h5⟩ := hr
    obtain ⟨g, o, rfl, hc⟩ := h5 (by simp; omega)
    refine ⟨g, o, cap, by rw [hl], fun i hi => hc i _ ?_⟩
    rw [List.getElem?_map, List.getElem?_eq_getElem (by omega)]
    unfold byN vb
    rw [List.getD_eq_getElem?_getD, List.getElem?_eq_getElem (by omega)]
    rfl
  have HL := Lib.hid hl
  have HBY := Lib.hid (fun wx (k : Keep noBlk w wx) i (hi : i < 47) => k.cell (hcells i hi) id)
  have HRD := Lib.hid (fun wx (k : Keep noBlk w wx) => hr.keep k fun _ _ => id)
  rw [hl] at HRD
  have hz := zeroPtV
  have hbz : ∀ w, (Instr.build 26 #[]).run Tryz.prog w = .ok (.agg (ptCs (.slice none 0 0) zPt).toArray) w := fun w => by kernel_rfl
  obtain ⟨zc, hzc⟩ : ∃ x, ptCs (.slice none 0 0) zPt = x := ⟨_, rfl⟩
  have hzl : zc.length = 35 := by rw [← hzc]; rfl
  have zco : ∀ u ∈ zc, u.oneCell' = true := by rw [← hzc]; exact oneCell_pt _
  have HZ := Lib.hid hzc
  have hzlit : [.slice none 0 0, .int .i64 0, .int .i64 0, .int .u8 0, .int .u8 0, .int .u8 0, .int .u8 0, .int .u8 0, .int .u8 0, .int .u8 0, .int .u8 0, .int .u8 0, .int .u8 0, .int .u8 0, .int .u8 0, .int .u8 0, .int .u8 0, .int .u8 0, .int .u8 0, .int .u8 0, .int .u8 0, .int .u8 0, .int .u8 0, .int .u8 0, .int .u8 0, .int .u8 0, .int .u8 0, .int .u8 0, .int .u8 0, .int .u8 0, .int .u8 0, .int .u8 0, .int .u8 0, .int .u8 0, .int .u8 0] = zc := by rw [← hzc]; rfl
  rw [hzc] at hz hbz
  obtain ⟨wa, hwa, ka, ha, sa⟩ := alloc_facts w zc.toArray 26
  obtain ⟨wb, hwb, kb, hb, sb⟩ := alloc_facts wa #[.int .i64 0, .int .i64 0] 74
  obtain ⟨rb, hrb⟩ : ∃ x, w.heap.size = x := ⟨_, rfl⟩
  obtain ⟨fb, hfb⟩ : ∃ x, wa.heap.size = x := ⟨_, rfl⟩
  have hrf : rb < fb := by omega
  rw [hrb] at ha
  rw [hfb] at hb
  have HRB := Lib.hid (kb.blk ha id); have HFB := Lib.hid hb; have HKB := Lib.hid (ka.trans kb)
  have HRBE := Lib.hid hrb
  have HSW : Hid (wb.heap.size = fb + 1) := Lib.hid (by omega)
  obtain ⟨y10, hy10⟩ : ∃ x, byN b 10 = x := ⟨_, rfl⟩
  have hyb10 : y10 < 256 := by rw [← hy10]; exact byN_lt _ _
  obtain ⟨y11, hy11⟩ : ∃ x, byN b 11 = x := ⟨_, rfl⟩
  have hyb11 : y11 < 256 := by rw [← hy11]; exact byN_lt _ _
  obtain ⟨y12, hy12⟩ : ∃ x, byN b 12 = x := ⟨_, rfl⟩
  have hyb12 : y12 < 256 := by rw [← hy12]; exact byN_lt _ _
  obtain ⟨y13, hy13⟩ : ∃ x, byN b 13 = x := ⟨_, rfl⟩
  have hyb13 : y13 < 256 := by rw [← hy13]; exact byN_lt _ _
  obtain ⟨y14, hy14⟩ : ∃ x, byN b 14 = x := ⟨_, rfl⟩
  have hyb14 : y14 < 256 := by rw [← hy14]; exact byN_lt _ _
  obtain ⟨mn, hmn⟩ : ∃ x, byN b 0 = x := ⟨_, rfl⟩
  have hmnb : mn < 256 := by rw [← hmn]; exact byN_lt _ _
  obtain ⟨bi, hbi⟩ : ∃ x : Nat, y10 * 16777216 + y11 * 65536 + y12 * 256 + y13 = x := ⟨_, rfl⟩
  have hbii : (y10 : Int) * 16777216 + (y11 : Int) * 65536 + (y12 : Int) * 256 + (y13 : Int) = (bi : Int) := by omega
  have HMN : Hid (beN (b.take 1) = mn) := Lib.hid (by have := by1 (b := b) (i := 0) (by omega); rw [List.drop_zero] at this; rw [this, hmn])
  have HBI : Hid (beN ((b.drop 10).take 4) = bi) := Lib.hid (by rw [by4 (by omega), hy10, hy11, hy12, hy13, hbi])
  have HLE : Hid (beN ((b.drop 14).take 1) = y14) := Lib.hid (by rw [by1 (by omega), hy14])
  have HY10 := Lib.hid hy10
  have HY11 := Lib.hid hy11
  have HY12 := Lib.hid hy12
  have HY13 := Lib.hid hy13
  have HY14 := Lib.hid hy14
  have HMN0 := Lib.hid hmn
  have HBII := Lib.hid hbii
  clear hr hcells ka kb ha hb sa sb hzc hl hmn hbi hbii hy10 hy11 hy12 hy13 hy14
  go_enter Tryz.func54, Tryz.ntmps54
  go_wp2_with (first
    | ((with_reducible show wpList _ _ _ (⟨some 2, .alloc 26, _, _, _, _⟩ :: _) _ _); refine wpList_alloc_at rfl 26 rfl _ hz zc.toArray rfl ?_; rw [hwa, hrb])
    | ((with_reducible show wpList _ _ _ (⟨some 3, .alloc 74, _, _, _, _⟩ :: _) _ _); refine wpList_alloc_at rfl 74 rfl _ zeroFlt #[.int .i64 0, .int .i64 0] rfl ?_; rw [hwb, hfb]))
  clear hwa hwb hrb hfb
  obtain ⟨S, hS0⟩ : ∃ S : World → Prop, S = fun w' => Keep noBlk wb w' := ⟨_, rfl⟩
  have HSE := Lib.hid (show ∀ w', S w' → Keep noBlk wb w' from fun w' h => by rw [hS0] at h; exact h)
  have HSI := Lib.hid (show ∀ w', Keep noBlk wb w' → S w' from fun w' h => by rw [hS0]; exact h)
  have hS : S wb.drew := HSI.out _ (Keep.refl _ _).drew
  have HD10 := Lib.hid (fun w' (h : S w') => (show w'.cell? ⟨g, o + 10, none⟩ = some (.int .u8 (y10 : Int)) by have c := HBY.out w' (HKB.out.trans (HSE.out w' h)) 10 (by omega); rw [HY10.out] at c; exact c))
  have HD11 := Lib.hid (fun w' (h : S w') => (show w'.cell? ⟨g, o + 11, none⟩ = some (.int .u8 (y11 : Int)) by have c := HBY.out w' (HKB.out.trans (HSE.out w' h)) 11 (by omega); rw [HY11.out] at c; exact c))
  have HD12 := Lib.hid (fun w' (h : S w') => (show w'.cell? ⟨g, o + 12, none⟩ = some (.int .u8 (y12 : Int)) by have c := HBY.out w' (HKB.out.trans (HSE.out w' h)) 12 (by omega); rw [HY12.out] at c; exact c))
  have HD13 := Lib.hid (fun w' (h : S w') => (show w'.cell? ⟨g, o + 13, none⟩ = some (.int .u8 (y13 : Int)) by have c := HBY.out w' (HKB.out.trans (HSE.out w' h)) 13 (by omega); rw [HY13.out] at c; exact c))
  have HD14 := Lib.hid (fun w' (h : S w') => (show w'.cell? ⟨g, o + 14, none⟩ = some (.int .u8 (y14 : Int)) by have c := HBY.out w' (HKB.out.trans (HSE.out w' h)) 14 (by omega); rw [HY14.out] at c; exact c))
  clear hS0
  refine wp_region_held (S := S) (by kernel_rfl) ?_
  change wpAnyH _ _ _ _ _ _ _ _ wb.drew
  generalize wb.drew = w5 at hS ⊢
  refine wpAnyH_take (i := 0) (v := .slice (some ⟨g, o, none⟩) 47 c) rfl (by kernel_rfl) (by kernel_rfl) (by kernel_rfl) (fun _ _ _ h => h) (.inl ⟨by rfl, fun _ _ => rfl⟩) hS ?_
  simp only [Act.put, List.setIfInBounds_toArray, List.set_cons_zero, List.set_cons_succ, List.getElem_toArray, List.getElem_cons_zero]
  refine wpAnyH_take (i := 1) (v := .pointer (some ⟨g, o + 10, none⟩)) rfl (by kernel_rfl) (by kernel_rfl) (by kernel_rfl) (fun _ _ _ h => h) (.inl ⟨by rfl, fun _ _ => by go_simp⟩) hS ?_
  simp only [Act.put, List.setIfInBounds_toArray, List.set_cons_zero, List.set_cons_succ, List.getElem_toArray, List.getElem_cons_succ, List.getElem_cons_zero]
  refine wpAnyH_take (i := 2) (v := .int .u8 (y10 : Int)) rfl (by kernel_rfl) (by kernel_rfl) (by kernel_rfl) (fun _ _ _ h => h) (.inl ⟨by rfl, fun w' hw' => by have c := HD10.out w' hw'; go_simp⟩) hS ?_
  simp only [Act.put, List.setIfInBounds_toArray, List.set_cons_zero, List.set_cons_succ, List.getElem_toArray, List.getElem_cons_succ, List.getElem_cons_zero]
  refine wpAnyH_take (i := 3) (v := .int .i64 (y10 : Int)) rfl (by kernel_rfl) (by kernel_rfl) (by kernel_rfl) (fun _ _ _ h => h) (.inl ⟨by rfl, fun _ _ => by go_simp; first | done | rw [IntWalk.i64_in _ (by omega)]⟩) hS ?_
  simp only [Act.put, List.setIfInBounds_toArray, List.set_cons_zero, List.set_cons_succ, List.getElem_toArray, List.getElem_cons_succ, List.getElem_cons_zero]
  refine wpAnyH_take (i := 4) (v := .int .i64 ((y10 : Int) * 16777216)) rfl (by kernel_rfl) (by kernel_rfl) (by kernel_rfl) (fun _ _ _ h => h) (.inl ⟨by rfl, fun _ _ => by go_simp; first | done | rw [IntWalk.i64_in _ (by omega)]⟩) hS ?_
  simp only [Act.put, List.setIfInBounds_toArray, List.set_cons_zero, List.set_cons_succ, List.getElem_toArray, List.getElem_cons_succ, List.getElem_cons_zero]
  refine wpAnyH_take (i := 5) (v := .slice (some ⟨g, o, none⟩) 47 c) rfl (by kernel_rfl) (by kernel_rfl) (by kernel_rfl) (fun _ _ _ h => h) (.inl ⟨by rfl, fun _ _ => rfl⟩) hS ?_
  simp only [Act.put, List.setIfInBounds_toArray, List.set_cons_zero, List.set_cons_succ, List.getElem_toArray, List.getElem_cons_succ, List.getElem_cons_zero]
  refine wpAnyH_take (i := 6) (v := .pointer (some ⟨g, o + 11, none⟩)) rfl (by kernel_rfl) (by kernel_rfl) (by kernel_rfl) (fun _ _ _ h => h) (.inl ⟨by rfl, fun _ _ => by go_simp⟩) hS ?_
  simp only [Act.put, List.setIfInBounds_toArray, List.set_cons_zero, List.set_cons_succ, List.getElem_toArray, List.getElem_cons_succ, List.getElem_cons_zero]
  refine wpAnyH_take (i := 7) (v := .int .u8 (y11 : Int)) rfl (by kernel_rfl) (by kernel_rfl) (by kernel_rfl) (fun _ _ _ h => h) (.inl ⟨by rfl, fun w' hw' => by have c := HD11.out w' hw'; go_simp⟩) hS ?_
  simp only [Act.put, List.setIfInBounds_toArray, List.set_cons_zero, List.set_cons_succ, List.getElem_toArray, List.getElem_cons_succ, List.getElem_cons_zero]
  refine wpAnyH_take (i := 8) (v := .int .i64 (y11 : Int)) rfl (by kernel_rfl) (by kernel_rfl) (by kernel_rfl) (fun _ _ _ h => h) (.inl ⟨by rfl, fun _ _ => by go_simp; first | done | rw [IntWalk.i64_in _ (by omega)]⟩) hS ?_
  simp only [Act.put, List.setIfInBounds_toArray, List.set_cons_zero, List.set_cons_succ, List.getElem_toArray, List.getElem_cons_succ, List.getElem_cons_zero]
  refine wpAnyH_take (i := 9) (v := .int .i64 ((y11 : Int) * 65536)) rfl (by kernel_rfl) (by kernel_rfl) (by kernel_rfl) (fun _ _ _ h => h) (.inl ⟨by rfl, fun _ _ => by go_simp; first | done | rw [IntWalk.i64_in _ (by omega)]⟩) hS ?_
  simp only [Act.put, List.setIfInBounds_toArray, List.set_cons_zero, List.set_cons_succ, List.getElem_toArray, List.getElem_cons_succ, List.getElem_cons_zero]
  refine wpAnyH_take (i := 10) (v := .int .i64 ((y10 : Int) * 16777216 + (y11 : Int) * 65536)) rfl (by kernel_rfl) (by kernel_rfl) (by kernel_rfl) (fun _ _ _ h => h) (.inl ⟨by rfl, fun _ _ => by go_simp; first | done | rw [IntWalk.i64_in _ (by omega)]⟩) hS ?_
  simp only [Act.put, List.setIfInBounds_toArray, List.set_cons_zero, List.set_cons_succ, List.getElem_toArray, List.getElem_cons_succ, List.getElem_cons_zero]
  refine wpAnyH_take (i := 11) (v := .slice (some ⟨g, o, none⟩) 47 c) rfl (by kernel_rfl) (by kernel_rfl) (by kernel_rfl) (fun _ _ _ h => h) (.inl ⟨by rfl, fun _ _ => rfl⟩) hS ?_
  simp only [Act.put, List.setIfInBounds_toArray, List.set_cons_zero, List.set_cons_succ, List.getElem_toArray, List.getElem_cons_succ, List.getElem_cons_zero]
  refine wpAnyH_take (i := 12) (v := .pointer (some ⟨g, o + 12, none⟩)) rfl (by kernel_rfl) (by kernel_rfl) (by kernel_rfl) (fun _ _ _ h => h) (.inl ⟨by rfl, fun _ _ => by go_simp⟩) hS ?_
  simp only [Act.put, List.setIfInBounds_toArray, List.set_cons_zero, List.set_cons_succ, List.getElem_toArray, List.getElem_cons_succ, List.getElem_cons_zero]
  refine wpAnyH_take (i := 13) (v := .int .u8 (y12 : Int)) rfl (by kernel_rfl) (by kernel_rfl) (by kernel_rfl) (fun _ _ _ h => h) (.inl ⟨by rfl, fun w' hw' => by have c := HD12.out w' hw'; go_simp⟩) hS ?_
  simp only [Act.put, List.setIfInBounds_toArray, List.set_cons_zero, List.set_cons_succ, List.getElem_toArray, List.getElem_cons_succ, List.getElem_cons_zero]
  refine wpAnyH_take (i := 14) (v := .int .i64 (y12 : Int)) rfl (by kernel_rfl) (by kernel_rfl) (by kernel_rfl) (fun _ _ _ h => h) (.inl ⟨by rfl, fun _ _ => by go_simp; first | done | rw [IntWalk.i64_in _ (by omega)]⟩) hS ?_
  simp only [Act.put, List.setIfInBounds_toArray, List.set_cons_zero, List.set_cons_succ, List.getElem_toArray, List.getElem_cons_succ, List.getElem_cons_zero]
  refine wpAnyH_take (i := 15) (v := .int .i64 ((y12 : Int) * 256)) rfl (by kernel_rfl) (by kernel_rfl) (by kernel_rfl) (fun _ _ _ h => h) (.inl ⟨by rfl, fun _ _ => by go_simp; first | done | rw [IntWalk.i64_in _ (by omega)]⟩) hS ?_
  simp only [Act.put, List.setIfInBounds_toArray, List.set_cons_zero, List.set_cons_succ, List.getElem_toArray, List.getElem_cons_succ, List.getElem_cons_zero]
  refine wpAnyH_take (i := 16) (v := .int .i64 ((y10 : Int) * 16777216 + (y11 : Int) * 65536 + (y12 : Int) * 256)) rfl (by kernel_rfl) (by kernel_rfl) (by kernel_rfl) (fun _ _ _ h => h) (.inl ⟨by rfl, fun _ _ => by go_simp; first | done | rw [IntWalk.i64_in _ (by omega)]⟩) hS ?_
  simp only [Act.put, List.setIfInBounds_toArray, List.set_cons_zero, List.set_cons_succ, List.getElem_toArray, List.getElem_cons_succ, List.getElem_cons_zero]
  refine wpAnyH_take (i := 17) (v := .slice (some ⟨g, o, none⟩) 47 c) rfl (by kernel_rfl) (by kernel_rfl) (by kernel_rfl) (fun _ _ _ h => h) (.inl ⟨by rfl, fun _ _ => rfl⟩) hS ?_
  simp only [Act.put, List.setIfInBounds_toArray, List.set_cons_zero, List.set_cons_succ, List.getElem_toArray, List.getElem_cons_succ, List.getElem_cons_zero]
  refine wpAnyH_take (i := 18) (v := .pointer (some ⟨g, o + 13, none⟩)) rfl (by kernel_rfl) (by kernel_rfl) (by kernel_rfl) (fun _ _ _ h => h) (.inl ⟨by rfl, fun _ _ => by go_simp⟩) hS ?_
  simp only [Act.put, List.setIfInBounds_toArray, List.set_cons_zero, List.set_cons_succ, List.getElem_toArray, List.getElem_cons_succ, List.getElem_cons_zero]
  refine wpAnyH_take (i := 19) (v := .int .u8 (y13 : Int)) rfl (by kernel_rfl) (by kernel_rfl) (by kernel_rfl) (fun _ _ _ h => h) (.inl ⟨by rfl, fun w' hw' => by have c := HD13.out w' hw'; go_simp⟩) hS ?_
  simp only [Act.put, List.setIfInBounds_toArray, List.set_cons_zero, List.set_cons_succ, List.getElem_toArray, List.getElem_cons_succ, List.getElem_cons_zero]
  refine wpAnyH_take (i := 20) (v := .int .i64 (y13 : Int)) rfl (by kernel_rfl) (by kernel_rfl) (by kernel_rfl) (fun _ _ _ h => h) (.inl ⟨by rfl, fun _ _ => by go_simp; first | done | rw [IntWalk.i64_in _ (by omega)]⟩) hS ?_
  simp only [Act.put, List.setIfInBounds_toArray, List.set_cons_zero, List.set_cons_succ, List.getElem_toArray, List.getElem_cons_succ, List.getElem_cons_zero]
  refine wpAnyH_take (i := 21) (v := .int .i64 ((y10 : Int) * 16777216 + (y11 : Int) * 65536 + (y12 : Int) * 256 + (y13 : Int))) rfl (by kernel_rfl) (by kernel_rfl) (by kernel_rfl) (fun _ _ _ h => h) (.inl ⟨by rfl, fun _ _ => by go_simp; first | done | rw [IntWalk.i64_in _ (by omega)]⟩) hS ?_
  simp only [Act.put, List.setIfInBounds_toArray, List.set_cons_zero, List.set_cons_succ, List.getElem_toArray, List.getElem_cons_succ, List.getElem_cons_zero]
  refine wpAnyH_take (i := 22) (v := .slice (some ⟨g, o, none⟩) 47 c) rfl (by kernel_rfl) (by kernel_rfl) (by kernel_rfl) (fun _ _ _ h => h) (.inl ⟨by rfl, fun _ _ => rfl⟩) hS ?_
  simp only [Act.put, List.setIfInBounds_toArray, List.set_cons_zero, List.set_cons_succ, List.getElem_toArray, List.getElem_cons_succ, List.getElem_cons_zero]
  refine wpAnyH_take (i := 23) (v := .pointer (some ⟨g, o + 14, none⟩)) rfl (by kernel_rfl) (by kernel_rfl) (by kernel_rfl) (fun _ _ _ h => h) (.inl ⟨by rfl, fun _ _ => by go_simp⟩) hS ?_
  simp only [Act.put, List.setIfInBounds_toArray, List.set_cons_zero, List.set_cons_succ, List.getElem_toArray, List.getElem_cons_succ, List.getElem_cons_zero]
  refine wpAnyH_take (i := 24) (v := .int .u8 (y14 : Int)) rfl (by kernel_rfl) (by kernel_rfl) (by kernel_rfl) (fun _ _ _ h => h) (.inl ⟨by rfl, fun w' hw' => by have c := HD14.out w' hw'; go_simp⟩) hS ?_
  simp only [Act.put, List.setIfInBounds_toArray, List.set_cons_zero, List.set_cons_succ, List.getElem_toArray, List.getElem_cons_succ, List.getElem_cons_zero]
  refine wpAnyH_take (i := 25) (v := .int .i64 (y14 : Int)) rfl (by kernel_rfl) (by kernel_rfl) (by kernel_rfl) (fun _ _ _ h => h) (.inl ⟨by rfl, fun _ _ => by go_simp; first | done | rw [IntWalk.i64_in _ (by omega)]⟩) hS ?_
  simp only [Act.put, List.setIfInBounds_toArray, List.set_cons_zero, List.set_cons_succ, List.getElem_toArray, List.getElem_cons_succ, List.getElem_cons_zero]
  rw [HBII.out]
  refine wpAnyH_take (i := 26) (v := .agg #[.slice none 0 0, .int .i64 (bi : Int), .int .i64 (y14 : Int), .int .u8 0, .int .u8 0, .int .u8 0, .int .u8 0, .int .u8 0, .int .u8 0, .int .u8 0, .int .u8 0, .int .u8 0, .int .u8 0, .int .u8 0, .int .u8 0, .int .u8 0, .int .u8 0, .int .u8 0, .int .u8 0, .int .u8 0, .int .u8 0, .int .u8 0, .int .u8 0, .int .u8 0, .int .u8 0, .int .u8 0, .int .u8 0, .int .u8 0, .int .u8 0, .int .u8 0, .int .u8 0, .int .u8 0, .int .u8 0, .int .u8 0, .int .u8 0]) rfl (by kernel_rfl) (by kernel_rfl) (by kernel_rfl) (fun _ _ _ h => h) (.inl ⟨by rfl, fun _ _ => by go_simp; rw [← hzlit]; rfl⟩) hS ?_
  simp only [Act.put, List.setIfInBounds_toArray, List.set_cons_zero, List.set_cons_succ, List.getElem_toArray, List.getElem_cons_succ, List.getElem_cons_zero]
  obtain ⟨q0, hq0⟩ : ∃ q : List Value, [.slice none 0 0, .int .i64 (bi : Int), .int .i64 (y14 : Int), .int .u8 0, .int .u8 0, .int .u8 0, .int .u8 0, .int .u8 0, .int .u8 0, .int .u8 0, .int .u8 0, .int .u8 0, .int .u8 0, .int .u8 0, .int .u8 0, .int .u8 0, .int .u8 0, .int .u8 0, .int .u8 0, .int .u8 0, .int .u8 0, .int .u8 0, .int .u8 0, .int .u8 0, .int .u8 0, .int .u8 0, .int .u8 0, .int .u8 0, .int .u8 0, .int .u8 0, .int .u8 0, .int .u8 0, .int .u8 0, .int .u8 0, .int .u8 0] = q := ⟨_, rfl⟩
  have hql : q0.length = 35 := by rw [← hq0]; rfl
  have hqe : q0 = ptCs (.slice none 0 0) ⟨[], (bi : Int), (y14 : Int), zeros32⟩ := by rw [← hq0]; rfl
  have hqo : ∀ u ∈ q0, u.oneCell' = true := by rw [hqe]; exact oneCell_pt _
  rw [show (#[.slice none 0 0, .int .i64 (bi : Int), .int .i64 (y14 : Int), .int .u8 0, .int .u8 0, .int .u8 0, .int .u8 0, .int .u8 0, .int .u8 0, .int .u8 0, .int .u8 0, .int .u8 0, .int .u8 0, .int .u8 0, .int .u8 0, .int .u8 0, .int .u8 0, .int .u8 0, .int .u8 0, .int .u8 0, .int .u8 0, .int .u8 0, .int .u8 0, .int .u8 0, .int .u8 0, .int .u8 0, .int .u8 0, .int .u8 0, .int .u8 0, .int .u8 0, .int .u8 0, .int .u8 0, .int .u8 0, .int .u8 0, .int .u8 0] : Array Value) = q0.toArray by rw [← hq0]]
  obtain ⟨w6, hw6, hk6, hb6, hs6⟩ := alloc_facts w5 zc.toArray 26
  obtain ⟨pb, hpb⟩ : ∃ x, w5.heap.size = x := ⟨_, rfl⟩
  have HPBW : Hid (fb < pb) := Lib.hid (by have := HSW.out; have := (HSE.out _ hS).size; omega)
  rw [hpb] at hb6
  refine wpAnyH_one (k := 27) rfl (by kernel_rfl) ?_
  refine wpList_alloc_at rfl 26 rfl _ hz zc.toArray rfl ?_
  rw [hw6, hpb]
  have hS6 : S w6 := HSI.out _ ((HSE.out _ hS).trans hk6)
  obtain ⟨B, hB⟩ : ∃ x, w6.heap.size = x := ⟨_, rfl⟩
  have hpB : pb < B := by omega
  have hwbp : wb.heap.size ≤ pb := by rw [← hpb]; exact (HSE.out _ hS).size
  clear hS hk6 hs6 hpb hw6 hq0
  refine wpList_nil ?_
  refine ⟨hS6, ?_⟩
  refine wpAnyH_one (k := 28) rfl (by kernel_rfl) ?_
  refine wpList_store_agg rfl 26 (.tmp 4) (.tmp 47) rfl pb 0 q0 rfl rfl zc.toArray 26 hb6 (by rw [hql, List.size_toArray, hzl]; exact Nat.le_refl _) (sizePtL hql) hqo ?_
  intro w7 hb7 hk7
  rw [spl_whole _ _ (by rw [hql, List.size_toArray, hzl]), hqe] at hb7
  have hS7 : S w7 := HSI.out _ ((HSE.out _ hS6).trans' hk7 (U := noBlk) (fun _ _ h => h) (fun i hi e => by omega))
  have HW7 : Hid (RqW w w7 rb fb pb B 0 (.slice none 0 0) ⟨[], (bi : Int), (y14 : Int), zeros32⟩) := Lib.hid (by
    have hk := HSE.out _ hS7
    exact ⟨by rw [HZ.out]; exact hk.blk HRB.out id, hk.blk HFB.out id, hb7, World.ownsRow_nil _ _ _ _, HKB.out.trans hk, by have := HRBE.out; have := HPBW.out; omega, by have := hk7.size; omega⟩)
  clear hS6 hb6 hb7 hk7 hqe
  refine wpList_nil ?_
  refine ⟨hS7, ?_⟩
  refine wpAnyH_done (by kernel_rfl) ?_ _
  clear hS7 HSE HSI HD10 HD11 HD12 HD13 HD14 HPBW hB
  go_wp2_with fail
  go_loopw [5] (fun i wr => ∃ (k ql : Nat) (pa : Option Addr) (pc : Nat), k ≤ 3 ∧ ql ≤ k ∧ i = .int .i64 k ∧ Hid ((adsOf b k).length = ql) ∧ Hid (RqW w wr rb fb pb B ql (.slice pa ql pc) ⟨adsOf b k, (bi : Int), (y14 : Int), zeros32⟩)) (fun i _ => 3 - (intOf i).toNat)
  case atStart => exact ⟨0, 0, none, 0, by omega, by omega, rfl, Lib.hid (by simp [adsOf]), Lib.hid (by
    have e : adsOf b 0 = [] := by simp [adsOf]
    rw [e]
    exact HW7.out)⟩
  case round =>
  clear HW7
  obtain ⟨k, ql, pa, pcp, hk, hqk, rfl, HQL, HW⟩ := hrel
  have hc00 := HBY.out wr HW.out.keep 0 (by omega)
  rw [HMN0.out, Nat.add_zero] at hc00
  have a0 : wr.cell? ⟨pb, 0, none⟩ = some (.slice pa ql pcp) := blk_cell HW.out.pt rfl
  by_cases hgo : k < mn ∧ k < 3
  · obtain ⟨hkm, hk3⟩ := hgo
    have hki : (k : Int) < 3 := by omega
    have hk0 : (0 : Int) ≤ (k : Int) := by omega
    have hmi : (k : Int) < (mn : Int) := by omega
    have hmd : decide ((k : Int) < (mn : Int)) = true := decide_eq_true hmi
    have hkd : decide ((k : Int) < 3) = true := decide_eq_true hki
    obtain ⟨p1, hp1⟩ : ∃ x, 1 + 3 * k = x := ⟨_, rfl⟩
    have hp47 : p1 + 2 < 47 := by omega
    have hpi0 : (0 : Int) ≤ (p1 : Int) := by omega
    have hpi1 : (p1 : Int) < 47 := by omega
    have hpi2 : (p1 : Int) + 1 < 47 := by omega
    have hpi3 : (p1 : Int) + 2 < 47 := by omega
    have hpe1 : 1 + 3 * (k : Int) = (p1 : Int) := by omega
    have hpe2 : 2 + 3 * (k : Int) = ((p1 + 1 : Nat) : Int) := by omega
    have hpe3 : 3 + 3 * (k : Int) = ((p1 + 2 : Nat) : Int) := by omega
    obtain ⟨d, hd⟩ : ∃ x, byN b p1 = x := ⟨_, rfl⟩
    obtain ⟨s1, hs1⟩ : ∃ x, byN b (p1 + 1) = x := ⟨_, rfl⟩
    obtain ⟨s2, hs2⟩ : ∃ x, byN b (p1 + 2) = x := ⟨_, rfl⟩
    have hdb : d < 256 := by rw [← hd]; exact byN_lt _ _
    have hs1b : s1 < 256 := by rw [← hs1]; exact byN_lt _ _
    have hs2b : s2 < 256 := by rw [← hs2]; exact byN_lt _ _
    obtain ⟨s, hs⟩ : ∃ x : Nat, s1 * 256 + s2 = x := ⟨_, rfl⟩
    have hse : 256 * (s1 : Int) + (s2 : Int) = (s : Int) := by omega
    have hsb : s < 65536 := by omega
    have HAD : Hid (adOf b k = ⟨(d : Int), (s : Int)⟩) := Lib.hid (by
      unfold adOf
      rw [hp1, by1 (by rw [HL.out]; omega), by2 (by rw [HL.out]; omega), hd, hs1, show p1 + 1 + 1 = p1 + 2 from rfl, hs2, hs])
    have HD0 := Lib.hid hd; have HS1 := Lib.hid hs1; have HS2 := Lib.hid hs2
    have hbe := buildAd (d : Int) (s : Int)
    have HSE' := Lib.hid hse; have HP1 := Lib.hid hpe1; have HP2 := Lib.hid hpe2; have HP3 := Lib.hid hpe3
    clear hd hs1 hs2 hs hp1 hse
    go_wp2_with fail
    obtain ⟨S, hS0⟩ : ∃ S : World → Prop, S = fun w' => Keep noBlk w w' := ⟨_, rfl⟩
    have HSE := Lib.hid (show ∀ w', S w' → Keep noBlk w w' from fun w' h => by rw [hS0] at h; exact h)
    have HSI := Lib.hid (show ∀ w', Keep noBlk w w' → S w' from fun w' h => by rw [hS0]; exact h)
    have hS : S wr.drew := HSI.out _ HW.out.keep.drew
    have HW := Lib.hid (HW.out.same (Keep.refl noBlk wr).drew)
    have HB1 := Lib.hid (fun w' (h : S w') => (show w'.cell? ⟨g, o + p1, none⟩ = some (.int .u8 (d : Int)) by have c := HBY.out w' (HSE.out w' h) p1 (by omega); rw [HD0.out] at c; exact c))
    have HB2 := Lib.hid (fun w' (h : S w') => (show w'.cell? ⟨g, o + (p1 + 1), none⟩ = some (.int .u8 (s1 : Int)) by have c := HBY.out w' (HSE.out w' h) (p1 + 1) (by omega); rw [HS1.out] at c; exact c))
    have HB3 := Lib.hid (fun w' (h : S w') => (show w'.cell? ⟨g, o + (p1 + 2), none⟩ = some (.int .u8 (s2 : Int)) by have c := HBY.out w' (HSE.out w' h) (p1 + 2) (by omega); rw [HS2.out] at c; exact c))
    clear hS0 a0 hc00
    refine wp_region_held (S := S) (by kernel_rfl) ?_
    change wpAnyH _ _ _ _ _ _ _ _ wr.drew
    generalize wr.drew = w10 at hS HW ⊢
    refine wpAnyH_take (i := 0) (v := .pointer (some ⟨pb, 0, none⟩)) rfl (by kernel_rfl) (by kernel_rfl) (by kernel_rfl) (fun _ _ _ h => h) (.inl ⟨by rfl, fun _ _ => by go_simp⟩) hS ?_
    simp only [Act.put, List.setIfInBounds_toArray, List.set_cons_zero, List.set_cons_succ, List.getElem_toArray, List.getElem_cons_zero]
    refine wpAnyH_take (i := 2) (v := .slice (some ⟨g, o, none⟩) 47 c) rfl (by kernel_rfl) (by kernel_rfl) (by kernel_rfl) (fun _ _ _ h => h) (.inl ⟨by rfl, fun _ _ => rfl⟩) hS ?_
    simp only [Act.put, List.setIfInBounds_toArray, List.set_cons_zero, List.set_cons_succ, List.getElem_toArray, List.getElem_cons_succ, List.getElem_cons_zero]
    refine wpAnyH_take (i := 3) (v := .int .i64 (k : Int)) rfl (by kernel_rfl) (by kernel_rfl) (by kernel_rfl) (fun _ _ _ h => h) (.inl ⟨by rfl, fun _ _ => rfl⟩) hS ?_
    simp only [Act.put, List.setIfInBounds_toArray, List.set_cons_zero, List.set_cons_succ, List.getElem_toArray, List.getElem_cons_succ, List.getElem_cons_zero]
    refine wpAnyH_take (i := 4) (v := .int .i64 (3 * (k : Int))) rfl (by kernel_rfl) (by kernel_rfl) (by kernel_rfl) (fun _ _ _ h => h) (.inl ⟨by rfl, fun _ _ => by go_simp; first | done | rw [IntWalk.i64_in _ (by omega)]⟩) hS ?_
    simp only [Act.put, List.setIfInBounds_toArray, List.set_cons_zero, List.set_cons_succ, List.getElem_toArray, List.getElem_cons_succ, List.getElem_cons_zero]
    refine wpAnyH_take (i := 5) (v := .int .i64 (p1 : Int)) rfl (by kernel_rfl) (by kernel_rfl) (by kernel_rfl) (fun _ _ _ h => h) (.inl ⟨by rfl, fun _ _ => by have e := HP1.out; go_simp; first | done | (rw [IntWalk.i64_in _ (by omega)]; first | done | omega) | omega⟩) hS ?_
    simp only [Act.put, List.setIfInBounds_toArray, List.set_cons_zero, List.set_cons_succ, List.getElem_toArray, List.getElem_cons_succ, List.getElem_cons_zero]
    refine wpAnyH_take (i := 6) (v := .pointer (some ⟨g, o + p1, none⟩)) rfl (by kernel_rfl) (by kernel_rfl) (by kernel_rfl) (fun _ _ _ h => h) (.inl ⟨by rfl, fun _ _ => by go_simp⟩) hS ?_
    simp only [Act.put, List.setIfInBounds_toArray, List.set_cons_zero, List.set_cons_succ, List.getElem_toArray, List.getElem_cons_succ, List.getElem_cons_zero]
    refine wpAnyH_take (i := 7) (v := .int .u8 (d : Int)) rfl (by kernel_rfl) (by kernel_rfl) (by kernel_rfl) (fun _ _ _ h => h) (.inl ⟨by rfl, fun w' hw' => by have c := HB1.out w' hw'; go_simp⟩) hS ?_
    simp only [Act.put, List.setIfInBounds_toArray, List.set_cons_zero, List.set_cons_succ, List.getElem_toArray, List.getElem_cons_succ, List.getElem_cons_zero]
    refine wpAnyH_take (i := 8) (v := .int .i64 (d : Int)) rfl (by kernel_rfl) (by kernel_rfl) (by kernel_rfl) (fun _ _ _ h => h) (.inl ⟨by rfl, fun _ _ => by go_simp; first | done | rw [IntWalk.i64_in _ (by omega)]⟩) hS ?_
    simp only [Act.put, List.setIfInBounds_toArray, List.set_cons_zero, List.set_cons_succ, List.getElem_toArray, List.getElem_cons_succ, List.getElem_cons_zero]
    refine wpAnyH_take (i := 9) (v := .slice (some ⟨g, o, none⟩) 47 c) rfl (by kernel_rfl) (by kernel_rfl) (by kernel_rfl) (fun _ _ _ h => h) (.inl ⟨by rfl, fun _ _ => rfl⟩) hS ?_
    simp only [Act.put, List.setIfInBounds_toArray, List.set_cons_zero, List.set_cons_succ, List.getElem_toArray, List.getElem_cons_succ, List.getElem_cons_zero]
    refine wpAnyH_take (i := 10) (v := .int .i64 (k : Int)) rfl (by kernel_rfl) (by kernel_rfl) (by kernel_rfl) (fun _ _ _ h => h) (.inl ⟨by rfl, fun _ _ => rfl⟩) hS ?_
    simp only [Act.put, List.setIfInBounds_toArray, List.set_cons_zero, List.set_cons_succ, List.getElem_toArray, List.getElem_cons_succ, List.getElem_cons_zero]
    refine wpAnyH_take (i := 11) (v := .int .i64 (3 * (k : Int))) rfl (by kernel_rfl) (by kernel_rfl) (by kernel_rfl) (fun _ _ _ h => h) (.inl ⟨by rfl, fun _ _ => by go_simp; first | done | rw [IntWalk.i64_in _ (by omega)]⟩) hS ?_
    simp only [Act.put, List.setIfInBounds_toArray, List.set_cons_zero, List.set_cons_succ, List.getElem_toArray, List.getElem_cons_succ, List.getElem_cons_zero]
    refine wpAnyH_take (i := 12) (v := .int .i64 ((p1 + 1 : Nat) : Int)) rfl (by kernel_rfl) (by kernel_rfl) (by kernel_rfl) (fun _ _ _ h => h) (.inl ⟨by rfl, fun _ _ => by have e := HP2.out; go_simp; first | done | (rw [IntWalk.i64_in _ (by omega)]; first | done | omega) | omega⟩) hS ?_
    simp only [Act.put, List.setIfInBounds_toArray, List.set_cons_zero, List.set_cons_succ, List.getElem_toArray, List.getElem_cons_succ, List.getElem_cons_zero]
    refine wpAnyH_take (i := 13) (v := .pointer (some ⟨g, o + (p1 + 1), none⟩)) rfl (by kernel_rfl) (by kernel_rfl) (by kernel_rfl) (fun _ _ _ h => h) (.inl ⟨by rfl, fun _ _ => by go_simp; first | done | rfl | omega⟩) hS ?_
    simp only [Act.put, List.setIfInBounds_toArray, List.set_cons_zero, List.set_cons_succ, List.getElem_toArray, List.getElem_cons_succ, List.getElem_cons_zero]
    refine wpAnyH_take (i := 14) (v := .int .u8 (s1 : Int)) rfl (by kernel_rfl) (by kernel_rfl) (by kernel_rfl) (fun _ _ _ h => h) (.inl ⟨by rfl, fun w' hw' => by have c := HB2.out w' hw'; go_simp⟩) hS ?_
    simp only [Act.put, List.setIfInBounds_toArray, List.set_cons_zero, List.set_cons_succ, List.getElem_toArray, List.getElem_cons_succ, List.getElem_cons_zero]
    refine wpAnyH_take (i := 15) (v := .int .i64 (s1 : Int)) rfl (by kernel_rfl) (by kernel_rfl) (by kernel_rfl) (fun _ _ _ h => h) (.inl ⟨by rfl, fun _ _ => by go_simp; first | done | rw [IntWalk.i64_in _ (by omega)]⟩) hS ?_
    simp only [Act.put, List.setIfInBounds_toArray, List.set_cons_zero, List.set_cons_succ, List.getElem_toArray, List.getElem_cons_succ, List.getElem_cons_zero]
    refine wpAnyH_take (i := 16) (v := .int .i64 (256 * (s1 : Int))) rfl (by kernel_rfl) (by kernel_rfl) (by kernel_rfl) (fun _ _ _ h => h) (.inl ⟨by rfl, fun _ _ => by go_simp; first | done | rw [IntWalk.i64_in _ (by omega)]⟩) hS ?_
    simp only [Act.put, List.setIfInBounds_toArray, List.set_cons_zero, List.set_cons_succ, List.getElem_toArray, List.getElem_cons_succ, List.getElem_cons_zero]
    refine wpAnyH_take (i := 17) (v := .slice (some ⟨g, o, none⟩) 47 c) rfl (by kernel_rfl) (by kernel_rfl) (by kernel_rfl) (fun _ _ _ h => h) (.inl ⟨by rfl, fun _ _ => rfl⟩) hS ?_
    simp only [Act.put, List.setIfInBounds_toArray, List.set_cons_zero, List.set_cons_succ, List.getElem_toArray, List.getElem_cons_succ, List.getElem_cons_zero]
    refine wpAnyH_take (i := 18) (v := .int .i64 (k : Int)) rfl (by kernel_rfl) (by kernel_rfl) (by kernel_rfl) (fun _ _ _ h => h) (.inl ⟨by rfl, fun _ _ => rfl⟩) hS ?_
    simp only [Act.put, List.setIfInBounds_toArray, List.set_cons_zero, List.set_cons_succ, List.getElem_toArray, List.getElem_cons_succ, List.getElem_cons_zero]
    refine wpAnyH_take (i := 19) (v := .int .i64 (3 * (k : Int))) rfl (by kernel_rfl) (by kernel_rfl) (by kernel_rfl) (fun _ _ _ h => h) (.inl ⟨by rfl, fun _ _ => by go_simp; first | done | rw [IntWalk.i64_in _ (by omega)]⟩) hS ?_
    simp only [Act.put, List.setIfInBounds_toArray, List.set_cons_zero, List.set_cons_succ, List.getElem_toArray, List.getElem_cons_succ, List.getElem_cons_zero]
    refine wpAnyH_take (i := 20) (v := .int .i64 ((p1 + 2 : Nat) : Int)) rfl (by kernel_rfl) (by kernel_rfl) (by kernel_rfl) (fun _ _ _ h => h) (.inl ⟨by rfl, fun _ _ => by have e := HP3.out; go_simp; first | done | (rw [IntWalk.i64_in _ (by omega)]; first | done | omega) | omega⟩) hS ?_
    simp only [Act.put, List.setIfInBounds_toArray, List.set_cons_zero, List.set_cons_succ, List.getElem_toArray, List.getElem_cons_succ, List.getElem_cons_zero]
    refine wpAnyH_take (i := 21) (v := .pointer (some ⟨g, o + (p1 + 2), none⟩)) rfl (by kernel_rfl) (by kernel_rfl) (by kernel_rfl) (fun _ _ _ h => h) (.inl ⟨by rfl, fun _ _ => by go_simp; first | done | rfl | omega⟩) hS ?_
    simp only [Act.put, List.setIfInBounds_toArray, List.set_cons_zero, List.set_cons_succ, List.getElem_toArray, List.getElem_cons_succ, List.getElem_cons_zero]
    refine wpAnyH_take (i := 22) (v := .int .u8 (s2 : Int)) rfl (by kernel_rfl) (by kernel_rfl) (by kernel_rfl) (fun _ _ _ h => h) (.inl ⟨by rfl, fun w' hw' => by have c := HB3.out w' hw'; go_simp⟩) hS ?_
    simp only [Act.put, List.setIfInBounds_toArray, List.set_cons_zero, List.set_cons_succ, List.getElem_toArray, List.getElem_cons_succ, List.getElem_cons_zero]
    refine wpAnyH_take (i := 23) (v := .int .i64 (s2 : Int)) rfl (by kernel_rfl) (by kernel_rfl) (by kernel_rfl) (fun _ _ _ h => h) (.inl ⟨by rfl, fun _ _ => by go_simp; first | done | rw [IntWalk.i64_in _ (by omega)]⟩) hS ?_
    simp only [Act.put, List.setIfInBounds_toArray, List.set_cons_zero, List.set_cons_succ, List.getElem_toArray, List.getElem_cons_succ, List.getElem_cons_zero]
    refine wpAnyH_take (i := 24) (v := .int .i64 (s : Int)) rfl (by kernel_rfl) (by kernel_rfl) (by kernel_rfl) (fun _ _ _ h => h) (.inl ⟨by rfl, fun _ _ => by have e := HSE'.out; go_simp; first | done | rw [IntWalk.i64_in _ (by omega)]⟩) hS ?_
    simp only [Act.put, List.setIfInBounds_toArray, List.set_cons_zero, List.set_cons_succ, List.getElem_toArray, List.getElem_cons_succ, List.getElem_cons_zero]
    refine wpAnyH_take (i := 25) (v := .agg (adCs ⟨(d : Int), (s : Int)⟩).toArray) rfl (by kernel_rfl) (by kernel_rfl) (by kernel_rfl) (fun _ _ _ h => h) (.inl ⟨by rfl, fun w' _ => by have hb := hbe w'; go_simp; rfl⟩) hS ?_
    simp only [Act.put, List.setIfInBounds_toArray, List.set_cons_zero, List.set_cons_succ, List.getElem_toArray, List.getElem_cons_succ, List.getElem_cons_zero]
    obtain ⟨w11, hw11, hk11, hb11, hs11⟩ := alloc_facts w10 (adCs ⟨(d : Int), (s : Int)⟩).toArray 78
    obtain ⟨bx, hbx⟩ : ∃ x, w10.heap.size = x := ⟨_, rfl⟩
    rw [hbx] at hb11
    have HRN : Hid (Rd w11 2 (.slice (some ⟨bx, 0, none⟩) 1 1) 1 (adCs ⟨(d : Int), (s : Int)⟩)) := Lib.hid (rd_blk (n := 1) (size := 2) (vs := adCs ⟨(d : Int), (s : Int)⟩) hb11 rfl (by unfold maxLen; omega))
    have HW11 := Lib.hid (HW.out.same hk11)
    have hS11 : S w11 := HSI.out _ ((HSE.out _ hS).trans hk11)
    have a10 : w10.cell? ⟨pb, 0, none⟩ = some (.slice pa ql pcp) := blk_cell HW.out.pt rfl
    have a11 : w11.cell? ⟨pb, 0, none⟩ = some (.slice pa ql pcp) := blk_cell HW11.out.pt rfl
    have HA10 := Lib.hid a10; have HA11 := Lib.hid a11
    clear hk11 hb11 hs11 HB1 HB2 HB3 HD0 HS1 HS2 a10 a11
    refine wpAnyH_two (k := 1) (l := 26) rfl rfl (by kernel_rfl) ?_ ?_
    · have c := HA10.out
      go_wp2_with fail
      refine ⟨hS, ?_⟩
      refine wpAnyH_one (k := 26) rfl (by kernel_rfl) ?_
      refine wpList_build_one rfl 22 78 (.tmp 85) rfl Tryz.underlying22 infoAd (by decide) (adCs ⟨(d : Int), (s : Int)⟩) rfl (by decide) rfl ?_
      rw [hw11, hbx]
      clear hw11 hbx hS
      refine wpList_nil ?_
      refine ⟨hS11, ?_⟩
      refine wpAnyH_one (k := 27) rfl (by kernel_rfl) ?_
      refine wpList_append_rd rfl (.tmp 61) (.tmp 86) 22 rfl B 78 zeroAd 2 16 Tryz.underlying22 infoAd rfl (by decide) (.slice pa ql pcp) ql (adCells (adsOf b k)) rfl HW11.out.row (.slice (some ⟨bx, 0, none⟩) 1 1) 1 (adCs ⟨(d : Int), (s : Int)⟩) rfl HRN.out (oneCell_ad _) (by unfold maxLen; omega) (by omega) HW11.out.sz ?_
      intro v' w12 ho5 hk5 hn5 hb5
      obtain ⟨va, vc, rfl, -, -⟩ := (Rd.of_owns ho5).form
      have hp12 := hk5.blk HW11.out.pt (fun e => by have := owns_base HW11.out.row e; have := HW11.out.ord; omega)
      have hS12 : S w12 := HSI.out _ ((HSE.out _ hS11).trans' hk5 (U := noBlk) (fun _ _ h => h) (fun i hi e => by have := owns_base HW11.out.row e; have := HW11.out.ord; omega))
      have HP12 := Lib.hid hp12; have HK12 := Lib.hid hk5
      have HO12 : Hid (w12.ownsRow B 78 2 (.slice va (ql + 1) vc) (ql + 1) (adCells (adsOf b (k + 1)))) := Lib.hid (by
        rw [adsOf_succ, if_pos (by rw [HMN.out]; exact hkm), HAD.out, adCells_append, adCells_one]
        exact ho5)
      clear ho5 hk5 hn5 hb5 hp12 hS11 HA10 HA11
      refine wpList_nil ?_
      refine ⟨hS12, ?_⟩
      refine wpAnyH_take (i := 28) (v := .pointer (some ⟨pb, 0, none⟩)) rfl (by kernel_rfl) (by kernel_rfl) (by kernel_rfl) (fun _ _ _ h => h) (.inl ⟨by rfl, fun _ _ => by go_simp⟩) hS12 ?_
      simp only [Act.put, List.setIfInBounds_toArray, List.set_cons_zero, List.set_cons_succ, List.getElem_toArray, List.getElem_cons_succ, List.getElem_cons_zero]
      refine wpAnyH_one (k := 29) rfl (by kernel_rfl) ?_
      have hcc7 : w12.cell? ⟨pb, 0, none⟩ = some (.slice pa ql pcp) := blk_cell HP12.out rfl
      have hcf7 := blk_free HP12.out 0
      go_wp2_with fail
      have hkk : Keep (fun i => i = pb) w12 (w12.setCell ⟨pb, 0, none⟩ (.slice va (ql + 1) vc)) := (Keep.refl (fun i => i = pb) w12).setCell (p := ⟨pb, 0, none⟩) (fun _ => rfl) _
      have HW13 : Hid (RqW w (w12.setCell ⟨pb, 0, none⟩ (.slice va (ql + 1) vc)) rb fb pb B (ql + 1) (.slice va (ql + 1) vc) ⟨adsOf b (k + 1), (bi : Int), (y14 : Int), zeros32⟩) := Lib.hid (by
        refine HW11.out.put ?_ (hkk.owns HO12.out (fun i hi e => by have := owns_base HO12.out hi; have := HW11.out.ord; omega)) ((HK12.out.mono (fun _ _ h => .inr h)).trans' hkk (fun _ _ h => h) (fun i hi e => .inl e))
        rw [set_blk HP12.out, ptCs_set0 _ _ _ (adsOf b (k + 1))])
      have HQ8 : Hid ((adsOf b (k + 1)).length = ql + 1) := Lib.hid (by rw [adsOf_succ, if_pos (by rw [HMN.out]; exact hkm), List.length_append, HQL.out]; rfl)
      refine ⟨HSI.out _ HW13.out.keep, ?_⟩
      refine wpAnyH_done (by kernel_rfl) ?_ _
      clear hcc7 hcf7 hkk hS12 HP12 HK12 HO12 HSE HSI
      go_wp2_with fail
      go_roundw
      case rel => exact ⟨k + 1, ql + 1, va, vc, by omega, by omega, by go_num, HQ8, HW13⟩
      case measure => simp [intOf]; omega
    · refine wpList_build_one rfl 22 78 (.tmp 85) rfl Tryz.underlying22 infoAd (by decide) (adCs ⟨(d : Int), (s : Int)⟩) rfl (by decide) rfl ?_
      rw [hw11, hbx]
      clear hw11 hbx hS
      refine wpList_nil ?_
      refine ⟨hS11, ?_⟩
      refine wpAnyH_one (k := 1) rfl (by kernel_rfl) ?_
      have c := HA11.out
      go_wp2_with fail
      refine ⟨hS11, ?_⟩
      refine wpAnyH_one (k := 27) rfl (by kernel_rfl) ?_
      refine wpList_append_rd rfl (.tmp 61) (.tmp 86) 22 rfl B 78 zeroAd 2 16 Tryz.underlying22 infoAd rfl (by decide) (.slice pa ql pcp) ql (adCells (adsOf b k)) rfl HW11.out.row (.slice (some ⟨bx, 0, none⟩) 1 1) 1 (adCs ⟨(d : Int), (s : Int)⟩) rfl HRN.out (oneCell_ad _) (by unfold maxLen; omega) (by omega) HW11.out.sz ?_
      intro v' w12 ho5 hk5 hn5 hb5
      obtain ⟨va, vc, rfl, -, -⟩ := (Rd.of_owns ho5).form
      have hp12 := hk5.blk HW11.out.pt (fun e => by have := owns_base HW11.out.row e; have := HW11.out.ord; omega)
      have hS12 : S w12 := HSI.out _ ((HSE.out _ hS11).trans' hk5 (U := noBlk) (fun _ _ h => h) (fun i hi e => by have := owns_base HW11.out.row e; have := HW11.out.ord; omega))
      have HP12 := Lib.hid hp12; have HK12 := Lib.hid hk5
      have HO12 : Hid (w12.ownsRow B 78 2 (.slice va (ql + 1) vc) (ql + 1) (adCells (adsOf b (k + 1)))) := Lib.hid (by
        rw [adsOf_succ, if_pos (by rw [HMN.out]; exact hkm), HAD.out, adCells_append, adCells_one]
        exact ho5)
      clear ho5 hk5 hn5 hb5 hp12 hS11 HA10 HA11
      refine wpList_nil ?_
      refine ⟨hS12, ?_⟩
      refine wpAnyH_take (i := 28) (v := .pointer (some ⟨pb, 0, none⟩)) rfl (by kernel_rfl) (by kernel_rfl) (by kernel_rfl) (fun _ _ _ h => h) (.inl ⟨by rfl, fun _ _ => by go_simp⟩) hS12 ?_
      simp only [Act.put, List.setIfInBounds_toArray, List.set_cons_zero, List.set_cons_succ, List.getElem_toArray, List.getElem_cons_succ, List.getElem_cons_zero]
      refine wpAnyH_one (k := 29) rfl (by kernel_rfl) ?_
      have hcc7 : w12.cell? ⟨pb, 0, none⟩ = some (.slice pa ql pcp) := blk_cell HP12.out rfl
      have hcf7 := blk_free HP12.out 0
      go_wp2_with fail
      have hkk : Keep (fun i => i = pb) w12 (w12.setCell ⟨pb, 0, none⟩ (.slice va (ql + 1) vc)) := (Keep.refl (fun i => i = pb) w12).setCell (p := ⟨pb, 0, none⟩) (fun _ => rfl) _
      have HW13 : Hid (RqW w (w12.setCell ⟨pb, 0, none⟩ (.slice va (ql + 1) vc)) rb fb pb B (ql + 1) (.slice va (ql + 1) vc) ⟨adsOf b (k + 1), (bi : Int), (y14 : Int), zeros32⟩) := Lib.hid (by
        refine HW11.out.put ?_ (hkk.owns HO12.out (fun i hi e => by have := owns_base HO12.out hi; have := HW11.out.ord; omega)) ((HK12.out.mono (fun _ _ h => .inr h)).trans' hkk (fun _ _ h => h) (fun i hi e => .inl e))
        rw [set_blk HP12.out, ptCs_set0 _ _ _ (adsOf b (k + 1))])
      have HQ8 : Hid ((adsOf b (k + 1)).length = ql + 1) := Lib.hid (by rw [adsOf_succ, if_pos (by rw [HMN.out]; exact hkm), List.length_append, HQL.out]; rfl)
      refine ⟨HSI.out _ HW13.out.keep, ?_⟩
      refine wpAnyH_done (by kernel_rfl) ?_ _
      clear hcc7 hcf7 hkk hS12 HP12 HK12 HO12 HSE HSI
      go_wp2_with fail
      go_roundw
      case rel => exact ⟨k + 1, ql + 1, va, vc, by omega, by omega, by go_num, HQ8, HW13⟩
      case measure => simp [intOf]; omega
  · by_cases hkm : k < mn
    · have hk3 : ¬ (k : Int) < 3 := by omega
      have hmi : (k : Int) < (mn : Int) := by omega
      have hmd : decide ((k : Int) < (mn : Int)) = true := decide_eq_true hmi
      have hkd : decide ((k : Int) < 3) = false := decide_eq_false hk3
      go_wp2_with fail
      have HW0 : Hid (RqW w wr rb fb pb B ql (.slice pa ql pcp) ⟨adsOf b 3, (bi : Int), (y14 : Int), mixS b 0⟩) := Lib.hid (by
        have e : mixS b 0 = zeros32 := by simp [mixS, zeros32]
        have e2 : adsOf b k = adsOf b 3 := adsOf_over hk (by rw [HMN.out]; exact hgo)
        rw [e, ← e2]
        exact HW.out)
      have HQ3 : Hid ((adsOf b 3).length = ql) := Lib.hid (by rw [← adsOf_over hk (by rw [HMN.out]; exact hgo)]; exact HQL.out)
      clear a0 hc00 HW HQL
      go_loopw [6] (fun i wr => ∃ j : Nat, j ≤ 32 ∧ i = .int .i64 j ∧ Hid (RqW w wr rb fb pb B ql (.slice pa ql pcp) ⟨adsOf b 3, (bi : Int), (y14 : Int), mixS b j⟩)) (fun i _ => 32 - (intOf i).toNat)
      case atStart => exact ⟨0, by omega, rfl, HW0⟩
      case round =>
      clear HW0
      obtain ⟨j, hj, rfl, HW⟩ := hrel
      by_cases hj32 : j < 32
      · have hji : (j : Int) < 32 := by omega
        have hj0 : (0 : Int) ≤ (j : Int) := by omega
        obtain ⟨p2, hp2⟩ : ∃ x, 15 + j = x := ⟨_, rfl⟩
        have hpe : 15 + (j : Int) = (p2 : Int) := by omega
        have hpi : (p2 : Int) < 47 := by omega
        have hpi0 : (0 : Int) ≤ (p2 : Int) := by omega
        obtain ⟨y, hy⟩ : ∃ x, byN b p2 = x := ⟨_, rfl⟩
        have cy := HBY.out wr HW.out.keep p2 (by omega)
        rw [hy] at cy
        have HYB : Hid (Value.int .u8 (y : Int) = vb (b.getD (15 + j) 0)) := Lib.hid (by rw [hp2, ← hy]; rfl)
        have hkc : ∃ u, (ptCs (.slice pa ql pcp) ⟨adsOf b 3, (bi : Int), (y14 : Int), mixS b j⟩).toArray[3 + j]? = some u := by
          rw [List.getElem?_toArray]
          exact ⟨_, List.getElem?_eq_getElem (i := 3 + j) (by rw [ptCs_len (p := ⟨adsOf b 3, (bi : Int), (y14 : Int), mixS b j⟩) (mixS_len HL.out hj)]; omega)⟩
        obtain ⟨u, hku⟩ := hkc
        have k0 := blk_cell HW.out.pt hku
        have kf := blk_free HW.out.pt (3 + j)
        have HW2 : Hid (RqW w (wr.setCell ⟨pb, 3 + j, none⟩ (.int .u8 (y : Int))) rb fb pb B ql (.slice pa ql pcp) ⟨adsOf b 3, (bi : Int), (y14 : Int), mixS b (j + 1)⟩) := Lib.hid (by
          have hkk : Keep (fun i => i = pb) wr (wr.setCell ⟨pb, 3 + j, none⟩ (.int .u8 (y : Int))) := (Keep.refl (fun i => i = pb) wr).setCell (p := ⟨pb, 3 + j, none⟩) (fun _ => rfl) _
          refine HW.out.put ?_ (hkk.owns HW.out.row (fun i hi e => by have := owns_base HW.out.row hi; have := HW.out.ord; omega)) (hkk.mono (fun _ _ h => .inl h))
          rw [set_blk HW.out.pt, HYB.out, ptCs_setS, mixS_set HL.out hj32])
        clear hp2 hy hku
        go_wp2_with fail
        go_roundw
        case rel => exact ⟨j + 1, by omega, by go_num, HW2⟩
        case measure => simp [intOf]; omega
      · obtain rfl : j = 32 := by omega
        have HSB : Hid ((b.drop 15).length = 32) := Lib.hid (by rw [List.length_drop, HL.out])
        have HW7 : Hid (RqW w wr rb fb pb B ql (.slice pa ql pcp) (ptOf b)) := Lib.hid (by
          have e : mixS b 32 = b.drop 15 := by
            unfold mixS
            rw [List.take_of_length_le (by rw [HSB.out]; exact Nat.le_refl _)]
            simp
          have e2 : ptOf b = ⟨adsOf b 3, (bi : Int), (y14 : Int), b.drop 15⟩ := by unfold ptOf; rw [HBI.out, HLE.out]
          rw [e2, ← e]
          exact HW.out)
        have HPV : Hid (PtV wr (.slice pa ql pcp) (ptOf b)) := Lib.hid ⟨by
          have h := Rd.of_owns HW7.out.row
          have e : (ptOf b).addrs.length = ql := HQ3.out
          rw [e]
          exact h, adsOf_ok b 3, HSB.out⟩
        have HRO := Lib.hid (rangeAt_whole HW7.out.pt)
        obtain ⟨pc, hpc⟩ : ∃ x, ptCs (.slice pa ql pcp) (ptOf b) = x := ⟨_, rfl⟩
        have hpl : pc.length = 35 := by rw [← hpc]; exact ptCs_len HSB.out
        have pco : ∀ u ∈ pc, u.oneCell' = true := by rw [← hpc]; exact oneCell_pt _
        have HPC := Lib.hid hpc
        have HBT := Lib.hid (rbytes_any wr _ _ HPV.out)
        rw [hpc] at HRO HBT
        obtain ⟨t, ht⟩ : ∃ t, (ptOf b).may = t := ⟨_, rfl⟩
        have HT := Lib.hid ht
        clear hpc ht HW
        go_wp2_with (first
          | ((with_reducible show wpList _ _ _ (⟨_, .load 26 (.tmp 4), _, _, _, _⟩ :: _) _ _); refine wpList_load_mid rfl 26 (.tmp 4) rfl (pb) 0 rfl pc _ HRO.out ptUnder rfl (sizePtL hpl) ?_))
        refine HBT.out.mono ?_
        rintro e w8 ⟨v8, rfl, ho8, hk8⟩
        have HW8 := Lib.hid (HW7.out.same hk8)
        have hrx := Rd.of_owns ho8
        have hk1 := conv_rd hrx
        have hk2 := conv_rd (show Rd w8 1 (.slice (some ⟨g, o, none⟩) 47 c) b.length (b.map vb) by rw [HL.out]; exact HRD.out w8 HW8.out.keep)
        obtain ⟨xa, xc, rfl, -, -⟩ := hrx.form
        have HRO := Lib.hid (rangeAt_whole HW8.out.pt)
        rw [HPC.out] at HRO
        rw [HT.out]
        have hrs := HW8.out.res
        rw [HZ.out] at hrs
        have HRS := Lib.hid hrs; have HFS := Lib.hid HW8.out.flt
        clear ho8 hk8 hrx HBT HW7 hrs
        have hbf2 := fun w => buildFault0 w 2
        have herr : ∀ w6 w5, Keep (fun i => i = rb) w8 w5 → Keep (fun i => i = fb) w5 w6 → readB b = false → ReadFPost w b (.returned (.tuple #[.agg (ptCs (.slice none 0 0) zPt).toArray, .agg #[.int .i64 2, .int .i64 0]])) w6 := fun w6 w5 h1 h2 h3 =>
          ⟨(HW8.out.keep.trans' h1 (U := noBlk) (fun _ _ h => h) (fun i hi e => by have := HW8.out.ord; omega)).trans' h2 (fun _ _ h => h) (fun i hi e => by have := HW8.out.ord; omega), by
            rw [h3, if_neg (by decide)]
            unfold readE
            rw [if_pos HL.out]⟩
        have HERR := Lib.hid herr
        clear herr
        cases t
        · have HF : Hid (readB b = false) := Lib.hid (by unfold readB; rw [HT.out]; simp)
          go_wp2_with (first
            | ((with_reducible show wpList _ _ _ (⟨none, .store 26 (.tmp 2) (.tmp 115), _, _, _, _⟩ :: _) _ _); refine wpList_store_agg rfl 26 (.tmp 2) (.tmp 115) rfl rb 0 zc rfl rfl zc.toArray 26 HRS.out (by rw [hzl, List.size_toArray, hzl]; exact Nat.le_refl _) (sizePtL hzl) zco ?_; intro w9 hb5 hk5; rw [spl_whole _ _ (by rw [hzl, List.size_toArray, hzl])] at hb5; have HF5 := Lib.hid (hk5.blk HFS.out (by omega)); have HB5 := Lib.hid hb5; have HK5 := Lib.hid hk5; clear hb5 hk5)
            | ((with_reducible show wpList _ _ _ (⟨none, .store 74 (.tmp 3) (.tmp 116), _, _, _, _⟩ :: _) _ _); refine wpList_store_agg rfl 74 (.tmp 3) (.tmp 116) rfl fb 0 [.int .i64 (2), .int .i64 (0)] rfl rfl #[.int .i64 0, .int .i64 0] 74 HF5.out (Nat.le_refl _) sizeFault (by simp [Value.oneCell']) ?_; intro w12 hb6 hk6; rw [spl_whole _ _ (by rfl)] at hb6; have HB6 := Lib.hid (hk6.blk HB5.out (by omega)); have HF6 := Lib.hid hb6; have HK6 := Lib.hid hk6; clear hb6 hk6))
          refine bodyPost_ret (results_cells2 rfl _ _ rb fb _ _ _ _ _ _ _ _ rfl HB6.out ptUnder rfl (by rw [List.size_toArray, hzl]; exact sizePt) rfl HF6.out Tryz.underlying74 rfl sizeFault) rfl ?_
          have h := HERR.out _ _ HK5.out HK6.out HF.out
          rw [HZ.out] at h
          exact h
        · obtain ⟨u, hu⟩ : ∃ u, decide (ptB (ptOf b) = b) = u := ⟨_, rfl⟩
          have HU := Lib.hid hu
          have hcmp : ((strB (ptB (ptOf b))).toList == (strB b).toList) = u := by rw [strB_eq]; exact hu
          have hcmp2 : ((strB (ptB (ptOf b))).toList != (strB b).toList) = !u := by simp only [bne, hcmp]
          clear hu
          cases u
          · have HF : Hid (readB b = false) := Lib.hid (by unfold readB; rw [HU.out]; simp)
            go_wp2_with (first
              | ((with_reducible show wpList _ _ _ (⟨none, .store 26 (.tmp 2) (.tmp 115), _, _, _, _⟩ :: _) _ _); refine wpList_store_agg rfl 26 (.tmp 2) (.tmp 115) rfl rb 0 zc rfl rfl zc.toArray 26 HRS.out (by rw [hzl, List.size_toArray, hzl]; exact Nat.le_refl _) (sizePtL hzl) zco ?_; intro w9 hb5 hk5; rw [spl_whole _ _ (by rw [hzl, List.size_toArray, hzl])] at hb5; have HF5 := Lib.hid (hk5.blk HFS.out (by omega)); have HB5 := Lib.hid hb5; have HK5 := Lib.hid hk5; clear hb5 hk5)
              | ((with_reducible show wpList _ _ _ (⟨none, .store 74 (.tmp 3) (.tmp 116), _, _, _, _⟩ :: _) _ _); refine wpList_store_agg rfl 74 (.tmp 3) (.tmp 116) rfl fb 0 [.int .i64 (2), .int .i64 (0)] rfl rfl #[.int .i64 0, .int .i64 0] 74 HF5.out (Nat.le_refl _) sizeFault (by simp [Value.oneCell']) ?_; intro w12 hb6 hk6; rw [spl_whole _ _ (by rfl)] at hb6; have HB6 := Lib.hid (hk6.blk HB5.out (by omega)); have HF6 := Lib.hid hb6; have HK6 := Lib.hid hk6; clear hb6 hk6))
            refine bodyPost_ret (results_cells2 rfl _ _ rb fb _ _ _ _ _ _ _ _ rfl HB6.out ptUnder rfl (by rw [List.size_toArray, hzl]; exact sizePt) rfl HF6.out Tryz.underlying74 rfl sizeFault) rfl ?_
            have h := HERR.out _ _ HK5.out HK6.out HF.out
            rw [HZ.out] at h
            exact h
          · go_wp2_with (first
              | ((with_reducible show wpList _ _ _ (⟨_, .load 26 (.tmp 4), _, _, _, _⟩ :: _) _ _); refine wpList_load_mid rfl 26 (.tmp 4) rfl (pb) 0 rfl pc _ HRO.out ptUnder rfl (sizePtL hpl) ?_)
              | ((with_reducible show wpList _ _ _ (⟨none, .store 26 (.tmp 2) (.tmp 117), _, _, _, _⟩ :: _) _ _); refine wpList_store_agg rfl 26 (.tmp 2) (.tmp 117) rfl rb 0 pc rfl rfl zc.toArray 26 HRS.out (by rw [hpl, List.size_toArray, hzl]; exact Nat.le_refl _) (sizePtL hpl) pco ?_; intro w9 hb5 hk5; rw [spl_whole _ _ (by rw [hpl, List.size_toArray, hzl])] at hb5; have HF5 := Lib.hid (hk5.blk HFS.out (by omega)); have HB5 := Lib.hid hb5; have HK5 := Lib.hid hk5; clear hb5 hk5)
              | ((with_reducible show wpList _ _ _ (⟨none, .store 74 (.tmp 3) (.tmp 118), _, _, _, _⟩ :: _) _ _); refine wpList_store_agg rfl 74 (.tmp 3) (.tmp 118) rfl fb 0 [.int .i64 (0), .int .i64 (0)] rfl rfl #[.int .i64 0, .int .i64 0] 74 HF5.out (Nat.le_refl _) sizeFault (by simp [Value.oneCell']) ?_; intro w12 hb6 hk6; rw [spl_whole _ _ (by rfl)] at hb6; have HB6 := Lib.hid (hk6.blk HB5.out (by omega)); have HF6 := Lib.hid hb6; have HK6 := Lib.hid hk6; clear hb6 hk6))
            refine bodyPost_ret (results_cells2 rfl _ _ rb fb _ _ _ _ _ _ _ _ rfl HB6.out ptUnder rfl (by rw [List.size_toArray, hpl]; exact sizePt) rfl HF6.out Tryz.underlying74 rfl sizeFault) rfl ?_
            refine ⟨(HW8.out.keep.trans' HK5.out (U := noBlk) (fun _ _ h => h) (fun i hi e => by have := HW8.out.ord; omega)).trans' HK6.out (fun _ _ h => h) (fun i hi e => by have := HW8.out.ord; omega), ?_⟩
            rw [if_pos (by unfold readB; rw [HL.out, HT.out, HU.out]; rfl)]
            refine ⟨_, by rw [HPC.out], ?_⟩
            have e : (ptOf b).addrs.length = ql := HQ3.out
            rw [e]
            have h5 := HK5.out.owns HW8.out.row (fun i hi e => by have := owns_base HW8.out.row hi; have := HW8.out.ord; omega)
            exact ownsRow_mono (HK6.out.owns h5 (fun i hi e => by have := owns_base HW8.out.row hi; have := HW8.out.ord; omega)) (by have := HW8.out.ord; omega)
    · have hmi : ¬ (k : Int) < (mn : Int) := by omega
      have hmd : decide ((k : Int) < (mn : Int)) = false := decide_eq_false hmi
      go_wp2_with fail
      have HW0 : Hid (RqW w wr rb fb pb B ql (.slice pa ql pcp) ⟨adsOf b 3, (bi : Int), (y14 : Int), mixS b 0⟩) := Lib.hid (by
        have e : mixS b 0 = zeros32 := by simp [mixS, zeros32]
        have e2 : adsOf b k = adsOf b 3 := adsOf_over hk (by rw [HMN.out]; exact hgo)
        rw [e, ← e2]
        exact HW.out)
      have HQ3 : Hid ((adsOf b 3).length = ql) := Lib.hid (by rw [← adsOf_over hk (by rw [HMN.out]; exact hgo)]; exact HQL.out)
      clear a0 hc00 HW HQL
      go_loopw [6] (fun i wr => ∃ j : Nat, j ≤ 32 ∧ i = .int .i64 j ∧ Hid (RqW w wr rb fb pb B ql (.slice pa ql pcp) ⟨adsOf b 3, (bi : Int), (y14 : Int), mixS b j⟩)) (fun i _ => 32 - (intOf i).toNat)
      case atStart => exact ⟨0, by omega, rfl, HW0⟩
      case round =>
      clear HW0
      obtain ⟨j, hj, rfl, HW⟩ := hrel
      by_cases hj32 : j < 32
      · have hji : (j : Int) < 32 := by omega
        have hj0 : (0 : Int) ≤ (j : Int) := by omega
        obtain ⟨p2, hp2⟩ : ∃ x, 15 + j = x := ⟨_, rfl⟩
        have hpe : 15 + (j : Int) = (p2 : Int) := by omega
        have hpi : (p2 : Int) < 47 := by omega
        have hpi0 : (0 : Int) ≤ (p2 : Int) := by omega
        obtain ⟨y, hy⟩ : ∃ x, byN b p2 = x := ⟨_, rfl⟩
        have cy := HBY.out wr HW.out.keep p2 (by omega)
        rw [hy] at cy
        have HYB : Hid (Value.int .u8 (y : Int) = vb (b.getD (15 + j) 0)) := Lib.hid (by rw [hp2, ← hy]; rfl)
        have hkc : ∃ u, (ptCs (.slice pa ql pcp) ⟨adsOf b 3, (bi : Int), (y14 : Int), mixS b j⟩).toArray[3 + j]? = some u := by
          rw [List.getElem?_toArray]
          exact ⟨_, List.getElem?_eq_getElem (i := 3 + j) (by rw [ptCs_len (p := ⟨adsOf b 3, (bi : Int), (y14 : Int), mixS b j⟩) (mixS_len HL.out hj)]; omega)⟩
        obtain ⟨u, hku⟩ := hkc
        have k0 := blk_cell HW.out.pt hku
        have kf := blk_free HW.out.pt (3 + j)
        have HW2 : Hid (RqW w (wr.setCell ⟨pb, 3 + j, none⟩ (.int .u8 (y : Int))) rb fb pb B ql (.slice pa ql pcp) ⟨adsOf b 3, (bi : Int), (y14 : Int), mixS b (j + 1)⟩) := Lib.hid (by
          have hkk : Keep (fun i => i = pb) wr (wr.setCell ⟨pb, 3 + j, none⟩ (.int .u8 (y : Int))) := (Keep.refl (fun i => i = pb) wr).setCell (p := ⟨pb, 3 + j, none⟩) (fun _ => rfl) _
          refine HW.out.put ?_ (hkk.owns HW.out.row (fun i hi e => by have := owns_base HW.out.row hi; have := HW.out.ord; omega)) (hkk.mono (fun _ _ h => .inl h))
          rw [set_blk HW.out.pt, HYB.out, ptCs_setS, mixS_set HL.out hj32])
        clear hp2 hy hku
        go_wp2_with fail
        go_roundw
        case rel => exact ⟨j + 1, by omega, by go_num, HW2⟩
        case measure => simp [intOf]; omega
      · obtain rfl : j = 32 := by omega
        have HSB : Hid ((b.drop 15).length = 32) := Lib.hid (by rw [List.length_drop, HL.out])
        have HW7 : Hid (RqW w wr rb fb pb B ql (.slice pa ql pcp) (ptOf b)) := Lib.hid (by
          have e : mixS b 32 = b.drop 15 := by
            unfold mixS
            rw [List.take_of_length_le (by rw [HSB.out]; exact Nat.le_refl _)]
            simp
          have e2 : ptOf b = ⟨adsOf b 3, (bi : Int), (y14 : Int), b.drop 15⟩ := by unfold ptOf; rw [HBI.out, HLE.out]
          rw [e2, ← e]
          exact HW.out)
        have HPV : Hid (PtV wr (.slice pa ql pcp) (ptOf b)) := Lib.hid ⟨by
          have h := Rd.of_owns HW7.out.row
          have e : (ptOf b).addrs.length = ql := HQ3.out
          rw [e]
          exact h, adsOf_ok b 3, HSB.out⟩
        have HRO := Lib.hid (rangeAt_whole HW7.out.pt)
        obtain ⟨pc, hpc⟩ : ∃ x, ptCs (.slice pa ql pcp) (ptOf b) = x := ⟨_, rfl⟩
        have hpl : pc.length = 35 := by rw [← hpc]; exact ptCs_len HSB.out
        have pco : ∀ u ∈ pc, u.oneCell' = true := by rw [← hpc]; exact oneCell_pt _
        have HPC := Lib.hid hpc
        have HBT := Lib.hid (rbytes_any wr _ _ HPV.out)
        rw [hpc] at HRO HBT
        obtain ⟨t, ht⟩ : ∃ t, (ptOf b).may = t := ⟨_, rfl⟩
        have HT := Lib.hid ht
        clear hpc ht HW
        go_wp2_with (first
          | ((with_reducible show wpList _ _ _ (⟨_, .load 26 (.tmp 4), _, _, _, _⟩ :: _) _ _); refine wpList_load_mid rfl 26 (.tmp 4) rfl (pb) 0 rfl pc _ HRO.out ptUnder rfl (sizePtL hpl) ?_))
        refine HBT.out.mono ?_
        rintro e w8 ⟨v8, rfl, ho8, hk8⟩
        have HW8 := Lib.hid (HW7.out.same hk8)
        have hrx := Rd.of_owns ho8
        have hk1 := conv_rd hrx
        have hk2 := conv_rd (show Rd w8 1 (.slice (some ⟨g, o, none⟩) 47 c) b.length (b.map vb) by rw [HL.out]; exact HRD.out w8 HW8.out.keep)
        obtain ⟨xa, xc, rfl, -, -⟩ := hrx.form
        have HRO := Lib.hid (rangeAt_whole HW8.out.pt)
        rw [HPC.out] at HRO
        rw [HT.out]
        have hrs := HW8.out.res
        rw [HZ.out] at hrs
        have HRS := Lib.hid hrs; have HFS := Lib.hid HW8.out.flt
        clear ho8 hk8 hrx HBT HW7 hrs
        have hbf2 := fun w => buildFault0 w 2
        have herr : ∀ w6 w5, Keep (fun i => i = rb) w8 w5 → Keep (fun i => i = fb) w5 w6 → readB b = false → ReadFPost w b (.returned (.tuple #[.agg (ptCs (.slice none 0 0) zPt).toArray, .agg #[.int .i64 2, .int .i64 0]])) w6 := fun w6 w5 h1 h2 h3 =>
          ⟨(HW8.out.keep.trans' h1 (U := noBlk) (fun _ _ h => h) (fun i hi e => by have := HW8.out.ord; omega)).trans' h2 (fun _ _ h => h) (fun i hi e => by have := HW8.out.ord; omega), by
            rw [h3, if_neg (by decide)]
            unfold readE
            rw [if_pos HL.out]⟩
        have HERR := Lib.hid herr
        clear herr
        cases t
        · have HF : Hid (readB b = false) := Lib.hid (by unfold readB; rw [HT.out]; simp)
          go_wp2_with (first
            | ((with_reducible show wpList _ _ _ (⟨none, .store 26 (.tmp 2) (.tmp 115), _, _, _, _⟩ :: _) _ _); refine wpList_store_agg rfl 26 (.tmp 2) (.tmp 115) rfl rb 0 zc rfl rfl zc.toArray 26 HRS.out (by rw [hzl, List.size_toArray, hzl]; exact Nat.le_refl _) (sizePtL hzl) zco ?_; intro w9 hb5 hk5; rw [spl_whole _ _ (by rw [hzl, List.size_toArray, hzl])] at hb5; have HF5 := Lib.hid (hk5.blk HFS.out (by omega)); have HB5 := Lib.hid hb5; have HK5 := Lib.hid hk5; clear hb5 hk5)
            | ((with_reducible show wpList _ _ _ (⟨none, .store 74 (.tmp 3) (.tmp 116), _, _, _, _⟩ :: _) _ _); refine wpList_store_agg rfl 74 (.tmp 3) (.tmp 116) rfl fb 0 [.int .i64 (2), .int .i64 (0)] rfl rfl #[.int .i64 0, .int .i64 0] 74 HF5.out (Nat.le_refl _) sizeFault (by simp [Value.oneCell']) ?_; intro w12 hb6 hk6; rw [spl_whole _ _ (by rfl)] at hb6; have HB6 := Lib.hid (hk6.blk HB5.out (by omega)); have HF6 := Lib.hid hb6; have HK6 := Lib.hid hk6; clear hb6 hk6))
          refine bodyPost_ret (results_cells2 rfl _ _ rb fb _ _ _ _ _ _ _ _ rfl HB6.out ptUnder rfl (by rw [List.size_toArray, hzl]; exact sizePt) rfl HF6.out Tryz.underlying74 rfl sizeFault) rfl ?_
          have h := HERR.out _ _ HK5.out HK6.out HF.out
          rw [HZ.out] at h
          exact h
        · obtain ⟨u, hu⟩ : ∃ u, decide (ptB (ptOf b) = b) = u := ⟨_, rfl⟩
          have HU := Lib.hid hu
          have hcmp : ((strB (ptB (ptOf b))).toList == (strB b).toList) = u := by rw [strB_eq]; exact hu
          have hcmp2 : ((strB (ptB (ptOf b))).toList != (strB b).toList) = !u := by simp only [bne, hcmp]
          clear hu
          cases u
          · have HF : Hid (readB b = false) := Lib.hid (by unfold readB; rw [HU.out]; simp)
            go_wp2_with (first
              | ((with_reducible show wpList _ _ _ (⟨none, .store 26 (.tmp 2) (.tmp 115), _, _, _, _⟩ :: _) _ _); refine wpList_store_agg rfl 26 (.tmp 2) (.tmp 115) rfl rb 0 zc rfl rfl zc.toArray 26 HRS.out (by rw [hzl, List.size_toArray, hzl]; exact Nat.le_refl _) (sizePtL hzl) zco ?_; intro w9 hb5 hk5; rw [spl_whole _ _ (by rw [hzl, List.size_toArray, hzl])] at hb5; have HF5 := Lib.hid (hk5.blk HFS.out (by omega)); have HB5 := Lib.hid hb5; have HK5 := Lib.hid hk5; clear hb5 hk5)
              | ((with_reducible show wpList _ _ _ (⟨none, .store 74 (.tmp 3) (.tmp 116), _, _, _, _⟩ :: _) _ _); refine wpList_store_agg rfl 74 (.tmp 3) (.tmp 116) rfl fb 0 [.int .i64 (2), .int .i64 (0)] rfl rfl #[.int .i64 0, .int .i64 0] 74 HF5.out (Nat.le_refl _) sizeFault (by simp [Value.oneCell']) ?_; intro w12 hb6 hk6; rw [spl_whole _ _ (by rfl)] at hb6; have HB6 := Lib.hid (hk6.blk HB5.out (by omega)); have HF6 := Lib.hid hb6; have HK6 := Lib.hid hk6; clear hb6 hk6))
            refine bodyPost_ret (results_cells2 rfl _ _ rb fb _ _ _ _ _ _ _ _ rfl HB6.out ptUnder rfl (by rw [List.size_toArray, hzl]; exact sizePt) rfl HF6.out Tryz.underlying74 rfl sizeFault) rfl ?_
            have h := HERR.out _ _ HK5.out HK6.out HF.out
            rw [HZ.out] at h
            exact h
          · go_wp2_with (first
              | ((with_reducible show wpList _ _ _ (⟨_, .load 26 (.tmp 4), _, _, _, _⟩ :: _) _ _); refine wpList_load_mid rfl 26 (.tmp 4) rfl (pb) 0 rfl pc _ HRO.out ptUnder rfl (sizePtL hpl) ?_)
              | ((with_reducible show wpList _ _ _ (⟨none, .store 26 (.tmp 2) (.tmp 117), _, _, _, _⟩ :: _) _ _); refine wpList_store_agg rfl 26 (.tmp 2) (.tmp 117) rfl rb 0 pc rfl rfl zc.toArray 26 HRS.out (by rw [hpl, List.size_toArray, hzl]; exact Nat.le_refl _) (sizePtL hpl) pco ?_; intro w9 hb5 hk5; rw [spl_whole _ _ (by rw [hpl, List.size_toArray, hzl])] at hb5; have HF5 := Lib.hid (hk5.blk HFS.out (by omega)); have HB5 := Lib.hid hb5; have HK5 := Lib.hid hk5; clear hb5 hk5)
              | ((with_reducible show wpList _ _ _ (⟨none, .store 74 (.tmp 3) (.tmp 118), _, _, _, _⟩ :: _) _ _); refine wpList_store_agg rfl 74 (.tmp 3) (.tmp 118) rfl fb 0 [.int .i64 (0), .int .i64 (0)] rfl rfl #[.int .i64 0, .int .i64 0] 74 HF5.out (Nat.le_refl _) sizeFault (by simp [Value.oneCell']) ?_; intro w12 hb6 hk6; rw [spl_whole _ _ (by rfl)] at hb6; have HB6 := Lib.hid (hk6.blk HB5.out (by omega)); have HF6 := Lib.hid hb6; have HK6 := Lib.hid hk6; clear hb6 hk6))
            refine bodyPost_ret (results_cells2 rfl _ _ rb fb _ _ _ _ _ _ _ _ rfl HB6.out ptUnder rfl (by rw [List.size_toArray, hpl]; exact sizePt) rfl HF6.out Tryz.underlying74 rfl sizeFault) rfl ?_
            refine ⟨(HW8.out.keep.trans' HK5.out (U := noBlk) (fun _ _ h => h) (fun i hi e => by have := HW8.out.ord; omega)).trans' HK6.out (fun _ _ h => h) (fun i hi e => by have := HW8.out.ord; omega), ?_⟩
            rw [if_pos (by unfold readB; rw [HL.out, HT.out, HU.out]; rfl)]
            refine ⟨_, by rw [HPC.out], ?_⟩
            have e : (ptOf b).addrs.length = ql := HQ3.out
            rw [e]
            have h5 := HK5.out.owns HW8.out.row (fun i hi e => by have := owns_base HW8.out.row hi; have := HW8.out.ord; omega)
            exact ownsRow_mono (HK6.out.owns h5 (fun i hi e => by have := owns_base HW8.out.row hi; have := HW8.out.ord; omega)) (by have := HW8.out.ord; omega)

theorem rread_any (w : World) (bv : Value) (b : List UInt8) (hr : Rd w 1 bv b.length (b.map vb)) : Calls Tryz.prog 54 #[bv] w (ReadFPost w b) := by
  rcases Nat.lt_trichotomy b.length 47 with h | h | h
  · exact rread_less w bv b hr h
  · exact rread_main w bv b hr h
  · exact rread_more w bv b hr h

end Go.Proofs.YtpkpopgcfgonoaaGreatDoor
