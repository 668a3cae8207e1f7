/-
  The program's label.Unpack.
  Conditions: the bounds on sizes that each theorem names.
-/
import Derived.Test.YtdlegbcdmlmbpaaPlain5
import Derived.Test.YtdlegbcdmlmbpaaCopy
import Derived.Test.YtdlegbcdmlmbpaaBytes
import Derived.Test.YtdlegbcdmlmbpaaRturn
import Derived.Outline
namespace Go.Proofs.Ytdlegbcdmlmbpaa
set_option linter.unusedVariables false
open Go.RowKit
set_option maxRecDepth 100000

def UnpackPost (w : World) (r : Lab × Int) (e : Ending) (w' : World) : Prop := e = .returned (.tuple #[.agg r.1.cells.toArray, .int .i64 r.2]) ∧ Keep noBlk w w'
theorem zeroValLab (w : World) : (zeroValue 25).run Try.prog w = .ok (.agg zeroLab.cells.toArray) w := by kernel_rfl
theorem buildLab (w : World) : (Instr.build 25 #[]).run Try.prog w = .ok (.agg zeroLab.cells.toArray) w := by kernel_rfl
theorem oneCell_lab (L : Lab) : ∀ u ∈ L.cells, u.oneCell' = true := by
  intro u hu
  rcases List.mem_append.1 hu with h | h
  · exact oneCell_vb _ u h
  · simp [Lab.nums] at h
    rcases h with rfl | rfl | rfl | rfl | rfl <;> rfl
theorem fieldFault (x y : Int) (w : World) : (Instr.field 66 (.agg #[.int .i64 x, .int .i64 y]) 0).run Try.prog w = .ok (.int .i64 x) w := by kernel_rfl
theorem zeroLab_len : zeroLab.cells.length = 37 := rfl

set_option maxHeartbeats 1000000 in
theorem unpack_len (w : World) (bv : Value) (b : List UInt8) (hr : Rd w 1 bv b.length (b.map vb)) (hb : b.length ≤ 65536) (hl : b.length ≠ 256) :
    Calls Try.prog 18 #[bv] w (UnpackPost w (zeroLab, 4)) := by
  obtain ⟨a, c, rfl, -, -⟩ := hr.form
  clear hr
  obtain ⟨zc, hzc, hzl, hzo⟩ : ∃ zc, zeroLab.cells = zc ∧ zc.length = 37 ∧ ∀ u ∈ zc, u.oneCell' = true := ⟨_, rfl, rfl, oneCell_lab _⟩
  have hzv : ∀ w, (zeroValue 25).run Try.prog w = .ok (.agg zc.toArray) w := by rw [← hzc]; exact zeroValLab
  have hbd : ∀ w, (Instr.build 25 #[]).run Try.prog w = .ok (.agg zc.toArray) w := by rw [← hzc]; exact buildLab
  have HZ := Lib.hid hzc; clear hzc
  have ht : ((b.length : Int) != 256) = true := by simp; omega
  go_enter Try.func18, Try.ntmps18
  go_wp2_with (first
    | (refine wpList_alloc_at rfl 25 rfl _ hzv zc.toArray rfl ?_)
    | ((with_reducible show wpList _ _ _ (⟨none, .store 25 (.tmp 2) (.tmp 12), _, _, _, _⟩ :: _) _ _); refine wpList_store_agg rfl 25 (.tmp 2) (.tmp 12) rfl w.heap.size 0 zc rfl rfl _ _ (heap_alloc_new _ _) (by simp) (by rw [hzl]; exact sizeLab) hzo ?_; intro w2 hb2 hk2; have HB2 := Lib.hid hb2; have HK2 := Lib.hid hk2; clear hb2 hk2))
  refine bodyPost_ret (results_cell_row_tmp rfl _ _ w.heap.size _ _ _ _ rfl HB2.out Try.underlying25 rfl (by rw [spl_size, List.size_toArray, hzl]; exact sizeLab)) rfl ⟨?_, ?_⟩
  · rw [spl_whole _ _ (by simp), HZ.out]; rfl
  · exact ((Keep.refl noBlk w).alloc _).trans' HK2.out (fun _ _ h => h) (fun i hi e => by omega)

theorem rd_zeros {w : World} {v : Value} {n : Nat} {base : Nat} (h : w.ownsRow base 5 1 v n (List.replicate n (.int .u8 0))) : Rd w 1 v (List.replicate n (0 : UInt8)).length ((List.replicate n (0 : UInt8)).map vb) := by
  have := Rd.of_owns h
  rw [List.length_replicate, List.map_replicate]
  exact this

set_option maxHeartbeats 4000000 in
theorem unpack_zero (w : World) (bv : Value) (b : List UInt8) (hr : Rd w 1 bv b.length (b.map vb)) (hl : b.length = 256) (hz : b = List.replicate 256 0) :
    Calls Try.prog 18 #[bv] w (UnpackPost w (unpackR b)) := by
  have hlt : ∀ g, bv.ownBlock = some g → g < w.heap.size := by
    obtain ⟨k, hk, hk2⟩ := hr.lt (by simp; omega)
    intro g hg
    rw [hg] at hk; cases hk; exact hk2
  obtain ⟨a, c, hv, -, -⟩ := hr.form
  rw [hl] at hv
  subst hv
  have HR := Lib.hid hr
  clear hr
  obtain ⟨zc, hzc, hzl, hzo⟩ : ∃ zc, zeroLab.cells = zc ∧ zc.length = 37 ∧ ∀ u ∈ zc, u.oneCell' = true := ⟨_, rfl, rfl, oneCell_lab _⟩
  have hzv : ∀ w, (zeroValue 25).run Try.prog w = .ok (.agg zc.toArray) w := by rw [← hzc]; exact zeroValLab
  have hbd : ∀ w, (Instr.build 25 #[]).run Try.prog w = .ok (.agg zc.toArray) w := by rw [← hzc]; exact buildLab
  have HZ := Lib.hid hzc; clear hzc
  have HL := Lib.hid hl
  clear hl
  go_enter Try.func18, Try.ntmps18
  go_wp2_with (first
    | (refine wpList_alloc_at rfl 25 rfl _ hzv zc.toArray rfl ?_)
    | ((with_reducible show wpList _ _ _ (⟨some 15, .makeSlice _ _ _, _, _, _, _⟩ :: _) _ _); refine wpList_make_one rfl (.const (.int .i64 256)) (.const (.int .i64 256)) 26 rfl w.heap.size 5 (.int .u8 0) 1 Try.underlying26 infoU8 rfl 256 rfl rfl (by omega) (by unfold maxLen; omega) (by simp) ?_; intro w2 hown2 hk2; rw [World.size_alloc] at hown2; have HO2 := Lib.hid (rd_zeros hown2); have HK2 := Lib.hid hk2; clear hown2 hk2))
  have hkw2 : Keep noBlk w w2 := ((Keep.refl noBlk w).alloc _).trans HK2.out
  have hres : w2.heap[w.heap.size]? = some (.cells zc.toArray 25 (0, 0)) := HK2.out.blk (heap_alloc_new _ _) id
  have HRES := Lib.hid hres; have HKW2 := Lib.hid hkw2
  clear hres hkw2
  refine (beq_any w2 _ _ b (List.replicate 256 0) (HR.out.keep HKW2.out fun _ _ => id) HO2.out true (decide_eq_true hz)).mono ?_
  rintro e w3 ⟨rfl, rfl⟩
  have HUR := Lib.hid (show unpackR b = (zeroLab, 6) by unfold unpackR; rw [if_neg (by rw [HL.out]; simp), if_pos hz])
  clear hz
  go_wp2_with (first
    | ((with_reducible show wpList _ _ _ (⟨none, .store 25 (.tmp 2) (.tmp 17), _, _, _, _⟩ :: _) _ _); refine wpList_store_agg rfl 25 (.tmp 2) (.tmp 17) rfl w.heap.size 0 zc rfl rfl _ _ HRES.out (by simp) (by rw [hzl]; exact sizeLab) hzo ?_; intro w4 hb4 hk4; have HB4 := Lib.hid hb4; have HK4 := Lib.hid hk4; clear hb4 hk4))
  refine bodyPost_ret (results_cell_row_tmp rfl _ _ w.heap.size _ _ _ _ rfl HB4.out Try.underlying25 rfl (by rw [spl_size, List.size_toArray, hzl]; exact sizeLab)) rfl ⟨?_, ?_⟩
  · rw [spl_whole _ _ (by simp), HUR.out, HZ.out]; rfl
  · exact HKW2.out.trans' HK4.out (fun _ _ h => h) (fun i hi e => by omega)

/-- What stands in memory while a label is read. -/
structure UpW (w wr : World) (b2 b5 base p : Nat) (v : Value) (bs : List UInt8) (at_ : Nat) (fe fa : Int) (zc : List Value) (cs : Array Value) : Prop where
  res : wr.heap[b2]? = some (.cells zc.toArray 25 (0, 0))
  lab : wr.heap[b5]? = some (.cells cs 25 (0, 0))
  rd : Rdr wr base p v bs at_ fe fa
  keep : Keep noBlk w wr
  ne : b2 ≠ b5
  lb : w.heap.size ≤ base
  l2 : w.heap.size ≤ b2
  l5 : w.heap.size ≤ b5

theorem UpW.same {w wr w' : World} {b2 b5 base p : Nat} {v : Value} {bs : List UInt8} {at_ : Nat} {fe fa : Int} {zc : List Value} {cs : Array Value} (h : UpW w wr b2 b5 base p v bs at_ fe fa zc cs) (k : Keep noBlk wr w') : UpW w w' b2 b5 base p v bs at_ fe fa zc cs :=
  ⟨k.blk h.res id, k.blk h.lab id, h.rd.keep k id (fun _ _ => id), h.keep.trans k, h.ne, h.lb, h.l2, h.l5⟩
/-- Behind a call that turns the reader alone. -/
theorem UpW.read {w wr w' : World} {b2 b5 base p : Nat} {v : Value} {bs : List UInt8} {at_ at' : Nat} {fe fa fe' fa' : Int} {zc : List Value} {cs : Array Value} (h : UpW w wr b2 b5 base p v bs at_ fe fa zc cs) (k : Keep (fun i => i = p) wr w') (hr : Rdr w' base p v bs at' fe' fa') : UpW w w' b2 b5 base p v bs at' fe' fa' zc cs := by
  have hp : ∀ i cs', wr.heap[i]? = some (.cells cs' 25 (0, 0)) → ¬ i = p := by
    rintro i cs' hi rfl
    rw [h.rd.blk] at hi
    cases hi
  refine ⟨k.blk h.res (hp _ _ h.res), k.blk h.lab (hp _ _ h.lab), hr, h.keep.trans' k (fun _ _ h => h) (fun i hi e => ?_), h.ne, h.lb, h.l2, h.l5⟩
  have := h.rd.le
  have := h.lb
  omega
/-- Behind what turns the label's variable alone. -/
theorem UpW.put {w wr w' : World} {b2 b5 base p : Nat} {v : Value} {bs : List UInt8} {at_ : Nat} {fe fa : Int} {zc : List Value} {cs cs' : Array Value} (h : UpW w wr b2 b5 base p v bs at_ fe fa zc cs) (k : Keep (fun i => i = b5) wr w') (hl : w'.heap[b5]? = some (.cells cs' 25 (0, 0))) : UpW w w' b2 b5 base p v bs at_ fe fa zc cs' := by
  have h5 := h.l5
  refine ⟨k.blk h.res h.ne, hl, h.rd.keep k ?_ (fun g hg e => ?_), h.keep.trans' k (fun _ _ h => h) (fun i hi e => by omega), h.ne, h.lb, h.l2, h.l5⟩
  · intro e
    have := h.rd.blk
    rw [e, h.lab] at this
    cases this
  · subst e
    obtain ⟨cur, hc⟩ := owns_block h.rd.own hg
    rw [h.lab] at hc
    cases hc
theorem UpW.set {w wr : World} {b2 b5 base p : Nat} {v : Value} {bs : List UInt8} {at_ : Nat} {fe fa : Int} {zc : List Value} {cs : Array Value} (h : UpW w wr b2 b5 base p v bs at_ fe fa zc cs) (i : Nat) (u : Value) : UpW w (wr.setCell ⟨b5, i, none⟩ u) b2 b5 base p v bs at_ fe fa zc (cs.setIfInBounds i u) :=
  h.put ((Keep.refl (fun i => i = b5) wr).setCell (p := ⟨b5, i, none⟩) (fun _ => rfl) _) (set_blk h.lab i u)

/-- A label's variable. -/
def labCs (P : List Value) (n0 n1 n2 n3 n4 : Int) : Array Value := (P ++ ([.int .i64 n0, .int .i64 n1, .int .i64 n2, .int .i64 n3, .int .i64 n4] : List Value)).toArray
theorem labCs_set (P : List Value) (h : P.length = 32) (n0 n1 n2 n3 n4 x : Int) : (labCs P n0 n1 n2 n3 n4).setIfInBounds 32 (.int .i64 x) = labCs P x n1 n2 n3 n4 ∧ (labCs P n0 n1 n2 n3 n4).setIfInBounds 33 (.int .i64 x) = labCs P n0 x n2 n3 n4 ∧
    (labCs P n0 n1 n2 n3 n4).setIfInBounds 34 (.int .i64 x) = labCs P n0 n1 x n3 n4 ∧ (labCs P n0 n1 n2 n3 n4).setIfInBounds 35 (.int .i64 x) = labCs P n0 n1 n2 x n4 ∧ (labCs P n0 n1 n2 n3 n4).setIfInBounds 36 (.int .i64 x) = labCs P n0 n1 n2 n3 x := by
  unfold labCs
  refine ⟨?_, ?_, ?_, ?_, ?_⟩ <;> rw [List.setIfInBounds_toArray, List.set_append_right _ _ (by omega), h] <;> rfl
theorem labCs_get (P : List Value) (h : P.length = 32) (n0 n1 n2 n3 n4 : Int) (i : Nat) (hi : i < 5) : ∃ u, (labCs P n0 n1 n2 n3 n4)[32 + i]? = some u := by
  unfold labCs
  rw [List.getElem?_toArray, List.getElem?_append_right (by omega)]
  exact ⟨_, List.getElem?_eq_getElem (by simp; omega)⟩
theorem labCs_spl (P : List Value) (h : P.length = 32) (zc : List Value) (hz : zeroLab.cells = zc) : spl zc.toArray 0 P = labCs P 0 0 0 0 0 := by
  subst hz
  apply Array.ext_getElem?
  intro j
  rw [spl_get _ _ _ _ (by rw [h]; decide), h]
  unfold labCs
  simp only [List.getElem?_toArray]
  by_cases hj : j < 32
  · rw [if_pos (by omega), List.getElem?_append_left (by omega)]; rfl
  · rw [if_neg (by omega), List.getElem?_append_right (by omega), h]
    show (List.replicate 32 (Value.int .u8 0) ++ [.int .i64 0, .int .i64 0, .int .i64 0, .int .i64 0, .int .i64 0])[j]? = _
    rw [List.getElem?_append_right (by simp; omega)]; simp
theorem labCs_lab (L : Lab) : labCs (L.pool.map vb) L.dev L.devs L.copies L.sectors L.life = L.cells.toArray := rfl

set_option maxHeartbeats 4000000 in
theorem unpack_bad (w : World) (bv : Value) (b : List UInt8) (hr : Rd w 1 bv b.length (b.map vb)) (hl : b.length = 256) (hz : ¬ b = List.replicate 256 0) (h3 : (labOf b).sectors ≤ 4096) (h4 : (labOf b).life ≤ 2147483648) (hm : (labOf b).may = false) :
    Calls Try.prog 18 #[bv] w (UnpackPost w (unpackR b)) := by
  have hlt : ∀ g, bv.ownBlock = some g → g < w.heap.size := by
    obtain ⟨k, hk, hk2⟩ := hr.lt (by simp; omega)
    intro g hg
    rw [hg] at hk; cases hk; exact hk2
  obtain ⟨a, c, hv, -, -⟩ := hr.form
  rw [hl] at hv
  subst hv
  have HR := Lib.hid hr; have H3 := Lib.hid h3; have H4 := Lib.hid h4; have HM := Lib.hid hm; clear h3 h4 hm
  clear hr
  obtain ⟨zc, hzc, hzl, hzo⟩ : ∃ zc, zeroLab.cells = zc ∧ zc.length = 37 ∧ ∀ u ∈ zc, u.oneCell' = true := ⟨_, rfl, rfl, oneCell_lab _⟩
  have hzv : ∀ w, (zeroValue 25).run Try.prog w = .ok (.agg zc.toArray) w := by rw [← hzc]; exact zeroValLab
  have hbd : ∀ w, (Instr.build 25 #[]).run Try.prog w = .ok (.agg zc.toArray) w := by rw [← hzc]; exact buildLab
  have HZ := Lib.hid hzc; clear hzc
  have HL := Lib.hid hl
  clear hl
  go_enter Try.func18, Try.ntmps18
  go_wp2_with (first
    | (refine wpList_alloc_at rfl 25 rfl _ hzv zc.toArray rfl ?_)
    | ((with_reducible show wpList _ _ _ (⟨some 15, .makeSlice _ _ _, _, _, _, _⟩ :: _) _ _); refine wpList_make_one rfl (.const (.int .i64 256)) (.const (.int .i64 256)) 26 rfl w.heap.size 5 (.int .u8 0) 1 Try.underlying26 infoU8 rfl 256 rfl rfl (by omega) (by unfold maxLen; omega) (by simp) ?_; intro w2 hown2 hk2; rw [World.size_alloc] at hown2; have HO2 := Lib.hid (rd_zeros hown2); have HK2 := Lib.hid hk2; clear hown2 hk2))
  have hkw2 : Keep noBlk w w2 := ((Keep.refl noBlk w).alloc _).trans HK2.out
  have hres : w2.heap[w.heap.size]? = some (.cells zc.toArray 25 (0, 0)) := HK2.out.blk (heap_alloc_new _ _) id
  have HRES := Lib.hid hres; have HKW2 := Lib.hid hkw2
  clear hres hkw2
  have hne : decide (b = List.replicate 256 0) = false := by simpa using hz
  refine (beq_any w2 _ _ b (List.replicate 256 0) (HR.out.keep HKW2.out fun _ _ => id) HO2.out false hne).mono ?_
  rintro e w3 ⟨rfl, rfl⟩
  have hp32 := labOf_pool b HL.out
  have HP := Lib.hid hp32
  have HZN := Lib.hid hz
  clear hz hne hp32 HK2 HO2
  go_wp2_with fail
  refine (ropen_any _ b w2 (HR.out.keep HKW2.out fun _ _ => id) (by rw [HL.out]; omega)).mono ?_
  rintro e w3 ⟨p, v, rfl, hrd, hk3⟩
  have hres3 := hk3.blk HRES.out id
  have hkw3 := HKW2.out.trans hk3
  have hb2 := HKW2.out.size
  have HRD := Lib.hid hrd; have HR3 := Lib.hid hres3; have HK3 := Lib.hid hkw3
  clear hrd hk3 hres3 hkw3 HRES HKW2
  go_wp2_with fail
  refine (rraw_ok w3 w2.heap.size p v b 0 0 HRD.out 8 (by omega) (by rw [HL.out]; omega)).mono ?_
  rintro e w4 ⟨v4, rfl, -, hrd, hk4⟩
  have hpn : w.heap.size ≠ p := by have := HRD.out.le; have := lt_of_block HR3.out; intro e; rw [e, HRD.out.blk] at HR3; cases HR3.out
  have hres4 := hk4.blk HR3.out hpn
  have hpw : w.heap.size ≤ p := by have := HRD.out.le; omega
  have hkw4 : Keep noBlk w w4 := HK3.out.trans' hk4 (fun _ _ h => h) (fun i hi e => by omega)
  have HRD4 := Lib.hid hrd; have HR4 := Lib.hid hres4; have HK4 := Lib.hid hkw4
  clear hrd hk4 hres4 hkw4 HRD HR3 HK3 hpn
  go_wp2_with (first
    | (refine wpList_alloc_at rfl 25 rfl _ hzv zc.toArray rfl ?_))
  have U5 : UpW w ((w4.alloc (.cells zc.toArray 25)).drew) w.heap.size w4.heap.size w2.heap.size p v b 8 0 0 zc zc.toArray := by
    have K : Keep noBlk w4 ((w4.alloc (.cells zc.toArray 25)).drew) := ((Keep.refl _ _).alloc _).drew
    have hlt4 := lt_of_block HR4.out
    exact ⟨K.blk HR4.out id, heap_alloc_new w4 _, HRD4.out.keep K id (fun _ _ => id), HK4.out.trans K, by omega, hb2, Nat.le_refl _, HK4.out.size⟩
  obtain ⟨b5, hb5⟩ : ∃ b5, w4.heap.size = b5 := ⟨_, rfl⟩
  refine wp_region_any (by kernel_rfl) ?_
  obtain ⟨w5, hw5⟩ : ∃ w5, (w4.alloc (.cells zc.toArray 25)).drew = w5 := ⟨_, rfl⟩
  change wpAny _ _ _ _ _ _ _ ((w4.alloc (.cells zc.toArray 25)).drew)
  rw [hw5] at U5 ⊢
  rw [hb5] at U5 ⊢
  have HU5 := Lib.hid U5
  clear U5 HRD4 HR4 HK4 hw5 hb5 hpw
  refine wpAny_take (i := 0) (v := .pointer (some ⟨b5, 0, none⟩)) rfl (by kernel_rfl) (by kernel_rfl) (by kernel_rfl) (fun _ _ _ h => h) (.inl ⟨by rfl, fun w' => ?_⟩) ?_
  · go_simp
  refine wpAny_take (i := 1) (v := .slice (some ⟨b5, 0, none⟩) 32 32) rfl (by kernel_rfl) (by kernel_rfl) (by kernel_rfl) (fun _ _ _ h => h) (.inl ⟨by rfl, fun w' => ?_⟩) ?_
  · go_simp
  refine wpAny_take (i := 2) (v := .pointer (some ⟨p, 0, none⟩)) rfl (by kernel_rfl) (by kernel_rfl) (by kernel_rfl) (fun _ _ _ h => h) (.inl ⟨by rfl, fun w' => rfl⟩) ?_
  refine wpAny_one (k := 3) rfl (by kernel_rfl) ?_
  go_wp2_with fail
  refine (rraw_ok w5 w2.heap.size p v b 8 0 HU5.out.rd 32 (by omega) (by rw [HL.out]; omega)).mono ?_
  rintro e w6 ⟨v6, rfl, hown, hrd, hk6⟩
  have hrd6 : Rd w6 1 v6 32 ((labOf b).pool.map vb) := Rd.of_owns hown
  obtain ⟨a6, c6, rfl, -, -⟩ := hrd6.form
  have U6 := HU5.out.read hk6 hrd
  obtain ⟨P, hP⟩ : ∃ P, (labOf b).pool.map vb = P := ⟨_, rfl⟩
  have hPl : P.length = 32 := by rw [← hP]; simp [HP.out]
  have hPo : ∀ u ∈ P, u.oneCell' = true := by rw [← hP]; exact oneCell_vb _
  rw [hP] at hrd6
  have HPP := Lib.hid hP; have HU6 := Lib.hid U6; have HRD6 := Lib.hid hrd6
  clear hP U6 hrd6 hown hrd hk6 HU5
  go_wp2_with fail
  refine wpAny_one (k := 4) rfl (by kernel_rfl) ?_
  refine wpList_copy_rd rfl (.tmp 23) (.tmp 25) 26 26 rfl 5 Try.underlying26 sizeU8 b5 0 32 32 rfl _ 32 P rfl HRD6.out 32 rfl zc.toArray _ HU6.out.lab (by simp [hzl]) hPo ?_
  intro w7 hb7 hk7
  rw [List.take_of_length_le (by rw [hPl]; exact Nat.le_refl _), labCs_spl P hPl zc HZ.out] at hb7
  have HU7 := Lib.hid (HU6.out.put hk7 hb7)
  clear hb7 hk7
  refine wpList_nil ?_
  refine wpAny_done (by kernel_rfl) ?_ _
  clear HU6 HRD6
  obtain ⟨x0, hx0⟩ : ∃ x, beN ((b.drop 40).take 1) = x := ⟨_, rfl⟩
  have HX40 := Lib.hid hx0
  obtain ⟨x1, hx1⟩ : ∃ x, beN ((b.drop 41).take 1) = x := ⟨_, rfl⟩
  have HX41 := Lib.hid hx1
  obtain ⟨x2, hx2⟩ : ∃ x, beN ((b.drop 42).take 1) = x := ⟨_, rfl⟩
  have HX42 := Lib.hid hx2
  obtain ⟨x3, hx3⟩ : ∃ x, beN ((b.drop 43).take 2) = x := ⟨_, rfl⟩
  have HX43 := Lib.hid hx3
  obtain ⟨x4, hx4⟩ : ∃ x, beN ((b.drop 45).take 5) = x := ⟨_, rfl⟩
  have HX45 := Lib.hid hx4
  have l0 : (x0 : Int) ≤ 255 := by rw [← hx0]; exact beN_byte _ (by simp; omega)
  have l1 : (x1 : Int) ≤ 255 := by rw [← hx1]; exact beN_byte _ (by simp; omega)
  have l2 : (x2 : Int) ≤ 255 := by rw [← hx2]; exact beN_byte _ (by simp; omega)
  have HLab := Lib.hid (show labOf b = ⟨(labOf b).pool, x0, x1, x2, x3, x4⟩ by rw [← hx0, ← hx1, ← hx2, ← hx3, ← hx4]; rfl)
  have HX3 := Lib.hid hx3; have HX4 := Lib.hid hx4
  clear hx0 hx1 hx2 hx3 hx4
  go_wp2_with fail
  refine (rdnum_any w7 w2.heap.size p v b 40 0 HU7.out.rd 1 0 255 (by omega) (by omega) (by rw [HL.out]; omega) x0 HX40.out).mono ?_
  rintro e w8 ⟨hkn, hq⟩
  rw [if_pos ⟨by omega, l0⟩] at hq
  obtain ⟨rfl, hrd⟩ := hq
  have HU8 := Lib.hid (HU7.out.read hkn hrd)
  clear hkn hrd HU7
  go_wp2_with fail
  refine (rdnum_any w8 w2.heap.size p v b 41 0 HU8.out.rd 1 0 255 (by omega) (by omega) (by rw [HL.out]; omega) x1 HX41.out).mono ?_
  rintro e w9 ⟨hkn, hq⟩
  rw [if_pos ⟨by omega, l1⟩] at hq
  obtain ⟨rfl, hrd⟩ := hq
  have HU9 := Lib.hid (HU8.out.read hkn hrd)
  clear hkn hrd HU8
  go_wp2_with fail
  refine (rdnum_any w9 w2.heap.size p v b 42 0 HU9.out.rd 1 0 255 (by omega) (by omega) (by rw [HL.out]; omega) x2 HX42.out).mono ?_
  rintro e w10 ⟨hkn, hq⟩
  rw [if_pos ⟨by omega, l2⟩] at hq
  obtain ⟨rfl, hrd⟩ := hq
  have HU10 := Lib.hid (HU9.out.read hkn hrd)
  clear hkn hrd HU9
  have U11 := ((HU10.out.set 32 (.int .i64 x0)).set 33 (.int .i64 x1)).set 34 (.int .i64 x2)
  rw [(labCs_set P hPl 0 0 0 0 0 x0).1, (labCs_set P hPl x0 0 0 0 0 x1).2.1, (labCs_set P hPl x0 x1 0 0 0 x2).2.2.1] at U11
  obtain ⟨u0, g0⟩ := labCs_get P hPl 0 0 0 0 0 0 (by omega)
  obtain ⟨u1, g1⟩ := labCs_get P hPl 0 0 0 0 0 1 (by omega)
  obtain ⟨u2, g2⟩ := labCs_get P hPl 0 0 0 0 0 2 (by omega)
  have k0 := blk_cell HU10.out.lab g0
  have k1 := blk_cell HU10.out.lab g1
  have k2 := blk_cell HU10.out.lab g2
  have kf := fun i => blk_free HU10.out.lab i
  obtain ⟨w11, hw11⟩ : ∃ w11, ((w10.setCell ⟨b5, 32, none⟩ (.int .i64 x0)).setCell ⟨b5, 33, none⟩ (.int .i64 x1)).setCell ⟨b5, 34, none⟩ (.int .i64 x2) = w11 := ⟨_, rfl⟩
  rw [hw11] at U11
  have HU11 := Lib.hid U11
  clear U11 g0 g1 g2
  simp only [Nat.add_zero, Nat.reduceAdd] at k0 k1 k2
  go_wp2_with fail
  clear k0 k1 k2 kf hw11 HU10
  have l3 : (x3 : Int) ≤ 4096 := by have := H3.out; rw [HLab.out] at this; exact this
  have l4 : (x4 : Int) ≤ 2147483648 := by have := H4.out; rw [HLab.out] at this; exact this
  go_wp2_with fail
  refine (rdnum_any w11 w2.heap.size p v b 43 0 HU11.out.rd 2 0 4096 (by omega) (by omega) (by rw [HL.out]; omega) x3 HX43.out).mono ?_
  rintro e w12 ⟨hkn, hq⟩
  rw [if_pos ⟨by omega, l3⟩] at hq
  obtain ⟨rfl, hrd⟩ := hq
  have HU12 := Lib.hid (HU11.out.read hkn hrd)
  clear hkn hrd HU11
  go_wp2_with fail
  refine (rdnum_any w12 w2.heap.size p v b 45 0 HU12.out.rd 5 0 2147483648 (by omega) (by omega) (by rw [HL.out]; omega) x4 HX45.out).mono ?_
  rintro e w13 ⟨hkn, hq⟩
  rw [if_pos ⟨by omega, l4⟩] at hq
  obtain ⟨rfl, hrd⟩ := hq
  have HU13 := Lib.hid (HU12.out.read hkn hrd)
  clear hkn hrd HU12
  have U14 := (HU13.out.set 35 (.int .i64 x3)).set 36 (.int .i64 x4)
  rw [(labCs_set P hPl x0 x1 x2 0 0 x3).2.2.2.1, (labCs_set P hPl x0 x1 x2 x3 0 x4).2.2.2.2] at U14
  obtain ⟨u3, g3⟩ := labCs_get P hPl x0 x1 x2 0 0 3 (by omega)
  obtain ⟨u4, g4⟩ := labCs_get P hPl x0 x1 x2 0 0 4 (by omega)
  have k3 := blk_cell HU13.out.lab g3
  have k4 := blk_cell HU13.out.lab g4
  have kf := fun i => blk_free HU13.out.lab i
  obtain ⟨w14, hw14⟩ : ∃ w14, (w13.setCell ⟨b5, 35, none⟩ (.int .i64 x3)).setCell ⟨b5, 36, none⟩ (.int .i64 x4) = w14 := ⟨_, rfl⟩
  rw [hw14] at U14
  obtain ⟨L, hL, hLp, hLm⟩ : ∃ L : Lab, labCs P x0 x1 x2 x3 x4 = L.cells.toArray ∧ L.pool.length = 32 ∧ L = ⟨(labOf b).pool, x0, x1, x2, x3, x4⟩ := ⟨⟨(labOf b).pool, x0, x1, x2, x3, x4⟩, by rw [← HPP.out]; rfl, HP.out, rfl⟩
  rw [hL] at U14
  obtain ⟨lc, hlc⟩ : ∃ lc, L.cells = lc := ⟨_, rfl⟩
  have hlcl : lc.length = 37 := by rw [← hlc]; exact L.cells_length hLp
  have hlco : ∀ u ∈ lc, u.oneCell' = true := by rw [← hlc]; exact oneCell_lab L
  rw [hlc] at U14
  have HU14 := Lib.hid U14; have HLC := Lib.hid hlc; have HLM := Lib.hid hLm
  clear U14 g3 g4 hL hlc hLm
  simp only [Nat.reduceAdd] at k3 k4
  go_wp2_with (first
    | ((with_reducible show wpList _ _ _ (⟨some 43, .load 25 (.tmp 5), _, _, _, _⟩ :: _) _ _); refine wpList_load_mid rfl 25 (.tmp 5) rfl b5 0 rfl lc _ (rangeAt_whole HU14.out.lab) Try.underlying25 rfl (by rw [hlcl]; exact sizeLab) ?_))
  clear k3 k4 kf hw14 HU13
  have CP := pack_any L hLp w14
  rw [HLC.out] at CP
  refine CP.mono ?_
  clear CP
  rintro e w15 ⟨v15, rfl, hown15, hk15⟩
  have HU15 := Lib.hid (HU14.out.same hk15)
  have hrd15 := Rd.of_owns hown15
  obtain ⟨a15, c15, rfl, -, -⟩ := hrd15.form
  have HRD15 := Lib.hid hrd15
  clear hown15 hk15 hrd15 HU14
  have HLL := Lib.hid (show L = labOf b by rw [HLM.out]; exact HLab.out.symm)
  have HUR := Lib.hid (show unpackR b = (zeroLab, 11) by unfold unpackR; rw [if_neg (by rw [HL.out]; simp), if_neg HZN.out, if_neg (by rw [HM.out]; simp)])
  rw [show L.may = false by rw [HLL.out]; exact HM.out]
  have hfd := fieldFault
  go_wp2_with fail
  refine (fault_any w15 w2.heap.size p v b _ _ _ HU15.out.rd).mono ?_
  rintro e w16 ⟨rfl, hk16⟩
  have HU16 := Lib.hid (HU15.out.same hk16); have HK16 := Lib.hid hk16
  clear hk16 HU15
  go_wp2_with (first
    | ((with_reducible show wpList _ _ _ (⟨none, .store 25 (.tmp 2) (.tmp 61), _, _, _, _⟩ :: _) _ _); refine wpList_store_agg rfl 25 (.tmp 2) (.tmp 61) rfl w.heap.size 0 zc rfl rfl _ _ HU16.out.res (by simp) (by rw [hzl]; exact sizeLab) hzo ?_; intro w17 hb17 hk17; have HB17 := Lib.hid hb17; have HK17 := Lib.hid hk17; clear hb17 hk17))
  refine bodyPost_ret (results_cell_row_tmp rfl _ _ w.heap.size _ _ _ _ rfl HB17.out Try.underlying25 rfl (by rw [spl_size, List.size_toArray, hzl]; exact sizeLab)) rfl ⟨?_, ?_⟩
  · rw [spl_whole _ _ (by simp), HUR.out, HZ.out]; rfl
  · exact HU16.out.keep.trans' HK17.out (fun _ _ h => h) (fun i hi e => by omega)

set_option maxHeartbeats 4000000 in
theorem unpack_neq (w : World) (bv : Value) (b : List UInt8) (hr : Rd w 1 bv b.length (b.map vb)) (hl : b.length = 256) (hz : ¬ b = List.replicate 256 0) (h3 : (labOf b).sectors ≤ 4096) (h4 : (labOf b).life ≤ 2147483648) (hm : (labOf b).may = true) (hq : ¬ packB (labOf b) = b) :
    Calls Try.prog 18 #[bv] w (UnpackPost w (unpackR b)) := by
  have hlt : ∀ g, bv.ownBlock = some g → g < w.heap.size := by
    obtain ⟨k, hk, hk2⟩ := hr.lt (by simp; omega)
    intro g hg
    rw [hg] at hk; cases hk; exact hk2
  obtain ⟨a, c, hv, -, -⟩ := hr.form
  rw [hl] at hv
  subst hv
  have HR := Lib.hid hr; have H3 := Lib.hid h3; have H4 := Lib.hid h4; have HM := Lib.hid hm; have HQ := Lib.hid hq; clear h3 h4 hm hq
  clear hr
  obtain ⟨zc, hzc, hzl, hzo⟩ : ∃ zc, zeroLab.cells = zc ∧ zc.length = 37 ∧ ∀ u ∈ zc, u.oneCell' = true := ⟨_, rfl, rfl, oneCell_lab _⟩
  have hzv : ∀ w, (zeroValue 25).run Try.prog w = .ok (.agg zc.toArray) w := by rw [← hzc]; exact zeroValLab
  have hbd : ∀ w, (Instr.build 25 #[]).run Try.prog w = .ok (.agg zc.toArray) w := by rw [← hzc]; exact buildLab
  have HZ := Lib.hid hzc; clear hzc
  have HL := Lib.hid hl
  clear hl
  go_enter Try.func18, Try.ntmps18
  go_wp2_with (first
    | (refine wpList_alloc_at rfl 25 rfl _ hzv zc.toArray rfl ?_)
    | ((with_reducible show wpList _ _ _ (⟨some 15, .makeSlice _ _ _, _, _, _, _⟩ :: _) _ _); refine wpList_make_one rfl (.const (.int .i64 256)) (.const (.int .i64 256)) 26 rfl w.heap.size 5 (.int .u8 0) 1 Try.underlying26 infoU8 rfl 256 rfl rfl (by omega) (by unfold maxLen; omega) (by simp) ?_; intro w2 hown2 hk2; rw [World.size_alloc] at hown2; have HO2 := Lib.hid (rd_zeros hown2); have HK2 := Lib.hid hk2; clear hown2 hk2))
  have hkw2 : Keep noBlk w w2 := ((Keep.refl noBlk w).alloc _).trans HK2.out
  have hres : w2.heap[w.heap.size]? = some (.cells zc.toArray 25 (0, 0)) := HK2.out.blk (heap_alloc_new _ _) id
  have HRES := Lib.hid hres; have HKW2 := Lib.hid hkw2
  clear hres hkw2
  have hne : decide (b = List.replicate 256 0) = false := by simpa using hz
  refine (beq_any w2 _ _ b (List.replicate 256 0) (HR.out.keep HKW2.out fun _ _ => id) HO2.out false hne).mono ?_
  rintro e w3 ⟨rfl, rfl⟩
  have hp32 := labOf_pool b HL.out
  have HP := Lib.hid hp32
  have HZN := Lib.hid hz
  clear hz hne hp32 HK2 HO2
  go_wp2_with fail
  refine (ropen_any _ b w2 (HR.out.keep HKW2.out fun _ _ => id) (by rw [HL.out]; omega)).mono ?_
  rintro e w3 ⟨p, v, rfl, hrd, hk3⟩
  have hres3 := hk3.blk HRES.out id
  have hkw3 := HKW2.out.trans hk3
  have hb2 := HKW2.out.size
  have HRD := Lib.hid hrd; have HR3 := Lib.hid hres3; have HK3 := Lib.hid hkw3
  clear hrd hk3 hres3 hkw3 HRES HKW2
  go_wp2_with fail
  refine (rraw_ok w3 w2.heap.size p v b 0 0 HRD.out 8 (by omega) (by rw [HL.out]; omega)).mono ?_
  rintro e w4 ⟨v4, rfl, -, hrd, hk4⟩
  have hpn : w.heap.size ≠ p := by have := HRD.out.le; have := lt_of_block HR3.out; intro e; rw [e, HRD.out.blk] at HR3; cases HR3.out
  have hres4 := hk4.blk HR3.out hpn
  have hpw : w.heap.size ≤ p := by have := HRD.out.le; omega
  have hkw4 : Keep noBlk w w4 := HK3.out.trans' hk4 (fun _ _ h => h) (fun i hi e => by omega)
  have HRD4 := Lib.hid hrd; have HR4 := Lib.hid hres4; have HK4 := Lib.hid hkw4
  clear hrd hk4 hres4 hkw4 HRD HR3 HK3 hpn
  go_wp2_with (first
    | (refine wpList_alloc_at rfl 25 rfl _ hzv zc.toArray rfl ?_))
  have U5 : UpW w ((w4.alloc (.cells zc.toArray 25)).drew) w.heap.size w4.heap.size w2.heap.size p v b 8 0 0 zc zc.toArray := by
    have K : Keep noBlk w4 ((w4.alloc (.cells zc.toArray 25)).drew) := ((Keep.refl _ _).alloc _).drew
    have hlt4 := lt_of_block HR4.out
    exact ⟨K.blk HR4.out id, heap_alloc_new w4 _, HRD4.out.keep K id (fun _ _ => id), HK4.out.trans K, by omega, hb2, Nat.le_refl _, HK4.out.size⟩
  obtain ⟨b5, hb5⟩ : ∃ b5, w4.heap.size = b5 := ⟨_, rfl⟩
  refine wp_region_any (by kernel_rfl) ?_
  obtain ⟨w5, hw5⟩ : ∃ w5, (w4.alloc (.cells zc.toArray 25)).drew = w5 := ⟨_, rfl⟩
  change wpAny _ _ _ _ _ _ _ ((w4.alloc (.cells zc.toArray 25)).drew)
  rw [hw5] at U5 ⊢
  rw [hb5] at U5 ⊢
  have HU5 := Lib.hid U5
  clear U5 HRD4 HR4 HK4 hw5 hb5 hpw
  refine wpAny_take (i := 0) (v := .pointer (some ⟨b5, 0, none⟩)) rfl (by kernel_rfl) (by kernel_rfl) (by kernel_rfl) (fun _ _ _ h => h) (.inl ⟨by rfl, fun w' => ?_⟩) ?_
  · go_simp
  refine wpAny_take (i := 1) (v := .slice (some ⟨b5, 0, none⟩) 32 32) rfl (by kernel_rfl) (by kernel_rfl) (by kernel_rfl) (fun _ _ _ h => h) (.inl ⟨by rfl, fun w' => ?_⟩) ?_
  · go_simp
  refine wpAny_take (i := 2) (v := .pointer (some ⟨p, 0, none⟩)) rfl (by kernel_rfl) (by kernel_rfl) (by kernel_rfl) (fun _ _ _ h => h) (.inl ⟨by rfl, fun w' => rfl⟩) ?_
  refine wpAny_one (k := 3) rfl (by kernel_rfl) ?_
  go_wp2_with fail
  refine (rraw_ok w5 w2.heap.size p v b 8 0 HU5.out.rd 32 (by omega) (by rw [HL.out]; omega)).mono ?_
  rintro e w6 ⟨v6, rfl, hown, hrd, hk6⟩
  have hrd6 : Rd w6 1 v6 32 ((labOf b).pool.map vb) := Rd.of_owns hown
  obtain ⟨a6, c6, rfl, -, -⟩ := hrd6.form
  have U6 := HU5.out.read hk6 hrd
  obtain ⟨P, hP⟩ : ∃ P, (labOf b).pool.map vb = P := ⟨_, rfl⟩
  have hPl : P.length = 32 := by rw [← hP]; simp [HP.out]
  have hPo : ∀ u ∈ P, u.oneCell' = true := by rw [← hP]; exact oneCell_vb _
  rw [hP] at hrd6
  have HPP := Lib.hid hP; have HU6 := Lib.hid U6; have HRD6 := Lib.hid hrd6
  clear hP U6 hrd6 hown hrd hk6 HU5
  go_wp2_with fail
  refine wpAny_one (k := 4) rfl (by kernel_rfl) ?_
  refine wpList_copy_rd rfl (.tmp 23) (.tmp 25) 26 26 rfl 5 Try.underlying26 sizeU8 b5 0 32 32 rfl _ 32 P rfl HRD6.out 32 rfl zc.toArray _ HU6.out.lab (by simp [hzl]) hPo ?_
  intro w7 hb7 hk7
  rw [List.take_of_length_le (by rw [hPl]; exact Nat.le_refl _), labCs_spl P hPl zc HZ.out] at hb7
  have HU7 := Lib.hid (HU6.out.put hk7 hb7)
  clear hb7 hk7
  refine wpList_nil ?_
  refine wpAny_done (by kernel_rfl) ?_ _
  clear HU6 HRD6
  obtain ⟨x0, hx0⟩ : ∃ x, beN ((b.drop 40).take 1) = x := ⟨_, rfl⟩
  have HX40 := Lib.hid hx0
  obtain ⟨x1, hx1⟩ : ∃ x, beN ((b.drop 41).take 1) = x := ⟨_, rfl⟩
  have HX41 := Lib.hid hx1
  obtain ⟨x2, hx2⟩ : ∃ x, beN ((b.drop 42).take 1) = x := ⟨_, rfl⟩
  have HX42 := Lib.hid hx2
  obtain ⟨x3, hx3⟩ : ∃ x, beN ((b.drop 43).take 2) = x := ⟨_, rfl⟩
  have HX43 := Lib.hid hx3
  obtain ⟨x4, hx4⟩ : ∃ x, beN ((b.drop 45).take 5) = x := ⟨_, rfl⟩
  have HX45 := Lib.hid hx4
  have l0 : (x0 : Int) ≤ 255 := by rw [← hx0]; exact beN_byte _ (by simp; omega)
  have l1 : (x1 : Int) ≤ 255 := by rw [← hx1]; exact beN_byte _ (by simp; omega)
  have l2 : (x2 : Int) ≤ 255 := by rw [← hx2]; exact beN_byte _ (by simp; omega)
  have HLab := Lib.hid (show labOf b = ⟨(labOf b).pool, x0, x1, x2, x3, x4⟩ by rw [← hx0, ← hx1, ← hx2, ← hx3, ← hx4]; rfl)
  have HX3 := Lib.hid hx3; have HX4 := Lib.hid hx4
  clear hx0 hx1 hx2 hx3 hx4
  go_wp2_with fail
  refine (rdnum_any w7 w2.heap.size p v b 40 0 HU7.out.rd 1 0 255 (by omega) (by omega) (by rw [HL.out]; omega) x0 HX40.out).mono ?_
  rintro e w8 ⟨hkn, hq⟩
  rw [if_pos ⟨by omega, l0⟩] at hq
  obtain ⟨rfl, hrd⟩ := hq
  have HU8 := Lib.hid (HU7.out.read hkn hrd)
  clear hkn hrd HU7
  go_wp2_with fail
  refine (rdnum_any w8 w2.heap.size p v b 41 0 HU8.out.rd 1 0 255 (by omega) (by omega) (by rw [HL.out]; omega) x1 HX41.out).mono ?_
  rintro e w9 ⟨hkn, hq⟩
  rw [if_pos ⟨by omega, l1⟩] at hq
  obtain ⟨rfl, hrd⟩ := hq
  have HU9 := Lib.hid (HU8.out.read hkn hrd)
  clear hkn hrd HU8
  go_wp2_with fail
  refine (rdnum_any w9 w2.heap.size p v b 42 0 HU9.out.rd 1 0 255 (by omega) (by omega) (by rw [HL.out]; omega) x2 HX42.out).mono ?_
  rintro e w10 ⟨hkn, hq⟩
  rw [if_pos ⟨by omega, l2⟩] at hq
  obtain ⟨rfl, hrd⟩ := hq
  have HU10 := Lib.hid (HU9.out.read hkn hrd)
  clear hkn hrd HU9
  have U11 := ((HU10.out.set 32 (.int .i64 x0)).set 33 (.int .i64 x1)).set 34 (.int .i64 x2)
  rw [(labCs_set P hPl 0 0 0 0 0 x0).1, (labCs_set P hPl x0 0 0 0 0 x1).2.1, (labCs_set P hPl x0 x1 0 0 0 x2).2.2.1] at U11
  obtain ⟨u0, g0⟩ := labCs_get P hPl 0 0 0 0 0 0 (by omega)
  obtain ⟨u1, g1⟩ := labCs_get P hPl 0 0 0 0 0 1 (by omega)
  obtain ⟨u2, g2⟩ := labCs_get P hPl 0 0 0 0 0 2 (by omega)
  have k0 := blk_cell HU10.out.lab g0
  have k1 := blk_cell HU10.out.lab g1
  have k2 := blk_cell HU10.out.lab g2
  have kf := fun i => blk_free HU10.out.lab i
  obtain ⟨w11, hw11⟩ : ∃ w11, ((w10.setCell ⟨b5, 32, none⟩ (.int .i64 x0)).setCell ⟨b5, 33, none⟩ (.int .i64 x1)).setCell ⟨b5, 34, none⟩ (.int .i64 x2) = w11 := ⟨_, rfl⟩
  rw [hw11] at U11
  have HU11 := Lib.hid U11
  clear U11 g0 g1 g2
  simp only [Nat.add_zero, Nat.reduceAdd] at k0 k1 k2
  go_wp2_with fail
  clear k0 k1 k2 kf hw11 HU10
  have l3 : (x3 : Int) ≤ 4096 := by have := H3.out; rw [HLab.out] at this; exact this
  have l4 : (x4 : Int) ≤ 2147483648 := by have := H4.out; rw [HLab.out] at this; exact this
  go_wp2_with fail
  refine (rdnum_any w11 w2.heap.size p v b 43 0 HU11.out.rd 2 0 4096 (by omega) (by omega) (by rw [HL.out]; omega) x3 HX43.out).mono ?_
  rintro e w12 ⟨hkn, hq⟩
  rw [if_pos ⟨by omega, l3⟩] at hq
  obtain ⟨rfl, hrd⟩ := hq
  have HU12 := Lib.hid (HU11.out.read hkn hrd)
  clear hkn hrd HU11
  go_wp2_with fail
  refine (rdnum_any w12 w2.heap.size p v b 45 0 HU12.out.rd 5 0 2147483648 (by omega) (by omega) (by rw [HL.out]; omega) x4 HX45.out).mono ?_
  rintro e w13 ⟨hkn, hq⟩
  rw [if_pos ⟨by omega, l4⟩] at hq
  obtain ⟨rfl, hrd⟩ := hq
  have HU13 := Lib.hid (HU12.out.read hkn hrd)
  clear hkn hrd HU12
  have U14 := (HU13.out.set 35 (.int .i64 x3)).set 36 (.int .i64 x4)
  rw [(labCs_set P hPl x0 x1 x2 0 0 x3).2.2.2.1, (labCs_set P hPl x0 x1 x2 x3 0 x4).2.2.2.2] at U14
  obtain ⟨u3, g3⟩ := labCs_get P hPl x0 x1 x2 0 0 3 (by omega)
  obtain ⟨u4, g4⟩ := labCs_get P hPl x0 x1 x2 0 0 4 (by omega)
  have k3 := blk_cell HU13.out.lab g3
  have k4 := blk_cell HU13.out.lab g4
  have kf := fun i => blk_free HU13.out.lab i
  obtain ⟨w14, hw14⟩ : ∃ w14, (w13.setCell ⟨b5, 35, none⟩ (.int .i64 x3)).setCell ⟨b5, 36, none⟩ (.int .i64 x4) = w14 := ⟨_, rfl⟩
  rw [hw14] at U14
  obtain ⟨L, hL, hLp, hLm⟩ : ∃ L : Lab, labCs P x0 x1 x2 x3 x4 = L.cells.toArray ∧ L.pool.length = 32 ∧ L = ⟨(labOf b).pool, x0, x1, x2, x3, x4⟩ := ⟨⟨(labOf b).pool, x0, x1, x2, x3, x4⟩, by rw [← HPP.out]; rfl, HP.out, rfl⟩
  rw [hL] at U14
  obtain ⟨lc, hlc⟩ : ∃ lc, L.cells = lc := ⟨_, rfl⟩
  have hlcl : lc.length = 37 := by rw [← hlc]; exact L.cells_length hLp
  have hlco : ∀ u ∈ lc, u.oneCell' = true := by rw [← hlc]; exact oneCell_lab L
  rw [hlc] at U14
  have HU14 := Lib.hid U14; have HLC := Lib.hid hlc; have HLM := Lib.hid hLm
  clear U14 g3 g4 hL hlc hLm
  simp only [Nat.reduceAdd] at k3 k4
  go_wp2_with (first
    | ((with_reducible show wpList _ _ _ (⟨some 43, .load 25 (.tmp 5), _, _, _, _⟩ :: _) _ _); refine wpList_load_mid rfl 25 (.tmp 5) rfl b5 0 rfl lc _ (rangeAt_whole HU14.out.lab) Try.underlying25 rfl (by rw [hlcl]; exact sizeLab) ?_))
  clear k3 k4 kf hw14 HU13
  have CP := pack_any L hLp w14
  rw [HLC.out] at CP
  refine CP.mono ?_
  clear CP
  rintro e w15 ⟨v15, rfl, hown15, hk15⟩
  have HU15 := Lib.hid (HU14.out.same hk15)
  have hrd15 := Rd.of_owns hown15
  obtain ⟨a15, c15, rfl, -, -⟩ := hrd15.form
  have HRD15 := Lib.hid hrd15
  clear hown15 hk15 hrd15 HU14
  have HLL := Lib.hid (show L = labOf b by rw [HLM.out]; exact HLab.out.symm)
  have HUR := Lib.hid (show unpackR b = (zeroLab, 11) by unfold unpackR; rw [if_neg (by rw [HL.out]; simp), if_neg HZN.out, if_neg (by exact fun h => HQ.out h.2)])
  rw [show L.may = true by rw [HLL.out]; exact HM.out]
  have hfd := fieldFault
  go_wp2_with fail
  refine (fault_any w15 w2.heap.size p v b _ _ _ HU15.out.rd).mono ?_
  rintro e w16 ⟨rfl, hk16⟩
  have HU16 := Lib.hid (HU15.out.same hk16); have HK16 := Lib.hid hk16
  clear hk16 HU15
  go_wp2_with fail
  refine (beq_any w16 _ _ (packB L) b (HRD15.out.keep HK16.out fun _ _ => id) (HR.out.keep HU16.out.keep fun _ _ => id) false (by rw [HLL.out]; exact decide_eq_false HQ.out)).mono ?_
  rintro e w17 ⟨rfl, rfl⟩
  go_wp2_with (first
    | ((with_reducible show wpList _ _ _ (⟨none, .store 25 (.tmp 2) (.tmp 61), _, _, _, _⟩ :: _) _ _); refine wpList_store_agg rfl 25 (.tmp 2) (.tmp 61) rfl w.heap.size 0 zc rfl rfl _ _ HU16.out.res (by simp) (by rw [hzl]; exact sizeLab) hzo ?_; intro w17 hb17 hk17; have HB17 := Lib.hid hb17; have HK17 := Lib.hid hk17; clear hb17 hk17))
  refine bodyPost_ret (results_cell_row_tmp rfl _ _ w.heap.size _ _ _ _ rfl HB17.out Try.underlying25 rfl (by rw [spl_size, List.size_toArray, hzl]; exact sizeLab)) rfl ⟨?_, ?_⟩
  · rw [spl_whole _ _ (by simp), HUR.out, HZ.out]; rfl
  · exact HU16.out.keep.trans' HK17.out (fun _ _ h => h) (fun i hi e => by omega)

set_option maxHeartbeats 4000000 in
theorem unpack_ok (w : World) (bv : Value) (b : List UInt8) (hr : Rd w 1 bv b.length (b.map vb)) (hl : b.length = 256) (hz : ¬ b = List.replicate 256 0) (h3 : (labOf b).sectors ≤ 4096) (h4 : (labOf b).life ≤ 2147483648) (hm : (labOf b).may = true) (hq : packB (labOf b) = b) :
    Calls Try.prog 18 #[bv] w (UnpackPost w (unpackR b)) := by
  have hlt : ∀ g, bv.ownBlock = some g → g < w.heap.size := by
    obtain ⟨k, hk, hk2⟩ := hr.lt (by simp; omega)
    intro g hg
    rw [hg] at hk; cases hk; exact hk2
  obtain ⟨a, c, hv, -, -⟩ := hr.form
  rw [hl] at hv
  subst hv
  have HR := Lib.hid hr; have H3 := Lib.hid h3; have H4 := Lib.hid h4; have HM := Lib.hid hm; have HQ := Lib.hid hq; clear h3 h4 hm hq
  clear hr
  obtain ⟨zc, hzc, hzl, hzo⟩ : ∃ zc, zeroLab.cells = zc ∧ zc.length = 37 ∧ ∀ u ∈ zc, u.oneCell' = true := ⟨_, rfl, rfl, oneCell_lab _⟩
  have hzv : ∀ w, (zeroValue 25).run Try.prog w = .ok (.agg zc.toArray) w := by rw [← hzc]; exact zeroValLab
  have hbd : ∀ w, (Instr.build 25 #[]).run Try.prog w = .ok (.agg zc.toArray) w := by rw [← hzc]; exact buildLab
  have HZ := Lib.hid hzc; clear hzc
  have HL := Lib.hid hl
  clear hl
  go_enter Try.func18, Try.ntmps18
  go_wp2_with (first
    | (refine wpList_alloc_at rfl 25 rfl _ hzv zc.toArray rfl ?_)
    | ((with_reducible show wpList _ _ _ (⟨some 15, .makeSlice _ _ _, _, _, _, _⟩ :: _) _ _); refine wpList_make_one rfl (.const (.int .i64 256)) (.const (.int .i64 256)) 26 rfl w.heap.size 5 (.int .u8 0) 1 Try.underlying26 infoU8 rfl 256 rfl rfl (by omega) (by unfold maxLen; omega) (by simp) ?_; intro w2 hown2 hk2; rw [World.size_alloc] at hown2; have HO2 := Lib.hid (rd_zeros hown2); have HK2 := Lib.hid hk2; clear hown2 hk2))
  have hkw2 : Keep noBlk w w2 := ((Keep.refl noBlk w).alloc _).trans HK2.out
  have hres : w2.heap[w.heap.size]? = some (.cells zc.toArray 25 (0, 0)) := HK2.out.blk (heap_alloc_new _ _) id
  have HRES := Lib.hid hres; have HKW2 := Lib.hid hkw2
  clear hres hkw2
  have hne : decide (b = List.replicate 256 0) = false := by simpa using hz
  refine (beq_any w2 _ _ b (List.replicate 256 0) (HR.out.keep HKW2.out fun _ _ => id) HO2.out false hne).mono ?_
  rintro e w3 ⟨rfl, rfl⟩
  have hp32 := labOf_pool b HL.out
  have HP := Lib.hid hp32
  have HZN := Lib.hid hz
  clear hz hne hp32 HK2 HO2
  go_wp2_with fail
  refine (ropen_any _ b w2 (HR.out.keep HKW2.out fun _ _ => id) (by rw [HL.out]; omega)).mono ?_
  rintro e w3 ⟨p, v, rfl, hrd, hk3⟩
  have hres3 := hk3.blk HRES.out id
  have hkw3 := HKW2.out.trans hk3
  have hb2 := HKW2.out.size
  have HRD := Lib.hid hrd; have HR3 := Lib.hid hres3; have HK3 := Lib.hid hkw3
  clear hrd hk3 hres3 hkw3 HRES HKW2
  go_wp2_with fail
  refine (rraw_ok w3 w2.heap.size p v b 0 0 HRD.out 8 (by omega) (by rw [HL.out]; omega)).mono ?_
  rintro e w4 ⟨v4, rfl, -, hrd, hk4⟩
  have hpn : w.heap.size ≠ p := by have := HRD.out.le; have := lt_of_block HR3.out; intro e; rw [e, HRD.out.blk] at HR3; cases HR3.out
  have hres4 := hk4.blk HR3.out hpn
  have hpw : w.heap.size ≤ p := by have := HRD.out.le; omega
  have hkw4 : Keep noBlk w w4 := HK3.out.trans' hk4 (fun _ _ h => h) (fun i hi e => by omega)
  have HRD4 := Lib.hid hrd; have HR4 := Lib.hid hres4; have HK4 := Lib.hid hkw4
  clear hrd hk4 hres4 hkw4 HRD HR3 HK3 hpn
  go_wp2_with (first
    | (refine wpList_alloc_at rfl 25 rfl _ hzv zc.toArray rfl ?_))
  have U5 : UpW w ((w4.alloc (.cells zc.toArray 25)).drew) w.heap.size w4.heap.size w2.heap.size p v b 8 0 0 zc zc.toArray := by
    have K : Keep noBlk w4 ((w4.alloc (.cells zc.toArray 25)).drew) := ((Keep.refl _ _).alloc _).drew
    have hlt4 := lt_of_block HR4.out
    exact ⟨K.blk HR4.out id, heap_alloc_new w4 _, HRD4.out.keep K id (fun _ _ => id), HK4.out.trans K, by omega, hb2, Nat.le_refl _, HK4.out.size⟩
  obtain ⟨b5, hb5⟩ : ∃ b5, w4.heap.size = b5 := ⟨_, rfl⟩
  refine wp_region_any (by kernel_rfl) ?_
  obtain ⟨w5, hw5⟩ : ∃ w5, (w4.alloc (.cells zc.toArray 25)).drew = w5 := ⟨_, rfl⟩
  change wpAny _ _ _ _ _ _ _ ((w4.alloc (.cells zc.toArray 25)).drew)
  rw [hw5] at U5 ⊢
  rw [hb5] at U5 ⊢
  have HU5 := Lib.hid U5
  clear U5 HRD4 HR4 HK4 hw5 hb5 hpw
  refine wpAny_take (i := 0) (v := .pointer (some ⟨b5, 0, none⟩)) rfl (by kernel_rfl) (by kernel_rfl) (by kernel_rfl) (fun _ _ _ h => h) (.inl ⟨by rfl, fun w' => ?_⟩) ?_
  · go_simp
  refine wpAny_take (i := 1) (v := .slice (some ⟨b5, 0, none⟩) 32 32) rfl (by kernel_rfl) (by kernel_rfl) (by kernel_rfl) (fun _ _ _ h => h) (.inl ⟨by rfl, fun w' => ?_⟩) ?_
  · go_simp
  refine wpAny_take (i := 2) (v := .pointer (some ⟨p, 0, none⟩)) rfl (by kernel_rfl) (by kernel_rfl) (by kernel_rfl) (fun _ _ _ h => h) (.inl ⟨by rfl, fun w' => rfl⟩) ?_
  refine wpAny_one (k := 3) rfl (by kernel_rfl) ?_
  go_wp2_with fail
  refine (rraw_ok w5 w2.heap.size p v b 8 0 HU5.out.rd 32 (by omega) (by rw [HL.out]; omega)).mono ?_
  rintro e w6 ⟨v6, rfl, hown, hrd, hk6⟩
  have hrd6 : Rd w6 1 v6 32 ((labOf b).pool.map vb) := Rd.of_owns hown
  obtain ⟨a6, c6, rfl, -, -⟩ := hrd6.form
  have U6 := HU5.out.read hk6 hrd
  obtain ⟨P, hP⟩ : ∃ P, (labOf b).pool.map vb = P := ⟨_, rfl⟩
  have hPl : P.length = 32 := by rw [← hP]; simp [HP.out]
  have hPo : ∀ u ∈ P, u.oneCell' = true := by rw [← hP]; exact oneCell_vb _
  rw [hP] at hrd6
  have HPP := Lib.hid hP; have HU6 := Lib.hid U6; have HRD6 := Lib.hid hrd6
  clear hP U6 hrd6 hown hrd hk6 HU5
  go_wp2_with fail
  refine wpAny_one (k := 4) rfl (by kernel_rfl) ?_
  refine wpList_copy_rd rfl (.tmp 23) (.tmp 25) 26 26 rfl 5 Try.underlying26 sizeU8 b5 0 32 32 rfl _ 32 P rfl HRD6.out 32 rfl zc.toArray _ HU6.out.lab (by simp [hzl]) hPo ?_
  intro w7 hb7 hk7
  rw [List.take_of_length_le (by rw [hPl]; exact Nat.le_refl _), labCs_spl P hPl zc HZ.out] at hb7
  have HU7 := Lib.hid (HU6.out.put hk7 hb7)
  clear hb7 hk7
  refine wpList_nil ?_
  refine wpAny_done (by kernel_rfl) ?_ _
  clear HU6 HRD6
  obtain ⟨x0, hx0⟩ : ∃ x, beN ((b.drop 40).take 1) = x := ⟨_, rfl⟩
  have HX40 := Lib.hid hx0
  obtain ⟨x1, hx1⟩ : ∃ x, beN ((b.drop 41).take 1) = x := ⟨_, rfl⟩
  have HX41 := Lib.hid hx1
  obtain ⟨x2, hx2⟩ : ∃ x, beN ((b.drop 42).take 1) = x := ⟨_, rfl⟩
  have HX42 := Lib.hid hx2
  obtain ⟨x3, hx3⟩ : ∃ x, beN ((b.drop 43).take 2) = x := ⟨_, rfl⟩
  have HX43 := Lib.hid hx3
  obtain ⟨x4, hx4⟩ : ∃ x, beN ((b.drop 45).take 5) = x := ⟨_, rfl⟩
  have HX45 := Lib.hid hx4
  have l0 : (x0 : Int) ≤ 255 := by rw [← hx0]; exact beN_byte _ (by simp; omega)
  have l1 : (x1 : Int) ≤ 255 := by rw [← hx1]; exact beN_byte _ (by simp; omega)
  have l2 : (x2 : Int) ≤ 255 := by rw [← hx2]; exact beN_byte _ (by simp; omega)
  have HLab := Lib.hid (show labOf b = ⟨(labOf b).pool, x0, x1, x2, x3, x4⟩ by rw [← hx0, ← hx1, ← hx2, ← hx3, ← hx4]; rfl)
  have HX3 := Lib.hid hx3; have HX4 := Lib.hid hx4
  clear hx0 hx1 hx2 hx3 hx4
  go_wp2_with fail
  refine (rdnum_any w7 w2.heap.size p v b 40 0 HU7.out.rd 1 0 255 (by omega) (by omega) (by rw [HL.out]; omega) x0 HX40.out).mono ?_
  rintro e w8 ⟨hkn, hq⟩
  rw [if_pos ⟨by omega, l0⟩] at hq
  obtain ⟨rfl, hrd⟩ := hq
  have HU8 := Lib.hid (HU7.out.read hkn hrd)
  clear hkn hrd HU7
  go_wp2_with fail
  refine (rdnum_any w8 w2.heap.size p v b 41 0 HU8.out.rd 1 0 255 (by omega) (by omega) (by rw [HL.out]; omega) x1 HX41.out).mono ?_
  rintro e w9 ⟨hkn, hq⟩
  rw [if_pos ⟨by omega, l1⟩] at hq
  obtain ⟨rfl, hrd⟩ := hq
  have HU9 := Lib.hid (HU8.out.read hkn hrd)
  clear hkn hrd HU8
  go_wp2_with fail
  refine (rdnum_any w9 w2.heap.size p v b 42 0 HU9.out.rd 1 0 255 (by omega) (by omega) (by rw [HL.out]; omega) x2 HX42.out).mono ?_
  rintro e w10 ⟨hkn, hq⟩
  rw [if_pos ⟨by omega, l2⟩] at hq
  obtain ⟨rfl, hrd⟩ := hq
  have HU10 := Lib.hid (HU9.out.read hkn hrd)
  clear hkn hrd HU9
  have U11 := ((HU10.out.set 32 (.int .i64 x0)).set 33 (.int .i64 x1)).set 34 (.int .i64 x2)
  rw [(labCs_set P hPl 0 0 0 0 0 x0).1, (labCs_set P hPl x0 0 0 0 0 x1).2.1, (labCs_set P hPl x0 x1 0 0 0 x2).2.2.1] at U11
  obtain ⟨u0, g0⟩ := labCs_get P hPl 0 0 0 0 0 0 (by omega)
  obtain ⟨u1, g1⟩ := labCs_get P hPl 0 0 0 0 0 1 (by omega)
  obtain ⟨u2, g2⟩ := labCs_get P hPl 0 0 0 0 0 2 (by omega)
  have k0 := blk_cell HU10.out.lab g0
  have k1 := blk_cell HU10.out.lab g1
  have k2 := blk_cell HU10.out.lab g2
  have kf := fun i => blk_free HU10.out.lab i
  obtain ⟨w11, hw11⟩ : ∃ w11, ((w10.setCell ⟨b5, 32, none⟩ (.int .i64 x0)).setCell ⟨b5, 33, none⟩ (.int .i64 x1)).setCell ⟨b5, 34, none⟩ (.int .i64 x2) = w11 := ⟨_, rfl⟩
  rw [hw11] at U11
  have HU11 := Lib.hid U11
  clear U11 g0 g1 g2
  simp only [Nat.add_zero, Nat.reduceAdd] at k0 k1 k2
  go_wp2_with fail
  clear k0 k1 k2 kf hw11 HU10
  have l3 : (x3 : Int) ≤ 4096 := by have := H3.out; rw [HLab.out] at this; exact this
  have l4 : (x4 : Int) ≤ 2147483648 := by have := H4.out; rw [HLab.out] at this; exact this
  go_wp2_with fail
  refine (rdnum_any w11 w2.heap.size p v b 43 0 HU11.out.rd 2 0 4096 (by omega) (by omega) (by rw [HL.out]; omega) x3 HX43.out).mono ?_
  rintro e w12 ⟨hkn, hq⟩
  rw [if_pos ⟨by omega, l3⟩] at hq
  obtain ⟨rfl, hrd⟩ := hq
  have HU12 := Lib.hid (HU11.out.read hkn hrd)
  clear hkn hrd HU11
  go_wp2_with fail
  refine (rdnum_any w12 w2.heap.size p v b 45 0 HU12.out.rd 5 0 2147483648 (by omega) (by omega) (by rw [HL.out]; omega) x4 HX45.out).mono ?_
  rintro e w13 ⟨hkn, hq⟩
  rw [if_pos ⟨by omega, l4⟩] at hq
  obtain ⟨rfl, hrd⟩ := hq
  have HU13 := Lib.hid (HU12.out.read hkn hrd)
  clear hkn hrd HU12
  have U14 := (HU13.out.set 35 (.int .i64 x3)).set 36 (.int .i64 x4)
  rw [(labCs_set P hPl x0 x1 x2 0 0 x3).2.2.2.1, (labCs_set P hPl x0 x1 x2 x3 0 x4).2.2.2.2] at U14
  obtain ⟨u3, g3⟩ := labCs_get P hPl x0 x1 x2 0 0 3 (by omega)
  obtain ⟨u4, g4⟩ := labCs_get P hPl x0 x1 x2 0 0 4 (by omega)
  have k3 := blk_cell HU13.out.lab g3
  have k4 := blk_cell HU13.out.lab g4
  have kf := fun i => blk_free HU13.out.lab i
  obtain ⟨w14, hw14⟩ : ∃ w14, (w13.setCell ⟨b5, 35, none⟩ (.int .i64 x3)).setCell ⟨b5, 36, none⟩ (.int .i64 x4) = w14 := ⟨_, rfl⟩
  rw [hw14] at U14
  obtain ⟨L, hL, hLp, hLm⟩ : ∃ L : Lab, labCs P x0 x1 x2 x3 x4 = L.cells.toArray ∧ L.pool.length = 32 ∧ L = ⟨(labOf b).pool, x0, x1, x2, x3, x4⟩ := ⟨⟨(labOf b).pool, x0, x1, x2, x3, x4⟩, by rw [← HPP.out]; rfl, HP.out, rfl⟩
  rw [hL] at U14
  obtain ⟨lc, hlc⟩ : ∃ lc, L.cells = lc := ⟨_, rfl⟩
  have hlcl : lc.length = 37 := by rw [← hlc]; exact L.cells_length hLp
  have hlco : ∀ u ∈ lc, u.oneCell' = true := by rw [← hlc]; exact oneCell_lab L
  rw [hlc] at U14
  have HU14 := Lib.hid U14; have HLC := Lib.hid hlc; have HLM := Lib.hid hLm
  clear U14 g3 g4 hL hlc hLm
  simp only [Nat.reduceAdd] at k3 k4
  go_wp2_with (first
    | ((with_reducible show wpList _ _ _ (⟨some 43, .load 25 (.tmp 5), _, _, _, _⟩ :: _) _ _); refine wpList_load_mid rfl 25 (.tmp 5) rfl b5 0 rfl lc _ (rangeAt_whole HU14.out.lab) Try.underlying25 rfl (by rw [hlcl]; exact sizeLab) ?_))
  clear k3 k4 kf hw14 HU13
  have CP := pack_any L hLp w14
  rw [HLC.out] at CP
  refine CP.mono ?_
  clear CP
  rintro e w15 ⟨v15, rfl, hown15, hk15⟩
  have HU15 := Lib.hid (HU14.out.same hk15)
  have hrd15 := Rd.of_owns hown15
  obtain ⟨a15, c15, rfl, -, -⟩ := hrd15.form
  have HRD15 := Lib.hid hrd15
  clear hown15 hk15 hrd15 HU14
  have HLL := Lib.hid (show L = labOf b by rw [HLM.out]; exact HLab.out.symm)
  have HUR := Lib.hid (show unpackR b = (labOf b, 0) by unfold unpackR; rw [if_neg (by rw [HL.out]; simp), if_neg HZN.out, if_pos ⟨HM.out, HQ.out⟩])
  rw [show L.may = true by rw [HLL.out]; exact HM.out]
  have hfd := fieldFault
  go_wp2_with fail
  refine (fault_any w15 w2.heap.size p v b _ _ _ HU15.out.rd).mono ?_
  rintro e w16 ⟨rfl, hk16⟩
  have HU16 := Lib.hid (HU15.out.same hk16); have HK16 := Lib.hid hk16
  clear hk16 HU15
  go_wp2_with fail
  refine (beq_any w16 _ _ (packB L) b (HRD15.out.keep HK16.out fun _ _ => id) (HR.out.keep HU16.out.keep fun _ _ => id) true (by rw [HLL.out]; exact decide_eq_true HQ.out)).mono ?_
  rintro e w17 ⟨rfl, rfl⟩
  go_wp2_with (first
    | ((with_reducible show wpList _ _ _ (⟨some 62, .load 25 (.tmp 5), _, _, _, _⟩ :: _) _ _); refine wpList_load_mid rfl 25 (.tmp 5) rfl b5 0 rfl lc _ (rangeAt_whole HU16.out.lab) Try.underlying25 rfl (by rw [hlcl]; exact sizeLab) ?_)
    | ((with_reducible show wpList _ _ _ (⟨none, .store 25 (.tmp 2) (.tmp 62), _, _, _, _⟩ :: _) _ _); refine wpList_store_agg rfl 25 (.tmp 2) (.tmp 62) rfl w.heap.size 0 lc rfl rfl _ _ HU16.out.res (by rw [hlcl]; simp [hzl]) (by rw [hlcl]; exact sizeLab) hlco ?_; intro w17 hb17 hk17; have HB17 := Lib.hid hb17; have HK17 := Lib.hid hk17; clear hb17 hk17))
  refine bodyPost_ret (results_cell_row_tmp rfl _ _ w.heap.size _ _ _ _ rfl HB17.out Try.underlying25 rfl (by rw [spl_size, List.size_toArray, hzl]; exact sizeLab)) rfl ⟨?_, ?_⟩
  · rw [spl_whole _ _ (by rw [hlcl]; simp [hzl]), HUR.out, ← HLC.out, HLL.out]; rfl
  · exact HU16.out.keep.trans' HK17.out (fun _ _ h => h) (fun i hi e => by omega)

set_option maxHeartbeats 4000000 in
theorem unpack_fs (w : World) (bv : Value) (b : List UInt8) (hr : Rd w 1 bv b.length (b.map vb)) (hl : b.length = 256) (hz : ¬ b = List.replicate 256 0) (h3 : ¬ (labOf b).sectors ≤ 4096) :
    Calls Try.prog 18 #[bv] w (UnpackPost w (unpackR b)) := by
  have hlt : ∀ g, bv.ownBlock = some g → g < w.heap.size := by
    obtain ⟨k, hk, hk2⟩ := hr.lt (by simp; omega)
    intro g hg
    rw [hg] at hk; cases hk; exact hk2
  obtain ⟨a, c, hv, -, -⟩ := hr.form
  rw [hl] at hv
  subst hv
  have HR := Lib.hid hr; have H3 := Lib.hid h3; clear h3
  clear hr
  obtain ⟨zc, hzc, hzl, hzo⟩ : ∃ zc, zeroLab.cells = zc ∧ zc.length = 37 ∧ ∀ u ∈ zc, u.oneCell' = true := ⟨_, rfl, rfl, oneCell_lab _⟩
  have hzv : ∀ w, (zeroValue 25).run Try.prog w = .ok (.agg zc.toArray) w := by rw [← hzc]; exact zeroValLab
  have hbd : ∀ w, (Instr.build 25 #[]).run Try.prog w = .ok (.agg zc.toArray) w := by rw [← hzc]; exact buildLab
  have HZ := Lib.hid hzc; clear hzc
  have HL := Lib.hid hl
  clear hl
  go_enter Try.func18, Try.ntmps18
  go_wp2_with (first
    | (refine wpList_alloc_at rfl 25 rfl _ hzv zc.toArray rfl ?_)
    | ((with_reducible show wpList _ _ _ (⟨some 15, .makeSlice _ _ _, _, _, _, _⟩ :: _) _ _); refine wpList_make_one rfl (.const (.int .i64 256)) (.const (.int .i64 256)) 26 rfl w.heap.size 5 (.int .u8 0) 1 Try.underlying26 infoU8 rfl 256 rfl rfl (by omega) (by unfold maxLen; omega) (by simp) ?_; intro w2 hown2 hk2; rw [World.size_alloc] at hown2; have HO2 := Lib.hid (rd_zeros hown2); have HK2 := Lib.hid hk2; clear hown2 hk2))
  have hkw2 : Keep noBlk w w2 := ((Keep.refl noBlk w).alloc _).trans HK2.out
  have hres : w2.heap[w.heap.size]? = some (.cells zc.toArray 25 (0, 0)) := HK2.out.blk (heap_alloc_new _ _) id
  have HRES := Lib.hid hres; have HKW2 := Lib.hid hkw2
  clear hres hkw2
  have hne : decide (b = List.replicate 256 0) = false := by simpa using hz
  refine (beq_any w2 _ _ b (List.replicate 256 0) (HR.out.keep HKW2.out fun _ _ => id) HO2.out false hne).mono ?_
  rintro e w3 ⟨rfl, rfl⟩
  have hp32 := labOf_pool b HL.out
  have HP := Lib.hid hp32
  have HZN := Lib.hid hz
  clear hz hne hp32 HK2 HO2
  go_wp2_with fail
  refine (ropen_any _ b w2 (HR.out.keep HKW2.out fun _ _ => id) (by rw [HL.out]; omega)).mono ?_
  rintro e w3 ⟨p, v, rfl, hrd, hk3⟩
  have hres3 := hk3.blk HRES.out id
  have hkw3 := HKW2.out.trans hk3
  have hb2 := HKW2.out.size
  have HRD := Lib.hid hrd; have HR3 := Lib.hid hres3; have HK3 := Lib.hid hkw3
  clear hrd hk3 hres3 hkw3 HRES HKW2
  go_wp2_with fail
  refine (rraw_ok w3 w2.heap.size p v b 0 0 HRD.out 8 (by omega) (by rw [HL.out]; omega)).mono ?_
  rintro e w4 ⟨v4, rfl, -, hrd, hk4⟩
  have hpn : w.heap.size ≠ p := by have := HRD.out.le; have := lt_of_block HR3.out; intro e; rw [e, HRD.out.blk] at HR3; cases HR3.out
  have hres4 := hk4.blk HR3.out hpn
  have hpw : w.heap.size ≤ p := by have := HRD.out.le; omega
  have hkw4 : Keep noBlk w w4 := HK3.out.trans' hk4 (fun _ _ h => h) (fun i hi e => by omega)
  have HRD4 := Lib.hid hrd; have HR4 := Lib.hid hres4; have HK4 := Lib.hid hkw4
  clear hrd hk4 hres4 hkw4 HRD HR3 HK3 hpn
  go_wp2_with (first
    | (refine wpList_alloc_at rfl 25 rfl _ hzv zc.toArray rfl ?_))
  have U5 : UpW w ((w4.alloc (.cells zc.toArray 25)).drew) w.heap.size w4.heap.size w2.heap.size p v b 8 0 0 zc zc.toArray := by
    have K : Keep noBlk w4 ((w4.alloc (.cells zc.toArray 25)).drew) := ((Keep.refl _ _).alloc _).drew
    have hlt4 := lt_of_block HR4.out
    exact ⟨K.blk HR4.out id, heap_alloc_new w4 _, HRD4.out.keep K id (fun _ _ => id), HK4.out.trans K, by omega, hb2, Nat.le_refl _, HK4.out.size⟩
  obtain ⟨b5, hb5⟩ : ∃ b5, w4.heap.size = b5 := ⟨_, rfl⟩
  refine wp_region_any (by kernel_rfl) ?_
  obtain ⟨w5, hw5⟩ : ∃ w5, (w4.alloc (.cells zc.toArray 25)).drew = w5 := ⟨_, rfl⟩
  change wpAny _ _ _ _ _ _ _ ((w4.alloc (.cells zc.toArray 25)).drew)
  rw [hw5] at U5 ⊢
  rw [hb5] at U5 ⊢
  have HU5 := Lib.hid U5
  clear U5 HRD4 HR4 HK4 hw5 hb5 hpw
  refine wpAny_take (i := 0) (v := .pointer (some ⟨b5, 0, none⟩)) rfl (by kernel_rfl) (by kernel_rfl) (by kernel_rfl) (fun _ _ _ h => h) (.inl ⟨by rfl, fun w' => ?_⟩) ?_
  · go_simp
  refine wpAny_take (i := 1) (v := .slice (some ⟨b5, 0, none⟩) 32 32) rfl (by kernel_rfl) (by kernel_rfl) (by kernel_rfl) (fun _ _ _ h => h) (.inl ⟨by rfl, fun w' => ?_⟩) ?_
  · go_simp
  refine wpAny_take (i := 2) (v := .pointer (some ⟨p, 0, none⟩)) rfl (by kernel_rfl) (by kernel_rfl) (by kernel_rfl) (fun _ _ _ h => h) (.inl ⟨by rfl, fun w' => rfl⟩) ?_
  refine wpAny_one (k := 3) rfl (by kernel_rfl) ?_
  go_wp2_with fail
  refine (rraw_ok w5 w2.heap.size p v b 8 0 HU5.out.rd 32 (by omega) (by rw [HL.out]; omega)).mono ?_
  rintro e w6 ⟨v6, rfl, hown, hrd, hk6⟩
  have hrd6 : Rd w6 1 v6 32 ((labOf b).pool.map vb) := Rd.of_owns hown
  obtain ⟨a6, c6, rfl, -, -⟩ := hrd6.form
  have U6 := HU5.out.read hk6 hrd
  obtain ⟨P, hP⟩ : ∃ P, (labOf b).pool.map vb = P := ⟨_, rfl⟩
  have hPl : P.length = 32 := by rw [← hP]; simp [HP.out]
  have hPo : ∀ u ∈ P, u.oneCell' = true := by rw [← hP]; exact oneCell_vb _
  rw [hP] at hrd6
  have HPP := Lib.hid hP; have HU6 := Lib.hid U6; have HRD6 := Lib.hid hrd6
  clear hP U6 hrd6 hown hrd hk6 HU5
  go_wp2_with fail
  refine wpAny_one (k := 4) rfl (by kernel_rfl) ?_
  refine wpList_copy_rd rfl (.tmp 23) (.tmp 25) 26 26 rfl 5 Try.underlying26 sizeU8 b5 0 32 32 rfl _ 32 P rfl HRD6.out 32 rfl zc.toArray _ HU6.out.lab (by simp [hzl]) hPo ?_
  intro w7 hb7 hk7
  rw [List.take_of_length_le (by rw [hPl]; exact Nat.le_refl _), labCs_spl P hPl zc HZ.out] at hb7
  have HU7 := Lib.hid (HU6.out.put hk7 hb7)
  clear hb7 hk7
  refine wpList_nil ?_
  refine wpAny_done (by kernel_rfl) ?_ _
  clear HU6 HRD6
  obtain ⟨x0, hx0⟩ : ∃ x, beN ((b.drop 40).take 1) = x := ⟨_, rfl⟩
  have HX40 := Lib.hid hx0
  obtain ⟨x1, hx1⟩ : ∃ x, beN ((b.drop 41).take 1) = x := ⟨_, rfl⟩
  have HX41 := Lib.hid hx1
  obtain ⟨x2, hx2⟩ : ∃ x, beN ((b.drop 42).take 1) = x := ⟨_, rfl⟩
  have HX42 := Lib.hid hx2
  obtain ⟨x3, hx3⟩ : ∃ x, beN ((b.drop 43).take 2) = x := ⟨_, rfl⟩
  have HX43 := Lib.hid hx3
  obtain ⟨x4, hx4⟩ : ∃ x, beN ((b.drop 45).take 5) = x := ⟨_, rfl⟩
  have HX45 := Lib.hid hx4
  have l0 : (x0 : Int) ≤ 255 := by rw [← hx0]; exact beN_byte _ (by simp; omega)
  have l1 : (x1 : Int) ≤ 255 := by rw [← hx1]; exact beN_byte _ (by simp; omega)
  have l2 : (x2 : Int) ≤ 255 := by rw [← hx2]; exact beN_byte _ (by simp; omega)
  have HLab := Lib.hid (show labOf b = ⟨(labOf b).pool, x0, x1, x2, x3, x4⟩ by rw [← hx0, ← hx1, ← hx2, ← hx3, ← hx4]; rfl)
  have HX3 := Lib.hid hx3; have HX4 := Lib.hid hx4
  clear hx0 hx1 hx2 hx3 hx4
  go_wp2_with fail
  refine (rdnum_any w7 w2.heap.size p v b 40 0 HU7.out.rd 1 0 255 (by omega) (by omega) (by rw [HL.out]; omega) x0 HX40.out).mono ?_
  rintro e w8 ⟨hkn, hq⟩
  rw [if_pos ⟨by omega, l0⟩] at hq
  obtain ⟨rfl, hrd⟩ := hq
  have HU8 := Lib.hid (HU7.out.read hkn hrd)
  clear hkn hrd HU7
  go_wp2_with fail
  refine (rdnum_any w8 w2.heap.size p v b 41 0 HU8.out.rd 1 0 255 (by omega) (by omega) (by rw [HL.out]; omega) x1 HX41.out).mono ?_
  rintro e w9 ⟨hkn, hq⟩
  rw [if_pos ⟨by omega, l1⟩] at hq
  obtain ⟨rfl, hrd⟩ := hq
  have HU9 := Lib.hid (HU8.out.read hkn hrd)
  clear hkn hrd HU8
  go_wp2_with fail
  refine (rdnum_any w9 w2.heap.size p v b 42 0 HU9.out.rd 1 0 255 (by omega) (by omega) (by rw [HL.out]; omega) x2 HX42.out).mono ?_
  rintro e w10 ⟨hkn, hq⟩
  rw [if_pos ⟨by omega, l2⟩] at hq
  obtain ⟨rfl, hrd⟩ := hq
  have HU10 := Lib.hid (HU9.out.read hkn hrd)
  clear hkn hrd HU9
  have U11 := ((HU10.out.set 32 (.int .i64 x0)).set 33 (.int .i64 x1)).set 34 (.int .i64 x2)
  rw [(labCs_set P hPl 0 0 0 0 0 x0).1, (labCs_set P hPl x0 0 0 0 0 x1).2.1, (labCs_set P hPl x0 x1 0 0 0 x2).2.2.1] at U11
  obtain ⟨u0, g0⟩ := labCs_get P hPl 0 0 0 0 0 0 (by omega)
  obtain ⟨u1, g1⟩ := labCs_get P hPl 0 0 0 0 0 1 (by omega)
  obtain ⟨u2, g2⟩ := labCs_get P hPl 0 0 0 0 0 2 (by omega)
  have k0 := blk_cell HU10.out.lab g0
  have k1 := blk_cell HU10.out.lab g1
  have k2 := blk_cell HU10.out.lab g2
  have kf := fun i => blk_free HU10.out.lab i
  obtain ⟨w11, hw11⟩ : ∃ w11, ((w10.setCell ⟨b5, 32, none⟩ (.int .i64 x0)).setCell ⟨b5, 33, none⟩ (.int .i64 x1)).setCell ⟨b5, 34, none⟩ (.int .i64 x2) = w11 := ⟨_, rfl⟩
  rw [hw11] at U11
  have HU11 := Lib.hid U11
  clear U11 g0 g1 g2
  simp only [Nat.add_zero, Nat.reduceAdd] at k0 k1 k2
  go_wp2_with fail
  clear k0 k1 k2 kf hw11 HU10
  have l3 : ¬ (x3 : Int) ≤ 4096 := by have := H3.out; rw [HLab.out] at this; have : (4096 : Int) < x3 := this; omega
  go_wp2_with fail
  refine (rdnum_any w11 w2.heap.size p v b 43 0 HU11.out.rd 2 0 4096 (by omega) (by omega) (by rw [HL.out]; omega) x3 HX43.out).mono ?_
  rintro e w12 ⟨hkn, hq⟩
  rw [if_neg (by omega)] at hq
  obtain ⟨rfl, hrd⟩ := hq
  have HU12 := Lib.hid (HU11.out.read hkn hrd)
  clear hkn hrd HU11
  go_wp2_with fail
  refine (rdnum_fault w12 w2.heap.size p v b _ _ _ HU12.out.rd (by decide) 5 0 2147483648).mono ?_
  rintro e w13 ⟨rfl, hrd, hkn⟩
  have HU13 := Lib.hid (HU12.out.same hkn)
  clear hkn hrd HU12
  have U14 := (HU13.out.set 35 (.int .i64 (0 : Int))).set 36 (.int .i64 (0 : Int))
  rw [(labCs_set P hPl x0 x1 x2 0 0 (0 : Int)).2.2.2.1, (labCs_set P hPl x0 x1 x2 (0 : Int) 0 (0 : Int)).2.2.2.2] at U14
  obtain ⟨u3, g3⟩ := labCs_get P hPl x0 x1 x2 0 0 3 (by omega)
  obtain ⟨u4, g4⟩ := labCs_get P hPl x0 x1 x2 0 0 4 (by omega)
  have k3 := blk_cell HU13.out.lab g3
  have k4 := blk_cell HU13.out.lab g4
  have kf := fun i => blk_free HU13.out.lab i
  obtain ⟨w14, hw14⟩ : ∃ w14, (w13.setCell ⟨b5, 35, none⟩ (.int .i64 (0 : Int))).setCell ⟨b5, 36, none⟩ (.int .i64 (0 : Int)) = w14 := ⟨_, rfl⟩
  rw [hw14] at U14
  obtain ⟨L, hL, hLp, hLm⟩ : ∃ L : Lab, labCs P x0 x1 x2 (0 : Int) (0 : Int) = L.cells.toArray ∧ L.pool.length = 32 ∧ L = ⟨(labOf b).pool, x0, x1, x2, (0 : Int), (0 : Int)⟩ := ⟨⟨(labOf b).pool, x0, x1, x2, (0 : Int), (0 : Int)⟩, by rw [← HPP.out]; rfl, HP.out, rfl⟩
  rw [hL] at U14
  obtain ⟨lc, hlc⟩ : ∃ lc, L.cells = lc := ⟨_, rfl⟩
  have hlcl : lc.length = 37 := by rw [← hlc]; exact L.cells_length hLp
  have hlco : ∀ u ∈ lc, u.oneCell' = true := by rw [← hlc]; exact oneCell_lab L
  rw [hlc] at U14
  have HU14 := Lib.hid U14; have HLC := Lib.hid hlc; have HLM := Lib.hid hLm
  clear U14 g3 g4 hL hlc hLm
  simp only [Nat.reduceAdd] at k3 k4
  go_wp2_with (first
    | ((with_reducible show wpList _ _ _ (⟨some 43, .load 25 (.tmp 5), _, _, _, _⟩ :: _) _ _); refine wpList_load_mid rfl 25 (.tmp 5) rfl b5 0 rfl lc _ (rangeAt_whole HU14.out.lab) Try.underlying25 rfl (by rw [hlcl]; exact sizeLab) ?_))
  clear k3 k4 kf hw14 HU13
  have CP := pack_any L hLp w14
  rw [HLC.out] at CP
  refine CP.mono ?_
  clear CP
  rintro e w15 ⟨v15, rfl, hown15, hk15⟩
  have HU15 := Lib.hid (HU14.out.same hk15)
  have hrd15 := Rd.of_owns hown15
  obtain ⟨a15, c15, rfl, -, -⟩ := hrd15.form
  have HRD15 := Lib.hid hrd15
  clear hown15 hk15 hrd15 HU14
  obtain ⟨ee, hee⟩ : ∃ ee : Int, (if L.may = true then (0 : Int) else 2) = ee := ⟨_, rfl⟩
  rw [hee]
  clear hee
  have HUR := Lib.hid (show unpackR b = (zeroLab, 11) by unfold unpackR; rw [if_neg (by rw [HL.out]; simp), if_neg HZN.out, if_neg (by intro h; have := H3.out; have := (may_sectors h.1).2; omega)])
  have hfd := fieldFault
  go_wp2_with fail
  refine (fault_any w15 w2.heap.size p v b _ _ _ HU15.out.rd).mono ?_
  rintro e w16 ⟨rfl, hk16⟩
  have HU16 := Lib.hid (HU15.out.same hk16); have HK16 := Lib.hid hk16
  clear hk16 HU15
  go_wp2_with (first
    | ((with_reducible show wpList _ _ _ (⟨none, .store 25 (.tmp 2) (.tmp 61), _, _, _, _⟩ :: _) _ _); refine wpList_store_agg rfl 25 (.tmp 2) (.tmp 61) rfl w.heap.size 0 zc rfl rfl _ _ HU16.out.res (by simp) (by rw [hzl]; exact sizeLab) hzo ?_; intro w17 hb17 hk17; have HB17 := Lib.hid hb17; have HK17 := Lib.hid hk17; clear hb17 hk17))
  refine bodyPost_ret (results_cell_row_tmp rfl _ _ w.heap.size _ _ _ _ rfl HB17.out Try.underlying25 rfl (by rw [spl_size, List.size_toArray, hzl]; exact sizeLab)) rfl ⟨?_, ?_⟩
  · rw [spl_whole _ _ (by simp), HUR.out, HZ.out]; rfl
  · exact HU16.out.keep.trans' HK17.out (fun _ _ h => h) (fun i hi e => by omega)

set_option maxHeartbeats 4000000 in
theorem unpack_fl (w : World) (bv : Value) (b : List UInt8) (hr : Rd w 1 bv b.length (b.map vb)) (hl : b.length = 256) (hz : ¬ b = List.replicate 256 0) (h3 : (labOf b).sectors ≤ 4096) (h4 : ¬ (labOf b).life ≤ 2147483648) :
    Calls Try.prog 18 #[bv] w (UnpackPost w (unpackR b)) := by
  have hlt : ∀ g, bv.ownBlock = some g → g < w.heap.size := by
    obtain ⟨k, hk, hk2⟩ := hr.lt (by simp; omega)
    intro g hg
    rw [hg] at hk; cases hk; exact hk2
  obtain ⟨a, c, hv, -, -⟩ := hr.form
  rw [hl] at hv
  subst hv
  have HR := Lib.hid hr; have H3 := Lib.hid h3; have H4 := Lib.hid h4; clear h3 h4
  clear hr
  obtain ⟨zc, hzc, hzl, hzo⟩ : ∃ zc, zeroLab.cells = zc ∧ zc.length = 37 ∧ ∀ u ∈ zc, u.oneCell' = true := ⟨_, rfl, rfl, oneCell_lab _⟩
  have hzv : ∀ w, (zeroValue 25).run Try.prog w = .ok (.agg zc.toArray) w := by rw [← hzc]; exact zeroValLab
  have hbd : ∀ w, (Instr.build 25 #[]).run Try.prog w = .ok (.agg zc.toArray) w := by rw [← hzc]; exact buildLab
  have HZ := Lib.hid hzc; clear hzc
  have HL := Lib.hid hl
  clear hl
  go_enter Try.func18, Try.ntmps18
  go_wp2_with (first
    | (refine wpList_alloc_at rfl 25 rfl _ hzv zc.toArray rfl ?_)
    | ((with_reducible show wpList _ _ _ (⟨some 15, .makeSlice _ _ _, _, _, _, _⟩ :: _) _ _); refine wpList_make_one rfl (.const (.int .i64 256)) (.const (.int .i64 256)) 26 rfl w.heap.size 5 (.int .u8 0) 1 Try.underlying26 infoU8 rfl 256 rfl rfl (by omega) (by unfold maxLen; omega) (by simp) ?_; intro w2 hown2 hk2; rw [World.size_alloc] at hown2; have HO2 := Lib.hid (rd_zeros hown2); have HK2 := Lib.hid hk2; clear hown2 hk2))
  have hkw2 : Keep noBlk w w2 := ((Keep.refl noBlk w).alloc _).trans HK2.out
  have hres : w2.heap[w.heap.size]? = some (.cells zc.toArray 25 (0, 0)) := HK2.out.blk (heap_alloc_new _ _) id
  have HRES := Lib.hid hres; have HKW2 := Lib.hid hkw2
  clear hres hkw2
  have hne : decide (b = List.replicate 256 0) = false := by simpa using hz
  refine (beq_any w2 _ _ b (List.replicate 256 0) (HR.out.keep HKW2.out fun _ _ => id) HO2.out false hne).mono ?_
  rintro e w3 ⟨rfl, rfl⟩
  have hp32 := labOf_pool b HL.out
  have HP := Lib.hid hp32
  have HZN := Lib.hid hz
  clear hz hne hp32 HK2 HO2
  go_wp2_with fail
  refine (ropen_any _ b w2 (HR.out.keep HKW2.out fun _ _ => id) (by rw [HL.out]; omega)).mono ?_
  rintro e w3 ⟨p, v, rfl, hrd, hk3⟩
  have hres3 := hk3.blk HRES.out id
  have hkw3 := HKW2.out.trans hk3
  have hb2 := HKW2.out.size
  have HRD := Lib.hid hrd; have HR3 := Lib.hid hres3; have HK3 := Lib.hid hkw3
  clear hrd hk3 hres3 hkw3 HRES HKW2
  go_wp2_with fail
  refine (rraw_ok w3 w2.heap.size p v b 0 0 HRD.out 8 (by omega) (by rw [HL.out]; omega)).mono ?_
  rintro e w4 ⟨v4, rfl, -, hrd, hk4⟩
  have hpn : w.heap.size ≠ p := by have := HRD.out.le; have := lt_of_block HR3.out; intro e; rw [e, HRD.out.blk] at HR3; cases HR3.out
  have hres4 := hk4.blk HR3.out hpn
  have hpw : w.heap.size ≤ p := by have := HRD.out.le; omega
  have hkw4 : Keep noBlk w w4 := HK3.out.trans' hk4 (fun _ _ h => h) (fun i hi e => by omega)
  have HRD4 := Lib.hid hrd; have HR4 := Lib.hid hres4; have HK4 := Lib.hid hkw4
  clear hrd hk4 hres4 hkw4 HRD HR3 HK3 hpn
  go_wp2_with (first
    | (refine wpList_alloc_at rfl 25 rfl _ hzv zc.toArray rfl ?_))
  have U5 : UpW w ((w4.alloc (.cells zc.toArray 25)).drew) w.heap.size w4.heap.size w2.heap.size p v b 8 0 0 zc zc.toArray := by
    have K : Keep noBlk w4 ((w4.alloc (.cells zc.toArray 25)).drew) := ((Keep.refl _ _).alloc _).drew
    have hlt4 := lt_of_block HR4.out
    exact ⟨K.blk HR4.out id, heap_alloc_new w4 _, HRD4.out.keep K id (fun _ _ => id), HK4.out.trans K, by omega, hb2, Nat.le_refl _, HK4.out.size⟩
  obtain ⟨b5, hb5⟩ : ∃ b5, w4.heap.size = b5 := ⟨_, rfl⟩
  refine wp_region_any (by kernel_rfl) ?_
  obtain ⟨w5, hw5⟩ : ∃ w5, (w4.alloc (.cells zc.toArray 25)).drew = w5 := ⟨_, rfl⟩
  change wpAny _ _ _ _ _ _ _ ((w4.alloc (.cells zc.toArray 25)).drew)
  rw [hw5] at U5 ⊢
  rw [hb5] at U5 ⊢
  have HU5 := Lib.hid U5
  clear U5 HRD4 HR4 HK4 hw5 hb5 hpw
  refine wpAny_take (i := 0) (v := .pointer (some ⟨b5, 0, none⟩)) rfl (by kernel_rfl) (by kernel_rfl) (by kernel_rfl) (fun _ _ _ h => h) (.inl ⟨by rfl, fun w' => ?_⟩) ?_
  · go_simp
  refine wpAny_take (i := 1) (v := .slice (some ⟨b5, 0, none⟩) 32 32) rfl (by kernel_rfl) (by kernel_rfl) (by kernel_rfl) (fun _ _ _ h => h) (.inl ⟨by rfl, fun w' => ?_⟩) ?_
  · go_simp
  refine wpAny_take (i := 2) (v := .pointer (some ⟨p, 0, none⟩)) rfl (by kernel_rfl) (by kernel_rfl) (by kernel_rfl) (fun _ _ _ h => h) (.inl ⟨by rfl, fun w' => rfl⟩) ?_
  refine wpAny_one (k := 3) rfl (by kernel_rfl) ?_
  go_wp2_with fail
  refine (rraw_ok w5 w2.heap.size p v b 8 0 HU5.out.rd 32 (by omega) (by rw [HL.out]; omega)).mono ?_
  rintro e w6 ⟨v6, rfl, hown, hrd, hk6⟩
  have hrd6 : Rd w6 1 v6 32 ((labOf b).pool.map vb) := Rd.of_owns hown
  obtain ⟨a6, c6, rfl, -, -⟩ := hrd6.form
  have U6 := HU5.out.read hk6 hrd
  obtain ⟨P, hP⟩ : ∃ P, (labOf b).pool.map vb = P := ⟨_, rfl⟩
  have hPl : P.length = 32 := by rw [← hP]; simp [HP.out]
  have hPo : ∀ u ∈ P, u.oneCell' = true := by rw [← hP]; exact oneCell_vb _
  rw [hP] at hrd6
  have HPP := Lib.hid hP; have HU6 := Lib.hid U6; have HRD6 := Lib.hid hrd6
  clear hP U6 hrd6 hown hrd hk6 HU5
  go_wp2_with fail
  refine wpAny_one (k := 4) rfl (by kernel_rfl) ?_
  refine wpList_copy_rd rfl (.tmp 23) (.tmp 25) 26 26 rfl 5 Try.underlying26 sizeU8 b5 0 32 32 rfl _ 32 P rfl HRD6.out 32 rfl zc.toArray _ HU6.out.lab (by simp [hzl]) hPo ?_
  intro w7 hb7 hk7
  rw [List.take_of_length_le (by rw [hPl]; exact Nat.le_refl _), labCs_spl P hPl zc HZ.out] at hb7
  have HU7 := Lib.hid (HU6.out.put hk7 hb7)
  clear hb7 hk7
  refine wpList_nil ?_
  refine wpAny_done (by kernel_rfl) ?_ _
  clear HU6 HRD6
  obtain ⟨x0, hx0⟩ : ∃ x, beN ((b.drop 40).take 1) = x := ⟨_, rfl⟩
  have HX40 := Lib.hid hx0
  obtain ⟨x1, hx1⟩ : ∃ x, beN ((b.drop 41).take 1) = x := ⟨_, rfl⟩
  have HX41 := Lib.hid hx1
  obtain ⟨x2, hx2⟩ : ∃ x, beN ((b.drop 42).take 1) = x := ⟨_, rfl⟩
  have HX42 := Lib.hid hx2
  obtain ⟨x3, hx3⟩ : ∃ x, beN ((b.drop 43).take 2) = x := ⟨_, rfl⟩
  have HX43 := Lib.hid hx3
  obtain ⟨x4, hx4⟩ : ∃ x, beN ((b.drop 45).take 5) = x := ⟨_, rfl⟩
  have HX45 := Lib.hid hx4
  have l0 : (x0 : Int) ≤ 255 := by rw [← hx0]; exact beN_byte _ (by simp; omega)
  have l1 : (x1 : Int) ≤ 255 := by rw [← hx1]; exact beN_byte _ (by simp; omega)
  have l2 : (x2 : Int) ≤ 255 := by rw [← hx2]; exact beN_byte _ (by simp; omega)
  have HLab := Lib.hid (show labOf b = ⟨(labOf b).pool, x0, x1, x2, x3, x4⟩ by rw [← hx0, ← hx1, ← hx2, ← hx3, ← hx4]; rfl)
  have HX3 := Lib.hid hx3; have HX4 := Lib.hid hx4
  clear hx0 hx1 hx2 hx3 hx4
  go_wp2_with fail
  refine (rdnum_any w7 w2.heap.size p v b 40 0 HU7.out.rd 1 0 255 (by omega) (by omega) (by rw [HL.out]; omega) x0 HX40.out).mono ?_
  rintro e w8 ⟨hkn, hq⟩
  rw [if_pos ⟨by omega, l0⟩] at hq
  obtain ⟨rfl, hrd⟩ := hq
  have HU8 := Lib.hid (HU7.out.read hkn hrd)
  clear hkn hrd HU7
  go_wp2_with fail
  refine (rdnum_any w8 w2.heap.size p v b 41 0 HU8.out.rd 1 0 255 (by omega) (by omega) (by rw [HL.out]; omega) x1 HX41.out).mono ?_
  rintro e w9 ⟨hkn, hq⟩
  rw [if_pos ⟨by omega, l1⟩] at hq
  obtain ⟨rfl, hrd⟩ := hq
  have HU9 := Lib.hid (HU8.out.read hkn hrd)
  clear hkn hrd HU8
  go_wp2_with fail
  refine (rdnum_any w9 w2.heap.size p v b 42 0 HU9.out.rd 1 0 255 (by omega) (by omega) (by rw [HL.out]; omega) x2 HX42.out).mono ?_
  rintro e w10 ⟨hkn, hq⟩
  rw [if_pos ⟨by omega, l2⟩] at hq
  obtain ⟨rfl, hrd⟩ := hq
  have HU10 := Lib.hid (HU9.out.read hkn hrd)
  clear hkn hrd HU9
  have U11 := ((HU10.out.set 32 (.int .i64 x0)).set 33 (.int .i64 x1)).set 34 (.int .i64 x2)
  rw [(labCs_set P hPl 0 0 0 0 0 x0).1, (labCs_set P hPl x0 0 0 0 0 x1).2.1, (labCs_set P hPl x0 x1 0 0 0 x2).2.2.1] at U11
  obtain ⟨u0, g0⟩ := labCs_get P hPl 0 0 0 0 0 0 (by omega)
  obtain ⟨u1, g1⟩ := labCs_get P hPl 0 0 0 0 0 1 (by omega)
  obtain ⟨u2, g2⟩ := labCs_get P hPl 0 0 0 0 0 2 (by omega)
  have k0 := blk_cell HU10.out.lab g0
  have k1 := blk_cell HU10.out.lab g1
  have k2 := blk_cell HU10.out.lab g2
  have kf := fun i => blk_free HU10.out.lab i
  obtain ⟨w11, hw11⟩ : ∃ w11, ((w10.setCell ⟨b5, 32, none⟩ (.int .i64 x0)).setCell ⟨b5, 33, none⟩ (.int .i64 x1)).setCell ⟨b5, 34, none⟩ (.int .i64 x2) = w11 := ⟨_, rfl⟩
  rw [hw11] at U11
  have HU11 := Lib.hid U11
  clear U11 g0 g1 g2
  simp only [Nat.add_zero, Nat.reduceAdd] at k0 k1 k2
  go_wp2_with fail
  clear k0 k1 k2 kf hw11 HU10
  have l3 : (x3 : Int) ≤ 4096 := by have := H3.out; rw [HLab.out] at this; exact this
  have l4 : ¬ (x4 : Int) ≤ 2147483648 := by have := H4.out; rw [HLab.out] at this; have : (2147483648 : Int) < x4 := this; omega
  go_wp2_with fail
  refine (rdnum_any w11 w2.heap.size p v b 43 0 HU11.out.rd 2 0 4096 (by omega) (by omega) (by rw [HL.out]; omega) x3 HX43.out).mono ?_
  rintro e w12 ⟨hkn, hq⟩
  rw [if_pos ⟨by omega, l3⟩] at hq
  obtain ⟨rfl, hrd⟩ := hq
  have HU12 := Lib.hid (HU11.out.read hkn hrd)
  clear hkn hrd HU11
  go_wp2_with fail
  refine (rdnum_any w12 w2.heap.size p v b 45 0 HU12.out.rd 5 0 2147483648 (by omega) (by omega) (by rw [HL.out]; omega) x4 HX45.out).mono ?_
  rintro e w13 ⟨hkn, hq⟩
  rw [if_neg (by omega)] at hq
  obtain ⟨rfl, hrd⟩ := hq
  have HU13 := Lib.hid (HU12.out.read hkn hrd)
  clear hkn hrd HU12
  have U14 := (HU13.out.set 35 (.int .i64 x3)).set 36 (.int .i64 (0 : Int))
  rw [(labCs_set P hPl x0 x1 x2 0 0 x3).2.2.2.1, (labCs_set P hPl x0 x1 x2 x3 0 (0 : Int)).2.2.2.2] at U14
  obtain ⟨u3, g3⟩ := labCs_get P hPl x0 x1 x2 0 0 3 (by omega)
  obtain ⟨u4, g4⟩ := labCs_get P hPl x0 x1 x2 0 0 4 (by omega)
  have k3 := blk_cell HU13.out.lab g3
  have k4 := blk_cell HU13.out.lab g4
  have kf := fun i => blk_free HU13.out.lab i
  obtain ⟨w14, hw14⟩ : ∃ w14, (w13.setCell ⟨b5, 35, none⟩ (.int .i64 x3)).setCell ⟨b5, 36, none⟩ (.int .i64 (0 : Int)) = w14 := ⟨_, rfl⟩
  rw [hw14] at U14
  obtain ⟨L, hL, hLp, hLm⟩ : ∃ L : Lab, labCs P x0 x1 x2 x3 (0 : Int) = L.cells.toArray ∧ L.pool.length = 32 ∧ L = ⟨(labOf b).pool, x0, x1, x2, x3, (0 : Int)⟩ := ⟨⟨(labOf b).pool, x0, x1, x2, x3, (0 : Int)⟩, by rw [← HPP.out]; rfl, HP.out, rfl⟩
  rw [hL] at U14
  obtain ⟨lc, hlc⟩ : ∃ lc, L.cells = lc := ⟨_, rfl⟩
  have hlcl : lc.length = 37 := by rw [← hlc]; exact L.cells_length hLp
  have hlco : ∀ u ∈ lc, u.oneCell' = true := by rw [← hlc]; exact oneCell_lab L
  rw [hlc] at U14
  have HU14 := Lib.hid U14; have HLC := Lib.hid hlc; have HLM := Lib.hid hLm
  clear U14 g3 g4 hL hlc hLm
  simp only [Nat.reduceAdd] at k3 k4
  go_wp2_with (first
    | ((with_reducible show wpList _ _ _ (⟨some 43, .load 25 (.tmp 5), _, _, _, _⟩ :: _) _ _); refine wpList_load_mid rfl 25 (.tmp 5) rfl b5 0 rfl lc _ (rangeAt_whole HU14.out.lab) Try.underlying25 rfl (by rw [hlcl]; exact sizeLab) ?_))
  clear k3 k4 kf hw14 HU13
  have CP := pack_any L hLp w14
  rw [HLC.out] at CP
  refine CP.mono ?_
  clear CP
  rintro e w15 ⟨v15, rfl, hown15, hk15⟩
  have HU15 := Lib.hid (HU14.out.same hk15)
  have hrd15 := Rd.of_owns hown15
  obtain ⟨a15, c15, rfl, -, -⟩ := hrd15.form
  have HRD15 := Lib.hid hrd15
  clear hown15 hk15 hrd15 HU14
  obtain ⟨ee, hee⟩ : ∃ ee : Int, (if L.may = true then (0 : Int) else 2) = ee := ⟨_, rfl⟩
  rw [hee]
  clear hee
  have HUR := Lib.hid (show unpackR b = (zeroLab, 11) by unfold unpackR; rw [if_neg (by rw [HL.out]; simp), if_neg HZN.out, if_neg (by intro h; have := H4.out; have := (may_life h.1).2; omega)])
  have hfd := fieldFault
  go_wp2_with fail
  refine (fault_any w15 w2.heap.size p v b _ _ _ HU15.out.rd).mono ?_
  rintro e w16 ⟨rfl, hk16⟩
  have HU16 := Lib.hid (HU15.out.same hk16); have HK16 := Lib.hid hk16
  clear hk16 HU15
  go_wp2_with (first
    | ((with_reducible show wpList _ _ _ (⟨none, .store 25 (.tmp 2) (.tmp 61), _, _, _, _⟩ :: _) _ _); refine wpList_store_agg rfl 25 (.tmp 2) (.tmp 61) rfl w.heap.size 0 zc rfl rfl _ _ HU16.out.res (by simp) (by rw [hzl]; exact sizeLab) hzo ?_; intro w17 hb17 hk17; have HB17 := Lib.hid hb17; have HK17 := Lib.hid hk17; clear hb17 hk17))
  refine bodyPost_ret (results_cell_row_tmp rfl _ _ w.heap.size _ _ _ _ rfl HB17.out Try.underlying25 rfl (by rw [spl_size, List.size_toArray, hzl]; exact sizeLab)) rfl ⟨?_, ?_⟩
  · rw [spl_whole _ _ (by simp), HUR.out, HZ.out]; rfl
  · exact HU16.out.keep.trans' HK17.out (fun _ _ h => h) (fun i hi e => by omega)

theorem unpack_any (w : World) (bv : Value) (b : List UInt8) (hr : Rd w 1 bv b.length (b.map vb)) (hb : b.length ≤ 65536) :
    Calls Try.prog 18 #[bv] w (UnpackPost w (unpackR b)) := by
  by_cases hl : b.length = 256
  · by_cases hz : b = List.replicate 256 0
    · exact unpack_zero w bv b hr hl hz
    · by_cases h3 : (labOf b).sectors ≤ 4096
      · by_cases h4 : (labOf b).life ≤ 2147483648
        · rcases hm : (labOf b).may with _ | _
          · exact unpack_bad w bv b hr hl hz h3 h4 hm
          · by_cases hq : packB (labOf b) = b
            · exact unpack_ok w bv b hr hl hz h3 h4 hm hq
            · exact unpack_neq w bv b hr hl hz h3 h4 hm hq
        · exact unpack_fl w bv b hr hl hz h3 h4
      · exact unpack_fs w bv b hr hl hz h3
  · have := unpack_len w bv b hr hb hl
    rwa [show unpackR b = (zeroLab, 4) by unfold unpackR; rw [if_pos hl]]
end Go.Proofs.Ytdlegbcdmlmbpaa
