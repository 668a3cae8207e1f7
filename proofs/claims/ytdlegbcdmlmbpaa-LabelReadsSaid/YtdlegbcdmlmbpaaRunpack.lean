/-
  The reference's Unpack (caulkerref08.Unpack): the same label as the program's.
  Conditions: the bounds on sizes that each theorem names.
-/
import Derived.Test.YtdlegbcdmlmbpaaUnpack
import Derived.Test.YtdlegbcdmlmbpaaRpack
import Derived.Test.YtdlegbcdmlmbpaaRReader
namespace Go.Proofs.Ytdlegbcdmlmbpaa
set_option linter.unusedVariables false
open Go.RowKit
set_option maxRecDepth 100000

set_option maxHeartbeats 400000 in
theorem rnought_any (w : World) (bv : Value) (b : List UInt8) (hr : Rd w 1 bv b.length (b.map vb)) (r : Bool) (hres : decide (b = List.replicate b.length 0) = r) (hlen : b.length ≤ 65536) :
    Calls Try.prog 52 #[bv] w (fun e w' => e = .returned (.bool r) ∧ w = w') := by
  have hcells : ∀ k, (hk : k < b.length) → ∃ g o, bv.ownBlock = some g ∧ (∃ c, bv = .slice (some ⟨g, o, none⟩) b.length c) ∧ w.cell? ⟨g, o + k, none⟩ = some (.int .u8 (b[k].toNat : Int)) := by
    intro k hk
    obtain ⟨h0, a, cap, rfl, h2, h3, h4, h5⟩ := hr
    obtain ⟨g, o, rfl, hc⟩ := h5 (by simp; omega)
    exact ⟨g, o, rfl, ⟨cap, rfl⟩, hc k _ (by simp [hk, vb])⟩
  obtain ⟨a, c, rfl, -, -⟩ := hr.form
  have HC := Lib.hid hcells; have HRS := Lib.hid hres
  clear hr hcells hres
  obtain ⟨n, hn⟩ : ∃ n, b.length = n := ⟨_, rfl⟩
  rw [hn] at hlen ⊢
  have HN := Lib.hid hn; clear hn
  go_enter Try.func52, Try.ntmps52
  go_wp2_with fail
  go_loop [3] (fun i => ∃ k : Nat, k ≤ n ∧ i = .int .i64 k ∧ Hid (∀ j, j < k → b[j]? = some 0)) (fun i => n - (intOf i).toNat)
  case atStart => exact ⟨0, by omega, rfl, Lib.hid (by intro j hj; omega)⟩
  case round =>
    obtain ⟨k, hk, rfl, hz⟩ := hrel
    by_cases hkn : k < n
    · have hkb : k < b.length := by rw [HN.out]; exact hkn
      obtain ⟨g, o, -, ⟨c', hv⟩, hc⟩ := HC.out k hkb
      rw [HN.out] at hv
      cases hv
      have hk0 : (0 : Int) ≤ (k : Int) := by omega
      have hk1 : (k : Int) < (n : Int) := by omega
      by_cases h0 : b[k] = 0
      · rw [h0] at hc
        simp only [show ((0 : UInt8).toNat : Int) = 0 from rfl] at hc
        have hz2 : Hid (∀ j, j < k + 1 → b[j]? = some 0) := Lib.hid (by
          intro j hj
          by_cases e : j = k
          · subst e; rw [List.getElem?_eq_getElem hkb, h0]
          · exact hz.out j (by omega))
        clear h0
        go_wp2_with fail
        go_round
        case rel => exact ⟨k + 1, by omega, by go_num, hz2⟩
        case measure => simp [intOf]; omega
      · have hb1 : ((b[k].toNat : Int) != 0) = true := by
          simp
          intro e
          exact h0 (UInt8.toNat_inj.1 (by simpa using e))
        have hrf : r = false := by
          rw [← HRS.out]
          refine decide_eq_false (fun e => h0 ?_)
          have : b[k]? = (List.replicate b.length (0 : UInt8))[k]? := by rw [← e]
          rw [List.getElem?_eq_getElem hkb, List.getElem?_replicate, if_pos hkb] at this
          exact Option.some.inj this
        have HRF := Lib.hid hrf
        obtain ⟨x, hx⟩ : ∃ x : Int, (b[k].toNat : Int) = x := ⟨_, rfl⟩
        rw [hx] at hc hb1
        clear hx h0 hrf
        go_wp2_with fail
        go_ret
        rw [HRF.out]
        exact ⟨rfl, rfl⟩
    · obtain rfl : k = n := by omega
      have hrt : r = true := by
        rw [← HRS.out]
        refine decide_eq_true (List.ext_getElem? fun j => ?_)
        by_cases hj : j < k
        · rw [hz.out j hj, HN.out, List.getElem?_replicate, if_pos hj]
        · rw [List.getElem?_eq_none (by rw [HN.out]; omega), List.getElem?_eq_none (by simp [HN.out]; omega)]
      have HRT := Lib.hid hrt
      clear hrt
      go_wp2_with fail
      go_ret
      rw [HRT.out]
      exact ⟨rfl, rfl⟩

set_option maxHeartbeats 1000000 in
theorem runpack_len (w : World) (bv : Value) (b : List UInt8) (hr : Rd w 1 bv b.length (b.map vb)) (hb : b.length ≤ 65536) (hl : b.length ≠ 256) :
    Calls Try.prog 19 #[bv] w (UnpackPost w (zeroLab, 4)) := by
  obtain ⟨a, c, rfl, -, -⟩ := hr.form
  clear hr
  obtain ⟨zc, hzc, hzl, hzo⟩ : ∃ zc, zeroLab.cells = zc ∧ zc.length = 37 ∧ ∀ u ∈ zc, u.oneCell' = true := ⟨_, rfl, rfl, oneCell_lab _⟩
  have hzv : ∀ w, (zeroValue 25).run Try.prog w = .ok (.agg zc.toArray) w := by rw [← hzc]; exact zeroValLab
  have hbd : ∀ w, (Instr.build 25 #[]).run Try.prog w = .ok (.agg zc.toArray) w := by rw [← hzc]; exact buildLab
  have HZ := Lib.hid hzc; clear hzc
  have ht : ((b.length : Int) != 256) = true := by simp; omega
  go_enter Try.func19, Try.ntmps19
  go_wp2_with (first
    | (refine wpList_alloc_at rfl 25 rfl _ hzv zc.toArray rfl ?_)
    | ((with_reducible show wpList _ _ _ (⟨none, .store 25 (.tmp 2) (.tmp 11), _, _, _, _⟩ :: _) _ _); refine wpList_store_agg rfl 25 (.tmp 2) (.tmp 11) rfl w.heap.size 0 zc rfl rfl _ _ (heap_alloc_new _ _) (by simp) (by rw [hzl]; exact sizeLab) hzo ?_; intro w2 hb2 hk2; have HB2 := Lib.hid hb2; have HK2 := Lib.hid hk2; clear hb2 hk2))
  refine bodyPost_ret (results_cell_row_tmp rfl _ _ w.heap.size _ _ _ _ rfl HB2.out Try.underlying25 rfl (by rw [spl_size, List.size_toArray, hzl]; exact sizeLab)) rfl ⟨?_, ?_⟩
  · rw [spl_whole _ _ (by simp), HZ.out]; rfl
  · exact ((Keep.refl noBlk w).alloc _).trans' HK2.out (fun _ _ h => h) (fun i hi e => by omega)

set_option maxHeartbeats 4000000 in
theorem runpack_zero (w : World) (bv : Value) (b : List UInt8) (hr : Rd w 1 bv b.length (b.map vb)) (hl : b.length = 256) (hz : b = List.replicate 256 0) :
    Calls Try.prog 19 #[bv] w (UnpackPost w (unpackR b)) := by
  have hlt : ∀ g, bv.ownBlock = some g → g < w.heap.size := by
    obtain ⟨k, hk, hk2⟩ := hr.lt (by simp; omega)
    intro g hg
    rw [hg] at hk; cases hk; exact hk2
  obtain ⟨a, c, hv, -, -⟩ := hr.form
  rw [hl] at hv
  subst hv
  have HR := Lib.hid hr; have HZB := Lib.hid hz; clear hz
  clear hr
  obtain ⟨zc, hzc, hzl, hzo⟩ : ∃ zc, zeroLab.cells = zc ∧ zc.length = 37 ∧ ∀ u ∈ zc, u.oneCell' = true := ⟨_, rfl, rfl, oneCell_lab _⟩
  have hzv : ∀ w, (zeroValue 25).run Try.prog w = .ok (.agg zc.toArray) w := by rw [← hzc]; exact zeroValLab
  have hbd : ∀ w, (Instr.build 25 #[]).run Try.prog w = .ok (.agg zc.toArray) w := by rw [← hzc]; exact buildLab
  have HZ := Lib.hid hzc; clear hzc
  have HL := Lib.hid hl
  clear hl
  go_enter Try.func19, Try.ntmps19
  go_wp2_with (first
    | (refine wpList_alloc_at rfl 25 rfl _ hzv zc.toArray rfl ?_))
  obtain ⟨w2, hw2⟩ : ∃ w2, w.alloc (.cells zc.toArray 25) = w2 := ⟨_, rfl⟩
  have hres : w2.heap[w.heap.size]? = some (.cells zc.toArray 25 (0, 0)) := by rw [← hw2]; exact heap_alloc_new _ _
  have hkw2 : Keep noBlk w w2 := by rw [← hw2]; exact (Keep.refl noBlk w).alloc _
  rw [hw2]
  have HRES := Lib.hid hres; have HKW2 := Lib.hid hkw2
  clear hres hkw2 hw2
  refine (rnought_any w2 _ b (HR.out.keep HKW2.out fun _ _ => id) true (by rw [HL.out]; exact decide_eq_true HZB.out) (by rw [HL.out]; omega)).mono ?_
  rintro e w3 ⟨rfl, rfl⟩
  have HUR := Lib.hid (show unpackR b = (zeroLab, 6) by unfold unpackR; rw [if_neg (by rw [HL.out]; simp), if_pos HZB.out])
  go_wp2_with (first
    | ((with_reducible show wpList _ _ _ (⟨none, .store 25 (.tmp 2) (.tmp 14), _, _, _, _⟩ :: _) _ _); refine wpList_store_agg rfl 25 (.tmp 2) (.tmp 14) rfl w.heap.size 0 zc rfl rfl _ _ HRES.out (by simp) (by rw [hzl]; exact sizeLab) hzo ?_; intro w4 hb4 hk4; have HB4 := Lib.hid hb4; have HK4 := Lib.hid hk4; clear hb4 hk4))
  refine bodyPost_ret (results_cell_row_tmp rfl _ _ w.heap.size _ _ _ _ rfl HB4.out Try.underlying25 rfl (by rw [spl_size, List.size_toArray, hzl]; exact sizeLab)) rfl ⟨?_, ?_⟩
  · rw [spl_whole _ _ (by simp), HUR.out, HZ.out]; rfl
  · exact HKW2.out.trans' HK4.out (fun _ _ h => h) (fun i hi e => by omega)

/-- What stands in memory while the reference reads a label. -/
structure RpW (w wr : World) (b2 b5 p : Nat) (v : Value) (bs : List UInt8) (at_ : Nat) (zc : List Value) (cs : Array Value) : Prop where
  res : wr.heap[b2]? = some (.cells zc.toArray 25 (0, 0))
  lab : wr.heap[b5]? = some (.cells cs 25 (0, 0))
  rd : RRd wr p v bs at_ 0 0
  keep : Keep noBlk w wr
  ne : b2 ≠ b5
  lv : ∀ g, v.ownBlock = some g → g < w.heap.size
  lp : w.heap.size ≤ p
  l2 : w.heap.size ≤ b2
  l5 : w.heap.size ≤ b5
theorem RpW.same {w wr w' : World} {b2 b5 p : Nat} {v : Value} {bs : List UInt8} {at_ : Nat} {zc : List Value} {cs : Array Value} (h : RpW w wr b2 b5 p v bs at_ zc cs) (k : Keep noBlk wr w') : RpW w w' b2 b5 p v bs at_ zc cs :=
  ⟨k.blk h.res id, k.blk h.lab id, h.rd.keep k id (fun _ _ => id), h.keep.trans k, h.ne, h.lv, h.lp, h.l2, h.l5⟩
theorem RpW.read {w wr w' : World} {b2 b5 p : Nat} {v : Value} {bs : List UInt8} {at_ at' : Nat} {zc : List Value} {cs : Array Value} (h : RpW w wr b2 b5 p v bs at_ zc cs) (k : Keep (fun i => i = p) wr w') (hr : RRd w' p v bs at' 0 0) : RpW w w' b2 b5 p v bs at' zc cs := by
  have hp : ∀ i cs', wr.heap[i]? = some (.cells cs' 25 (0, 0)) → ¬ i = p := by
    rintro i cs' hi rfl
    rw [h.rd.blk] at hi
    cases hi
  have := h.lp
  exact ⟨k.blk h.res (hp _ _ h.res), k.blk h.lab (hp _ _ h.lab), hr, h.keep.trans' k (fun _ _ h => h) (fun i hi e => by omega), h.ne, h.lv, h.lp, h.l2, h.l5⟩
theorem RpW.put {w wr w' : World} {b2 b5 p : Nat} {v : Value} {bs : List UInt8} {at_ : Nat} {zc : List Value} {cs cs' : Array Value} (h : RpW w wr b2 b5 p v bs at_ zc cs) (k : Keep (fun i => i = b5) wr w') (hl : w'.heap[b5]? = some (.cells cs' 25 (0, 0))) : RpW w w' b2 b5 p v bs at_ zc cs' := by
  have h5 := h.l5
  refine ⟨k.blk h.res h.ne, hl, h.rd.keep k ?_ (fun g hg e => ?_), h.keep.trans' k (fun _ _ h => h) (fun i hi e => by omega), h.ne, h.lv, h.lp, h.l2, h.l5⟩
  · intro e
    have := h.rd.blk
    rw [e, h.lab] at this
    cases this
  · have := h.lv g hg; omega
theorem RpW.set {w wr : World} {b2 b5 p : Nat} {v : Value} {bs : List UInt8} {at_ : Nat} {zc : List Value} {cs : Array Value} (h : RpW w wr b2 b5 p v bs at_ zc cs) (i : Nat) (u : Value) : RpW w (wr.setCell ⟨b5, i, none⟩ u) b2 b5 p v bs at_ zc (cs.setIfInBounds i u) :=
  h.put ((Keep.refl (fun i => i = b5) wr).setCell (p := ⟨b5, i, none⟩) (fun _ => rfl) _) (set_blk h.lab i u)

set_option maxHeartbeats 4000000 in
theorem runpack_bad (w : World) (bv : Value) (b : List UInt8) (hr : Rd w 1 bv b.length (b.map vb)) (hl : b.length = 256) (hz : ¬ b = List.replicate 256 0) (hm : (labOf b).may = false) :
    Calls Try.prog 19 #[bv] w (UnpackPost w (unpackR b)) := by
  have hlt : ∀ g, bv.ownBlock = some g → g < w.heap.size := by
    obtain ⟨k, hk, hk2⟩ := hr.lt (by simp; omega)
    intro g hg
    rw [hg] at hk; cases hk; exact hk2
  obtain ⟨a, c, hv, -, -⟩ := hr.form
  rw [hl] at hv
  subst hv
  have HR := Lib.hid hr; have HZN := Lib.hid hz; have HM := Lib.hid hm; clear hz hm
  clear hr
  obtain ⟨zc, hzc, hzl, hzo⟩ : ∃ zc, zeroLab.cells = zc ∧ zc.length = 37 ∧ ∀ u ∈ zc, u.oneCell' = true := ⟨_, rfl, rfl, oneCell_lab _⟩
  have hzv : ∀ w, (zeroValue 25).run Try.prog w = .ok (.agg zc.toArray) w := by rw [← hzc]; exact zeroValLab
  have hbd : ∀ w, (Instr.build 25 #[]).run Try.prog w = .ok (.agg zc.toArray) w := by rw [← hzc]; exact buildLab
  have HZ := Lib.hid hzc; clear hzc
  have HL := Lib.hid hl
  clear hl
  go_enter Try.func19, Try.ntmps19
  go_wp2_with (first
    | (refine wpList_alloc_at rfl 25 rfl _ hzv zc.toArray rfl ?_))
  obtain ⟨w2, hw2⟩ : ∃ w2, w.alloc (.cells zc.toArray 25) = w2 := ⟨_, rfl⟩
  have hres : w2.heap[w.heap.size]? = some (.cells zc.toArray 25 (0, 0)) := by rw [← hw2]; exact heap_alloc_new _ _
  have hkw2 : Keep noBlk w w2 := by rw [← hw2]; exact (Keep.refl noBlk w).alloc _
  rw [hw2]
  have HRES := Lib.hid hres; have HKW2 := Lib.hid hkw2
  clear hres hkw2 hw2
  refine (rnought_any w2 _ b (HR.out.keep HKW2.out fun _ _ => id) false (by rw [HL.out]; exact decide_eq_false HZN.out) (by rw [HL.out]; omega)).mono ?_
  rintro e w3 ⟨rfl, rfl⟩
  have HP := Lib.hid (labOf_pool b HL.out)
  have hs2 := HKW2.out.size
  go_wp2_with fail
  refine (rropen_any _ b w2 (HR.out.keep HKW2.out fun _ _ => id) (by rw [HL.out]; omega) (fun g hg => by have := hlt g hg; omega)).mono ?_
  rintro e w3 ⟨rfl, hrd, hk3⟩
  have hres3 := hk3.blk HRES.out id
  have hkw3 := HKW2.out.trans hk3
  have hlt2 := lt_of_block HRES.out
  have HRD := Lib.hid hrd; have HR3 := Lib.hid hres3; have HK3 := Lib.hid hkw3
  clear hrd hk3 hres3 hkw3 HRES HKW2
  obtain ⟨p, hp⟩ : ∃ p, w2.heap.size = p := ⟨_, rfl⟩
  rw [hp] at HRD hlt2 hs2 ⊢
  clear hp
  go_wp2_with fail
  refine (rrraw_ok w3 p _ b 0 0 HRD.out 8 (by omega) (by rw [HL.out]; omega)).mono ?_
  rintro e w4 ⟨v4, rfl, -, hrd, hk4⟩
  have hres4 := hk4.blk HR3.out (by omega)
  have hkw4 : Keep noBlk w w4 := HK3.out.trans' hk4 (fun _ _ h => h) (fun i hi e => by omega)
  have HRD4 := Lib.hid hrd; have HR4 := Lib.hid hres4; have HK4 := Lib.hid hkw4
  clear hrd hk4 hres4 hkw4 HRD HR3 HK3
  go_wp2_with (first
    | (refine wpList_alloc_at rfl 25 rfl _ hzv zc.toArray rfl ?_))
  have U5 : RpW w ((w4.alloc (.cells zc.toArray 25)).drew) w.heap.size w4.heap.size p (.slice a 256 c) b 8 zc zc.toArray := by
    have K : Keep noBlk w4 ((w4.alloc (.cells zc.toArray 25)).drew) := ((Keep.refl _ _).alloc _).drew
    have hlt4 := lt_of_block HR4.out
    exact ⟨K.blk HR4.out id, heap_alloc_new w4 _, HRD4.out.keep K id (fun _ _ => id), HK4.out.trans K, by omega, hlt, by omega, Nat.le_refl _, HK4.out.size⟩
  obtain ⟨b5, hb5⟩ : ∃ b5, w4.heap.size = b5 := ⟨_, rfl⟩
  refine wp_region_any (by kernel_rfl) ?_
  obtain ⟨w5, hw5⟩ : ∃ w5, (w4.alloc (.cells zc.toArray 25)).drew = w5 := ⟨_, rfl⟩
  change wpAny _ _ _ _ _ _ _ ((w4.alloc (.cells zc.toArray 25)).drew)
  rw [hw5] at U5 ⊢
  rw [hb5] at U5 ⊢
  have HU5 := Lib.hid U5
  clear U5 HRD4 HR4 HK4 hw5 hb5
  refine wpAny_take (i := 0) (v := .pointer (some ⟨b5, 0, none⟩)) rfl (by kernel_rfl) (by kernel_rfl) (by kernel_rfl) (fun _ _ _ h => h) (.inl ⟨by rfl, fun w' => ?_⟩) ?_
  · go_simp
  refine wpAny_take (i := 1) (v := .slice (some ⟨b5, 0, none⟩) 32 32) rfl (by kernel_rfl) (by kernel_rfl) (by kernel_rfl) (fun _ _ _ h => h) (.inl ⟨by rfl, fun w' => ?_⟩) ?_
  · go_simp
  refine wpAny_take (i := 2) (v := .pointer (some ⟨p, 0, none⟩)) rfl (by kernel_rfl) (by kernel_rfl) (by kernel_rfl) (fun _ _ _ h => h) (.inl ⟨by rfl, fun w' => rfl⟩) ?_
  refine wpAny_one (k := 3) rfl (by kernel_rfl) ?_
  go_wp2_with fail
  refine (rrraw_ok w5 p _ b 8 0 HU5.out.rd 32 (by omega) (by rw [HL.out]; omega)).mono ?_
  rintro e w6 ⟨v6, rfl, hown, hrd, hk6⟩
  have hrd6 : Rd w6 1 v6 32 ((labOf b).pool.map vb) := Rd.of_owns hown
  obtain ⟨a6, c6, rfl, -, -⟩ := hrd6.form
  have U6 := HU5.out.read hk6 hrd
  obtain ⟨P, hP⟩ : ∃ P, (labOf b).pool.map vb = P := ⟨_, rfl⟩
  have hPl : P.length = 32 := by rw [← hP]; simp [HP.out]
  have hPo : ∀ u ∈ P, u.oneCell' = true := by rw [← hP]; exact oneCell_vb _
  rw [hP] at hrd6
  have HPP := Lib.hid hP; have HU6 := Lib.hid U6; have HRD6 := Lib.hid hrd6
  clear hP U6 hrd6 hown hrd hk6 HU5
  go_wp2_with fail
  refine wpAny_one (k := 4) rfl (by kernel_rfl) ?_
  refine wpList_copy_rd rfl (.tmp 20) (.tmp 22) 26 26 rfl 5 Try.underlying26 sizeU8 b5 0 32 32 rfl _ 32 P rfl HRD6.out 32 rfl zc.toArray _ HU6.out.lab (by simp [hzl]) hPo ?_
  intro w7 hb7 hk7
  rw [List.take_of_length_le (by rw [hPl]; exact Nat.le_refl _), labCs_spl P hPl zc HZ.out] at hb7
  have HU7 := Lib.hid (HU6.out.put hk7 hb7)
  clear hb7 hk7
  refine wpList_nil ?_
  refine wpAny_done (by kernel_rfl) ?_ _
  clear HU6 HRD6
  obtain ⟨x0, hx0⟩ : ∃ x, beN ((b.drop 40).take 1) = x := ⟨_, rfl⟩
  have HX40 := Lib.hid hx0
  obtain ⟨x1, hx1⟩ : ∃ x, beN ((b.drop 41).take 1) = x := ⟨_, rfl⟩
  have HX41 := Lib.hid hx1
  obtain ⟨x2, hx2⟩ : ∃ x, beN ((b.drop 42).take 1) = x := ⟨_, rfl⟩
  have HX42 := Lib.hid hx2
  obtain ⟨x3, hx3⟩ : ∃ x, beN ((b.drop 43).take 2) = x := ⟨_, rfl⟩
  have HX43 := Lib.hid hx3
  obtain ⟨x4, hx4⟩ : ∃ x, beN ((b.drop 45).take 5) = x := ⟨_, rfl⟩
  have HX45 := Lib.hid hx4
  have l0 : (x0 : Int) ≤ 255 := by rw [← hx0]; exact beN_byte _ (by simp; omega)
  have l1 : (x1 : Int) ≤ 255 := by rw [← hx1]; exact beN_byte _ (by simp; omega)
  have l2 : (x2 : Int) ≤ 255 := by rw [← hx2]; exact beN_byte _ (by simp; omega)
  have l3 : (x3 : Int) ≤ 65535 := by rw [← hx3]; have := beN_lt ((b.drop 43).take 2); have h2 : 256 ^ ((b.drop 43).take 2).length ≤ 256 ^ 2 := Nat.pow_le_pow_right (by omega) (by simp; omega); omega
  have l4 : (x4 : Int) ≤ 1099511627776 := by rw [← hx4]; have := beN_lt ((b.drop 45).take 5); have h2 : 256 ^ ((b.drop 45).take 5).length ≤ 256 ^ 5 := Nat.pow_le_pow_right (by omega) (by simp; omega); omega
  have HLab := Lib.hid (show labOf b = ⟨(labOf b).pool, x0, x1, x2, x3, x4⟩ by rw [← hx0, ← hx1, ← hx2, ← hx3, ← hx4]; rfl)
  clear hx0 hx1 hx2 hx3 hx4
  go_wp2_with fail
  refine (rrnum_ok w7 p _ b 40 0 HU7.out.rd 1 0 255 (by omega) (by omega) (by rw [HL.out]; omega) x0 HX40.out (by omega) l0).mono ?_
  rintro e w8 ⟨rfl, hrd, hkn⟩
  have HU8 := Lib.hid (HU7.out.read hkn hrd)
  clear hkn hrd HU7
  have U := HU8.out.set 32 (.int .i64 x0)
  rw [(labCs_set P hPl 0 0 0 0 0 x0).1] at U
  obtain ⟨u, g⟩ := labCs_get P hPl 0 0 0 0 0 0 (by omega)
  have k0 := blk_cell HU8.out.lab g
  have kf := blk_free HU8.out.lab 32
  simp only [Nat.add_zero] at k0
  obtain ⟨w9, hw⟩ : ∃ w9, w8.setCell ⟨b5, 32, none⟩ (.int .i64 x0) = w9 := ⟨_, rfl⟩
  rw [hw] at U
  have HU9 := Lib.hid U
  clear U g
  go_wp2_with fail
  clear k0 kf hw HU8
  go_wp2_with fail
  refine (rrnum_ok w9 p _ b 41 0 HU9.out.rd 1 0 255 (by omega) (by omega) (by rw [HL.out]; omega) x1 HX41.out (by omega) l1).mono ?_
  rintro e w10 ⟨rfl, hrd, hkn⟩
  have HU10 := Lib.hid (HU9.out.read hkn hrd)
  clear hkn hrd HU9
  have U := HU10.out.set 33 (.int .i64 x1)
  rw [(labCs_set P hPl x0 0 0 0 0 x1).2.1] at U
  obtain ⟨u, g⟩ := labCs_get P hPl x0 0 0 0 0 1 (by omega)
  have k0 := blk_cell HU10.out.lab g
  have kf := blk_free HU10.out.lab 33
  simp only [Nat.reduceAdd] at k0
  obtain ⟨w11, hw⟩ : ∃ w11, w10.setCell ⟨b5, 33, none⟩ (.int .i64 x1) = w11 := ⟨_, rfl⟩
  rw [hw] at U
  have HU11 := Lib.hid U
  clear U g
  go_wp2_with fail
  clear k0 kf hw HU10
  go_wp2_with fail
  refine (rrnum_ok w11 p _ b 42 0 HU11.out.rd 1 0 255 (by omega) (by omega) (by rw [HL.out]; omega) x2 HX42.out (by omega) l2).mono ?_
  rintro e w12 ⟨rfl, hrd, hkn⟩
  have HU12 := Lib.hid (HU11.out.read hkn hrd)
  clear hkn hrd HU11
  have U := HU12.out.set 34 (.int .i64 x2)
  rw [(labCs_set P hPl x0 x1 0 0 0 x2).2.2.1] at U
  obtain ⟨u, g⟩ := labCs_get P hPl x0 x1 0 0 0 2 (by omega)
  have k0 := blk_cell HU12.out.lab g
  have kf := blk_free HU12.out.lab 34
  simp only [Nat.reduceAdd] at k0
  obtain ⟨w13, hw⟩ : ∃ w13, w12.setCell ⟨b5, 34, none⟩ (.int .i64 x2) = w13 := ⟨_, rfl⟩
  rw [hw] at U
  have HU13 := Lib.hid U
  clear U g
  go_wp2_with fail
  clear k0 kf hw HU12
  go_wp2_with fail
  refine (rrnum_ok w13 p _ b 43 0 HU13.out.rd 2 0 65535 (by omega) (by omega) (by rw [HL.out]; omega) x3 HX43.out (by omega) l3).mono ?_
  rintro e w14 ⟨rfl, hrd, hkn⟩
  have HU14 := Lib.hid (HU13.out.read hkn hrd)
  clear hkn hrd HU13
  have U := HU14.out.set 35 (.int .i64 x3)
  rw [(labCs_set P hPl x0 x1 x2 0 0 x3).2.2.2.1] at U
  obtain ⟨u, g⟩ := labCs_get P hPl x0 x1 x2 0 0 3 (by omega)
  have k0 := blk_cell HU14.out.lab g
  have kf := blk_free HU14.out.lab 35
  simp only [Nat.reduceAdd] at k0
  obtain ⟨w15, hw⟩ : ∃ w15, w14.setCell ⟨b5, 35, none⟩ (.int .i64 x3) = w15 := ⟨_, rfl⟩
  rw [hw] at U
  have HU15 := Lib.hid U
  clear U g
  go_wp2_with fail
  clear k0 kf hw HU14
  go_wp2_with fail
  refine (rrnum_ok w15 p _ b 45 0 HU15.out.rd 5 0 1099511627776 (by omega) (by omega) (by rw [HL.out]; omega) x4 HX45.out (by omega) l4).mono ?_
  rintro e w16 ⟨rfl, hrd, hkn⟩
  have HU16 := Lib.hid (HU15.out.read hkn hrd)
  clear hkn hrd HU15
  have U := HU16.out.set 36 (.int .i64 x4)
  rw [(labCs_set P hPl x0 x1 x2 x3 0 x4).2.2.2.2] at U
  obtain ⟨u, g⟩ := labCs_get P hPl x0 x1 x2 x3 0 4 (by omega)
  have k0 := blk_cell HU16.out.lab g
  have kf := blk_free HU16.out.lab 36
  simp only [Nat.reduceAdd] at k0
  obtain ⟨w17, hw⟩ : ∃ w17, w16.setCell ⟨b5, 36, none⟩ (.int .i64 x4) = w17 := ⟨_, rfl⟩
  rw [hw] at U
  have HU17 := Lib.hid U
  clear U g
  obtain ⟨L, hL, hLp, hLm⟩ : ∃ L : Lab, labCs P x0 x1 x2 x3 x4 = L.cells.toArray ∧ L.pool.length = 32 ∧ L = labOf b := ⟨labOf b, by rw [HLab.out, ← HPP.out]; rfl, HP.out, rfl⟩
  obtain ⟨lc, hlc⟩ : ∃ lc, L.cells = lc := ⟨_, rfl⟩
  have hlcl : lc.length = 37 := by rw [← hlc]; exact L.cells_length hLp
  have hlco : ∀ u ∈ lc, u.oneCell' = true := by rw [← hlc]; exact oneCell_lab L
  have hlab := HU17.out.lab
  rw [hL, hlc] at hlab
  have HLAB := Lib.hid hlab; have HLC := Lib.hid hlc; have HLM := Lib.hid hLm; have HLD := Lib.hid hL
  clear hL hlc hLm hlab
  go_wp2_with (first
    | ((with_reducible show wpList _ _ _ (⟨some 40, .load 25 (.tmp 5), _, _, _, _⟩ :: _) _ _); refine wpList_load_mid rfl 25 (.tmp 5) rfl b5 0 rfl lc _ (rangeAt_whole HLAB.out) Try.underlying25 rfl (by rw [hlcl]; exact sizeLab) ?_))
  clear k0 kf hw HU16
  have CP := rpack_any L hLp w17
  rw [HLC.out] at CP
  refine CP.mono ?_
  clear CP
  rintro e w20 ⟨v20, rfl, hown20, hk20⟩
  have HU20 := Lib.hid (HU17.out.same hk20)
  have hlab20 := hk20.blk HLAB.out id
  have hrd20 := Rd.of_owns hown20
  have hk1 := conv_rd hrd20
  have hk2 := conv_rd (HR.out.keep HU20.out.keep fun _ _ => id)
  obtain ⟨a20, c20, rfl, -, -⟩ := hrd20.form
  have HLAB20 := Lib.hid hlab20
  clear hown20 hk20 hrd20 HU17 HLAB hlab20
  have HUR := Lib.hid (show unpackR b = (zeroLab, 11) by unfold unpackR; rw [if_neg (by rw [HL.out]; simp), if_neg HZN.out, if_neg (by rw [HM.out]; simp)])
  rw [show L.may = false by rw [HLM.out]; exact HM.out]
  go_wp2_with (first
    | ((with_reducible show wpList _ _ _ (⟨none, .store 25 (.tmp 2) (.tmp 53), _, _, _, _⟩ :: _) _ _); refine wpList_store_agg rfl 25 (.tmp 2) (.tmp 53) rfl w.heap.size 0 zc rfl rfl _ _ HU20.out.res (by simp) (by rw [hzl]; exact sizeLab) hzo ?_; intro w21 hb21 hk21; have HB21 := Lib.hid hb21; have HK21 := Lib.hid hk21; clear hb21 hk21))
  refine bodyPost_ret (results_cell_row_tmp rfl _ _ w.heap.size _ _ _ _ rfl HB21.out Try.underlying25 rfl (by rw [spl_size, List.size_toArray, hzl]; exact sizeLab)) rfl ⟨?_, ?_⟩
  · rw [spl_whole _ _ (by simp), HUR.out, HZ.out]; rfl
  · exact HU20.out.keep.trans' HK21.out (fun _ _ h => h) (fun i hi e => by omega)

set_option maxHeartbeats 4000000 in
theorem runpack_neq (w : World) (bv : Value) (b : List UInt8) (hr : Rd w 1 bv b.length (b.map vb)) (hl : b.length = 256) (hz : ¬ b = List.replicate 256 0) (hm : (labOf b).may = true) (hq : ¬ packB (labOf b) = b) :
    Calls Try.prog 19 #[bv] w (UnpackPost w (unpackR b)) := by
  have hlt : ∀ g, bv.ownBlock = some g → g < w.heap.size := by
    obtain ⟨k, hk, hk2⟩ := hr.lt (by simp; omega)
    intro g hg
    rw [hg] at hk; cases hk; exact hk2
  obtain ⟨a, c, hv, -, -⟩ := hr.form
  rw [hl] at hv
  subst hv
  have HR := Lib.hid hr; have HZN := Lib.hid hz; have HM := Lib.hid hm; have HQ := Lib.hid hq; clear hz hm hq
  clear hr
  obtain ⟨zc, hzc, hzl, hzo⟩ : ∃ zc, zeroLab.cells = zc ∧ zc.length = 37 ∧ ∀ u ∈ zc, u.oneCell' = true := ⟨_, rfl, rfl, oneCell_lab _⟩
  have hzv : ∀ w, (zeroValue 25).run Try.prog w = .ok (.agg zc.toArray) w := by rw [← hzc]; exact zeroValLab
  have hbd : ∀ w, (Instr.build 25 #[]).run Try.prog w = .ok (.agg zc.toArray) w := by rw [← hzc]; exact buildLab
  have HZ := Lib.hid hzc; clear hzc
  have HL := Lib.hid hl
  clear hl
  go_enter Try.func19, Try.ntmps19
  go_wp2_with (first
    | (refine wpList_alloc_at rfl 25 rfl _ hzv zc.toArray rfl ?_))
  obtain ⟨w2, hw2⟩ : ∃ w2, w.alloc (.cells zc.toArray 25) = w2 := ⟨_, rfl⟩
  have hres : w2.heap[w.heap.size]? = some (.cells zc.toArray 25 (0, 0)) := by rw [← hw2]; exact heap_alloc_new _ _
  have hkw2 : Keep noBlk w w2 := by rw [← hw2]; exact (Keep.refl noBlk w).alloc _
  rw [hw2]
  have HRES := Lib.hid hres; have HKW2 := Lib.hid hkw2
  clear hres hkw2 hw2
  refine (rnought_any w2 _ b (HR.out.keep HKW2.out fun _ _ => id) false (by rw [HL.out]; exact decide_eq_false HZN.out) (by rw [HL.out]; omega)).mono ?_
  rintro e w3 ⟨rfl, rfl⟩
  have HP := Lib.hid (labOf_pool b HL.out)
  have hs2 := HKW2.out.size
  go_wp2_with fail
  refine (rropen_any _ b w2 (HR.out.keep HKW2.out fun _ _ => id) (by rw [HL.out]; omega) (fun g hg => by have := hlt g hg; omega)).mono ?_
  rintro e w3 ⟨rfl, hrd, hk3⟩
  have hres3 := hk3.blk HRES.out id
  have hkw3 := HKW2.out.trans hk3
  have hlt2 := lt_of_block HRES.out
  have HRD := Lib.hid hrd; have HR3 := Lib.hid hres3; have HK3 := Lib.hid hkw3
  clear hrd hk3 hres3 hkw3 HRES HKW2
  obtain ⟨p, hp⟩ : ∃ p, w2.heap.size = p := ⟨_, rfl⟩
  rw [hp] at HRD hlt2 hs2 ⊢
  clear hp
  go_wp2_with fail
  refine (rrraw_ok w3 p _ b 0 0 HRD.out 8 (by omega) (by rw [HL.out]; omega)).mono ?_
  rintro e w4 ⟨v4, rfl, -, hrd, hk4⟩
  have hres4 := hk4.blk HR3.out (by omega)
  have hkw4 : Keep noBlk w w4 := HK3.out.trans' hk4 (fun _ _ h => h) (fun i hi e => by omega)
  have HRD4 := Lib.hid hrd; have HR4 := Lib.hid hres4; have HK4 := Lib.hid hkw4
  clear hrd hk4 hres4 hkw4 HRD HR3 HK3
  go_wp2_with (first
    | (refine wpList_alloc_at rfl 25 rfl _ hzv zc.toArray rfl ?_))
  have U5 : RpW w ((w4.alloc (.cells zc.toArray 25)).drew) w.heap.size w4.heap.size p (.slice a 256 c) b 8 zc zc.toArray := by
    have K : Keep noBlk w4 ((w4.alloc (.cells zc.toArray 25)).drew) := ((Keep.refl _ _).alloc _).drew
    have hlt4 := lt_of_block HR4.out
    exact ⟨K.blk HR4.out id, heap_alloc_new w4 _, HRD4.out.keep K id (fun _ _ => id), HK4.out.trans K, by omega, hlt, by omega, Nat.le_refl _, HK4.out.size⟩
  obtain ⟨b5, hb5⟩ : ∃ b5, w4.heap.size = b5 := ⟨_, rfl⟩
  refine wp_region_any (by kernel_rfl) ?_
  obtain ⟨w5, hw5⟩ : ∃ w5, (w4.alloc (.cells zc.toArray 25)).drew = w5 := ⟨_, rfl⟩
  change wpAny _ _ _ _ _ _ _ ((w4.alloc (.cells zc.toArray 25)).drew)
  rw [hw5] at U5 ⊢
  rw [hb5] at U5 ⊢
  have HU5 := Lib.hid U5
  clear U5 HRD4 HR4 HK4 hw5 hb5
  refine wpAny_take (i := 0) (v := .pointer (some ⟨b5, 0, none⟩)) rfl (by kernel_rfl) (by kernel_rfl) (by kernel_rfl) (fun _ _ _ h => h) (.inl ⟨by rfl, fun w' => ?_⟩) ?_
  · go_simp
  refine wpAny_take (i := 1) (v := .slice (some ⟨b5, 0, none⟩) 32 32) rfl (by kernel_rfl) (by kernel_rfl) (by kernel_rfl) (fun _ _ _ h => h) (.inl ⟨by rfl, fun w' => ?_⟩) ?_
  · go_simp
  refine wpAny_take (i := 2) (v := .pointer (some ⟨p, 0, none⟩)) rfl (by kernel_rfl) (by kernel_rfl) (by kernel_rfl) (fun _ _ _ h => h) (.inl ⟨by rfl, fun w' => rfl⟩) ?_
  refine wpAny_one (k := 3) rfl (by kernel_rfl) ?_
  go_wp2_with fail
  refine (rrraw_ok w5 p _ b 8 0 HU5.out.rd 32 (by omega) (by rw [HL.out]; omega)).mono ?_
  rintro e w6 ⟨v6, rfl, hown, hrd, hk6⟩
  have hrd6 : Rd w6 1 v6 32 ((labOf b).pool.map vb) := Rd.of_owns hown
  obtain ⟨a6, c6, rfl, -, -⟩ := hrd6.form
  have U6 := HU5.out.read hk6 hrd
  obtain ⟨P, hP⟩ : ∃ P, (labOf b).pool.map vb = P := ⟨_, rfl⟩
  have hPl : P.length = 32 := by rw [← hP]; simp [HP.out]
  have hPo : ∀ u ∈ P, u.oneCell' = true := by rw [← hP]; exact oneCell_vb _
  rw [hP] at hrd6
  have HPP := Lib.hid hP; have HU6 := Lib.hid U6; have HRD6 := Lib.hid hrd6
  clear hP U6 hrd6 hown hrd hk6 HU5
  go_wp2_with fail
  refine wpAny_one (k := 4) rfl (by kernel_rfl) ?_
  refine wpList_copy_rd rfl (.tmp 20) (.tmp 22) 26 26 rfl 5 Try.underlying26 sizeU8 b5 0 32 32 rfl _ 32 P rfl HRD6.out 32 rfl zc.toArray _ HU6.out.lab (by simp [hzl]) hPo ?_
  intro w7 hb7 hk7
  rw [List.take_of_length_le (by rw [hPl]; exact Nat.le_refl _), labCs_spl P hPl zc HZ.out] at hb7
  have HU7 := Lib.hid (HU6.out.put hk7 hb7)
  clear hb7 hk7
  refine wpList_nil ?_
  refine wpAny_done (by kernel_rfl) ?_ _
  clear HU6 HRD6
  obtain ⟨x0, hx0⟩ : ∃ x, beN ((b.drop 40).take 1) = x := ⟨_, rfl⟩
  have HX40 := Lib.hid hx0
  obtain ⟨x1, hx1⟩ : ∃ x, beN ((b.drop 41).take 1) = x := ⟨_, rfl⟩
  have HX41 := Lib.hid hx1
  obtain ⟨x2, hx2⟩ : ∃ x, beN ((b.drop 42).take 1) = x := ⟨_, rfl⟩
  have HX42 := Lib.hid hx2
  obtain ⟨x3, hx3⟩ : ∃ x, beN ((b.drop 43).take 2) = x := ⟨_, rfl⟩
  have HX43 := Lib.hid hx3
  obtain ⟨x4, hx4⟩ : ∃ x, beN ((b.drop 45).take 5) = x := ⟨_, rfl⟩
  have HX45 := Lib.hid hx4
  have l0 : (x0 : Int) ≤ 255 := by rw [← hx0]; exact beN_byte _ (by simp; omega)
  have l1 : (x1 : Int) ≤ 255 := by rw [← hx1]; exact beN_byte _ (by simp; omega)
  have l2 : (x2 : Int) ≤ 255 := by rw [← hx2]; exact beN_byte _ (by simp; omega)
  have l3 : (x3 : Int) ≤ 65535 := by rw [← hx3]; have := beN_lt ((b.drop 43).take 2); have h2 : 256 ^ ((b.drop 43).take 2).length ≤ 256 ^ 2 := Nat.pow_le_pow_right (by omega) (by simp; omega); omega
  have l4 : (x4 : Int) ≤ 1099511627776 := by rw [← hx4]; have := beN_lt ((b.drop 45).take 5); have h2 : 256 ^ ((b.drop 45).take 5).length ≤ 256 ^ 5 := Nat.pow_le_pow_right (by omega) (by simp; omega); omega
  have HLab := Lib.hid (show labOf b = ⟨(labOf b).pool, x0, x1, x2, x3, x4⟩ by rw [← hx0, ← hx1, ← hx2, ← hx3, ← hx4]; rfl)
  clear hx0 hx1 hx2 hx3 hx4
  go_wp2_with fail
  refine (rrnum_ok w7 p _ b 40 0 HU7.out.rd 1 0 255 (by omega) (by omega) (by rw [HL.out]; omega) x0 HX40.out (by omega) l0).mono ?_
  rintro e w8 ⟨rfl, hrd, hkn⟩
  have HU8 := Lib.hid (HU7.out.read hkn hrd)
  clear hkn hrd HU7
  have U := HU8.out.set 32 (.int .i64 x0)
  rw [(labCs_set P hPl 0 0 0 0 0 x0).1] at U
  obtain ⟨u, g⟩ := labCs_get P hPl 0 0 0 0 0 0 (by omega)
  have k0 := blk_cell HU8.out.lab g
  have kf := blk_free HU8.out.lab 32
  simp only [Nat.add_zero] at k0
  obtain ⟨w9, hw⟩ : ∃ w9, w8.setCell ⟨b5, 32, none⟩ (.int .i64 x0) = w9 := ⟨_, rfl⟩
  rw [hw] at U
  have HU9 := Lib.hid U
  clear U g
  go_wp2_with fail
  clear k0 kf hw HU8
  go_wp2_with fail
  refine (rrnum_ok w9 p _ b 41 0 HU9.out.rd 1 0 255 (by omega) (by omega) (by rw [HL.out]; omega) x1 HX41.out (by omega) l1).mono ?_
  rintro e w10 ⟨rfl, hrd, hkn⟩
  have HU10 := Lib.hid (HU9.out.read hkn hrd)
  clear hkn hrd HU9
  have U := HU10.out.set 33 (.int .i64 x1)
  rw [(labCs_set P hPl x0 0 0 0 0 x1).2.1] at U
  obtain ⟨u, g⟩ := labCs_get P hPl x0 0 0 0 0 1 (by omega)
  have k0 := blk_cell HU10.out.lab g
  have kf := blk_free HU10.out.lab 33
  simp only [Nat.reduceAdd] at k0
  obtain ⟨w11, hw⟩ : ∃ w11, w10.setCell ⟨b5, 33, none⟩ (.int .i64 x1) = w11 := ⟨_, rfl⟩
  rw [hw] at U
  have HU11 := Lib.hid U
  clear U g
  go_wp2_with fail
  clear k0 kf hw HU10
  go_wp2_with fail
  refine (rrnum_ok w11 p _ b 42 0 HU11.out.rd 1 0 255 (by omega) (by omega) (by rw [HL.out]; omega) x2 HX42.out (by omega) l2).mono ?_
  rintro e w12 ⟨rfl, hrd, hkn⟩
  have HU12 := Lib.hid (HU11.out.read hkn hrd)
  clear hkn hrd HU11
  have U := HU12.out.set 34 (.int .i64 x2)
  rw [(labCs_set P hPl x0 x1 0 0 0 x2).2.2.1] at U
  obtain ⟨u, g⟩ := labCs_get P hPl x0 x1 0 0 0 2 (by omega)
  have k0 := blk_cell HU12.out.lab g
  have kf := blk_free HU12.out.lab 34
  simp only [Nat.reduceAdd] at k0
  obtain ⟨w13, hw⟩ : ∃ w13, w12.setCell ⟨b5, 34, none⟩ (.int .i64 x2) = w13 := ⟨_, rfl⟩
  rw [hw] at U
  have HU13 := Lib.hid U
  clear U g
  go_wp2_with fail
  clear k0 kf hw HU12
  go_wp2_with fail
  refine (rrnum_ok w13 p _ b 43 0 HU13.out.rd 2 0 65535 (by omega) (by omega) (by rw [HL.out]; omega) x3 HX43.out (by omega) l3).mono ?_
  rintro e w14 ⟨rfl, hrd, hkn⟩
  have HU14 := Lib.hid (HU13.out.read hkn hrd)
  clear hkn hrd HU13
  have U := HU14.out.set 35 (.int .i64 x3)
  rw [(labCs_set P hPl x0 x1 x2 0 0 x3).2.2.2.1] at U
  obtain ⟨u, g⟩ := labCs_get P hPl x0 x1 x2 0 0 3 (by omega)
  have k0 := blk_cell HU14.out.lab g
  have kf := blk_free HU14.out.lab 35
  simp only [Nat.reduceAdd] at k0
  obtain ⟨w15, hw⟩ : ∃ w15, w14.setCell ⟨b5, 35, none⟩ (.int .i64 x3) = w15 := ⟨_, rfl⟩
  rw [hw] at U
  have HU15 := Lib.hid U
  clear U g
  go_wp2_with fail
  clear k0 kf hw HU14
  go_wp2_with fail
  refine (rrnum_ok w15 p _ b 45 0 HU15.out.rd 5 0 1099511627776 (by omega) (by omega) (by rw [HL.out]; omega) x4 HX45.out (by omega) l4).mono ?_
  rintro e w16 ⟨rfl, hrd, hkn⟩
  have HU16 := Lib.hid (HU15.out.read hkn hrd)
  clear hkn hrd HU15
  have U := HU16.out.set 36 (.int .i64 x4)
  rw [(labCs_set P hPl x0 x1 x2 x3 0 x4).2.2.2.2] at U
  obtain ⟨u, g⟩ := labCs_get P hPl x0 x1 x2 x3 0 4 (by omega)
  have k0 := blk_cell HU16.out.lab g
  have kf := blk_free HU16.out.lab 36
  simp only [Nat.reduceAdd] at k0
  obtain ⟨w17, hw⟩ : ∃ w17, w16.setCell ⟨b5, 36, none⟩ (.int .i64 x4) = w17 := ⟨_, rfl⟩
  rw [hw] at U
  have HU17 := Lib.hid U
  clear U g
  obtain ⟨L, hL, hLp, hLm⟩ : ∃ L : Lab, labCs P x0 x1 x2 x3 x4 = L.cells.toArray ∧ L.pool.length = 32 ∧ L = labOf b := ⟨labOf b, by rw [HLab.out, ← HPP.out]; rfl, HP.out, rfl⟩
  obtain ⟨lc, hlc⟩ : ∃ lc, L.cells = lc := ⟨_, rfl⟩
  have hlcl : lc.length = 37 := by rw [← hlc]; exact L.cells_length hLp
  have hlco : ∀ u ∈ lc, u.oneCell' = true := by rw [← hlc]; exact oneCell_lab L
  have hlab := HU17.out.lab
  rw [hL, hlc] at hlab
  have HLAB := Lib.hid hlab; have HLC := Lib.hid hlc; have HLM := Lib.hid hLm; have HLD := Lib.hid hL
  clear hL hlc hLm hlab
  go_wp2_with (first
    | ((with_reducible show wpList _ _ _ (⟨some 40, .load 25 (.tmp 5), _, _, _, _⟩ :: _) _ _); refine wpList_load_mid rfl 25 (.tmp 5) rfl b5 0 rfl lc _ (rangeAt_whole HLAB.out) Try.underlying25 rfl (by rw [hlcl]; exact sizeLab) ?_))
  clear k0 kf hw HU16
  have CP := rpack_any L hLp w17
  rw [HLC.out] at CP
  refine CP.mono ?_
  clear CP
  rintro e w20 ⟨v20, rfl, hown20, hk20⟩
  have HU20 := Lib.hid (HU17.out.same hk20)
  have hlab20 := hk20.blk HLAB.out id
  have hrd20 := Rd.of_owns hown20
  have hk1 := conv_rd hrd20
  have hk2 := conv_rd (HR.out.keep HU20.out.keep fun _ _ => id)
  obtain ⟨a20, c20, rfl, -, -⟩ := hrd20.form
  have HLAB20 := Lib.hid hlab20
  clear hown20 hk20 hrd20 HU17 HLAB hlab20
  have HUR := Lib.hid (show unpackR b = (zeroLab, 11) by unfold unpackR; rw [if_neg (by rw [HL.out]; simp), if_neg HZN.out, if_neg (by exact fun h => HQ.out h.2)])
  rw [show L.may = true by rw [HLM.out]; exact HM.out]
  have hcmp : ((strB (packB L)).toList == (strB b).toList) = false := by rw [strB_eq, HLM.out]; exact decide_eq_false HQ.out
  have hcmp2 : ((strB (packB L)).toList != (strB b).toList) = true := by simp only [bne, hcmp]; rfl
  go_wp2_with (first
    | ((with_reducible show wpList _ _ _ (⟨none, .store 25 (.tmp 2) (.tmp 53), _, _, _, _⟩ :: _) _ _); refine wpList_store_agg rfl 25 (.tmp 2) (.tmp 53) rfl w.heap.size 0 zc rfl rfl _ _ HU20.out.res (by simp) (by rw [hzl]; exact sizeLab) hzo ?_; intro w21 hb21 hk21; have HB21 := Lib.hid hb21; have HK21 := Lib.hid hk21; clear hb21 hk21))
  refine bodyPost_ret (results_cell_row_tmp rfl _ _ w.heap.size _ _ _ _ rfl HB21.out Try.underlying25 rfl (by rw [spl_size, List.size_toArray, hzl]; exact sizeLab)) rfl ⟨?_, ?_⟩
  · rw [spl_whole _ _ (by simp), HUR.out, HZ.out]; rfl
  · exact HU20.out.keep.trans' HK21.out (fun _ _ h => h) (fun i hi e => by omega)

set_option maxHeartbeats 4000000 in
theorem runpack_ok (w : World) (bv : Value) (b : List UInt8) (hr : Rd w 1 bv b.length (b.map vb)) (hl : b.length = 256) (hz : ¬ b = List.replicate 256 0) (hm : (labOf b).may = true) (hq : packB (labOf b) = b) :
    Calls Try.prog 19 #[bv] w (UnpackPost w (unpackR b)) := by
  have hlt : ∀ g, bv.ownBlock = some g → g < w.heap.size := by
    obtain ⟨k, hk, hk2⟩ := hr.lt (by simp; omega)
    intro g hg
    rw [hg] at hk; cases hk; exact hk2
  obtain ⟨a, c, hv, -, -⟩ := hr.form
  rw [hl] at hv
  subst hv
  have HR := Lib.hid hr; have HZN := Lib.hid hz; have HM := Lib.hid hm; have HQ := Lib.hid hq; clear hz hm hq
  clear hr
  obtain ⟨zc, hzc, hzl, hzo⟩ : ∃ zc, zeroLab.cells = zc ∧ zc.length = 37 ∧ ∀ u ∈ zc, u.oneCell' = true := ⟨_, rfl, rfl, oneCell_lab _⟩
  have hzv : ∀ w, (zeroValue 25).run Try.prog w = .ok (.agg zc.toArray) w := by rw [← hzc]; exact zeroValLab
  have hbd : ∀ w, (Instr.build 25 #[]).run Try.prog w = .ok (.agg zc.toArray) w := by rw [← hzc]; exact buildLab
  have HZ := Lib.hid hzc; clear hzc
  have HL := Lib.hid hl
  clear hl
  go_enter Try.func19, Try.ntmps19
  go_wp2_with (first
    | (refine wpList_alloc_at rfl 25 rfl _ hzv zc.toArray rfl ?_))
  obtain ⟨w2, hw2⟩ : ∃ w2, w.alloc (.cells zc.toArray 25) = w2 := ⟨_, rfl⟩
  have hres : w2.heap[w.heap.size]? = some (.cells zc.toArray 25 (0, 0)) := by rw [← hw2]; exact heap_alloc_new _ _
  have hkw2 : Keep noBlk w w2 := by rw [← hw2]; exact (Keep.refl noBlk w).alloc _
  rw [hw2]
  have HRES := Lib.hid hres; have HKW2 := Lib.hid hkw2
  clear hres hkw2 hw2
  refine (rnought_any w2 _ b (HR.out.keep HKW2.out fun _ _ => id) false (by rw [HL.out]; exact decide_eq_false HZN.out) (by rw [HL.out]; omega)).mono ?_
  rintro e w3 ⟨rfl, rfl⟩
  have HP := Lib.hid (labOf_pool b HL.out)
  have hs2 := HKW2.out.size
  go_wp2_with fail
  refine (rropen_any _ b w2 (HR.out.keep HKW2.out fun _ _ => id) (by rw [HL.out]; omega) (fun g hg => by have := hlt g hg; omega)).mono ?_
  rintro e w3 ⟨rfl, hrd, hk3⟩
  have hres3 := hk3.blk HRES.out id
  have hkw3 := HKW2.out.trans hk3
  have hlt2 := lt_of_block HRES.out
  have HRD := Lib.hid hrd; have HR3 := Lib.hid hres3; have HK3 := Lib.hid hkw3
  clear hrd hk3 hres3 hkw3 HRES HKW2
  obtain ⟨p, hp⟩ : ∃ p, w2.heap.size = p := ⟨_, rfl⟩
  rw [hp] at HRD hlt2 hs2 ⊢
  clear hp
  go_wp2_with fail
  refine (rrraw_ok w3 p _ b 0 0 HRD.out 8 (by omega) (by rw [HL.out]; omega)).mono ?_
  rintro e w4 ⟨v4, rfl, -, hrd, hk4⟩
  have hres4 := hk4.blk HR3.out (by omega)
  have hkw4 : Keep noBlk w w4 := HK3.out.trans' hk4 (fun _ _ h => h) (fun i hi e => by omega)
  have HRD4 := Lib.hid hrd; have HR4 := Lib.hid hres4; have HK4 := Lib.hid hkw4
  clear hrd hk4 hres4 hkw4 HRD HR3 HK3
  go_wp2_with (first
    | (refine wpList_alloc_at rfl 25 rfl _ hzv zc.toArray rfl ?_))
  have U5 : RpW w ((w4.alloc (.cells zc.toArray 25)).drew) w.heap.size w4.heap.size p (.slice a 256 c) b 8 zc zc.toArray := by
    have K : Keep noBlk w4 ((w4.alloc (.cells zc.toArray 25)).drew) := ((Keep.refl _ _).alloc _).drew
    have hlt4 := lt_of_block HR4.out
    exact ⟨K.blk HR4.out id, heap_alloc_new w4 _, HRD4.out.keep K id (fun _ _ => id), HK4.out.trans K, by omega, hlt, by omega, Nat.le_refl _, HK4.out.size⟩
  obtain ⟨b5, hb5⟩ : ∃ b5, w4.heap.size = b5 := ⟨_, rfl⟩
  refine wp_region_any (by kernel_rfl) ?_
  obtain ⟨w5, hw5⟩ : ∃ w5, (w4.alloc (.cells zc.toArray 25)).drew = w5 := ⟨_, rfl⟩
  change wpAny _ _ _ _ _ _ _ ((w4.alloc (.cells zc.toArray 25)).drew)
  rw [hw5] at U5 ⊢
  rw [hb5] at U5 ⊢
  have HU5 := Lib.hid U5
  clear U5 HRD4 HR4 HK4 hw5 hb5
  refine wpAny_take (i := 0) (v := .pointer (some ⟨b5, 0, none⟩)) rfl (by kernel_rfl) (by kernel_rfl) (by kernel_rfl) (fun _ _ _ h => h) (.inl ⟨by rfl, fun w' => ?_⟩) ?_
  · go_simp
  refine wpAny_take (i := 1) (v := .slice (some ⟨b5, 0, none⟩) 32 32) rfl (by kernel_rfl) (by kernel_rfl) (by kernel_rfl) (fun _ _ _ h => h) (.inl ⟨by rfl, fun w' => ?_⟩) ?_
  · go_simp
  refine wpAny_take (i := 2) (v := .pointer (some ⟨p, 0, none⟩)) rfl (by kernel_rfl) (by kernel_rfl) (by kernel_rfl) (fun _ _ _ h => h) (.inl ⟨by rfl, fun w' => rfl⟩) ?_
  refine wpAny_one (k := 3) rfl (by kernel_rfl) ?_
  go_wp2_with fail
  refine (rrraw_ok w5 p _ b 8 0 HU5.out.rd 32 (by omega) (by rw [HL.out]; omega)).mono ?_
  rintro e w6 ⟨v6, rfl, hown, hrd, hk6⟩
  have hrd6 : Rd w6 1 v6 32 ((labOf b).pool.map vb) := Rd.of_owns hown
  obtain ⟨a6, c6, rfl, -, -⟩ := hrd6.form
  have U6 := HU5.out.read hk6 hrd
  obtain ⟨P, hP⟩ : ∃ P, (labOf b).pool.map vb = P := ⟨_, rfl⟩
  have hPl : P.length = 32 := by rw [← hP]; simp [HP.out]
  have hPo : ∀ u ∈ P, u.oneCell' = true := by rw [← hP]; exact oneCell_vb _
  rw [hP] at hrd6
  have HPP := Lib.hid hP; have HU6 := Lib.hid U6; have HRD6 := Lib.hid hrd6
  clear hP U6 hrd6 hown hrd hk6 HU5
  go_wp2_with fail
  refine wpAny_one (k := 4) rfl (by kernel_rfl) ?_
  refine wpList_copy_rd rfl (.tmp 20) (.tmp 22) 26 26 rfl 5 Try.underlying26 sizeU8 b5 0 32 32 rfl _ 32 P rfl HRD6.out 32 rfl zc.toArray _ HU6.out.lab (by simp [hzl]) hPo ?_
  intro w7 hb7 hk7
  rw [List.take_of_length_le (by rw [hPl]; exact Nat.le_refl _), labCs_spl P hPl zc HZ.out] at hb7
  have HU7 := Lib.hid (HU6.out.put hk7 hb7)
  clear hb7 hk7
  refine wpList_nil ?_
  refine wpAny_done (by kernel_rfl) ?_ _
  clear HU6 HRD6
  obtain ⟨x0, hx0⟩ : ∃ x, beN ((b.drop 40).take 1) = x := ⟨_, rfl⟩
  have HX40 := Lib.hid hx0
  obtain ⟨x1, hx1⟩ : ∃ x, beN ((b.drop 41).take 1) = x := ⟨_, rfl⟩
  have HX41 := Lib.hid hx1
  obtain ⟨x2, hx2⟩ : ∃ x, beN ((b.drop 42).take 1) = x := ⟨_, rfl⟩
  have HX42 := Lib.hid hx2
  obtain ⟨x3, hx3⟩ : ∃ x, beN ((b.drop 43).take 2) = x := ⟨_, rfl⟩
  have HX43 := Lib.hid hx3
  obtain ⟨x4, hx4⟩ : ∃ x, beN ((b.drop 45).take 5) = x := ⟨_, rfl⟩
  have HX45 := Lib.hid hx4
  have l0 : (x0 : Int) ≤ 255 := by rw [← hx0]; exact beN_byte _ (by simp; omega)
  have l1 : (x1 : Int) ≤ 255 := by rw [← hx1]; exact beN_byte _ (by simp; omega)
  have l2 : (x2 : Int) ≤ 255 := by rw [← hx2]; exact beN_byte _ (by simp; omega)
  have l3 : (x3 : Int) ≤ 65535 := by rw [← hx3]; have := beN_lt ((b.drop 43).take 2); have h2 : 256 ^ ((b.drop 43).take 2).length ≤ 256 ^ 2 := Nat.pow_le_pow_right (by omega) (by simp; omega); omega
  have l4 : (x4 : Int) ≤ 1099511627776 := by rw [← hx4]; have := beN_lt ((b.drop 45).take 5); have h2 : 256 ^ ((b.drop 45).take 5).length ≤ 256 ^ 5 := Nat.pow_le_pow_right (by omega) (by simp; omega); omega
  have HLab := Lib.hid (show labOf b = ⟨(labOf b).pool, x0, x1, x2, x3, x4⟩ by rw [← hx0, ← hx1, ← hx2, ← hx3, ← hx4]; rfl)
  clear hx0 hx1 hx2 hx3 hx4
  go_wp2_with fail
  refine (rrnum_ok w7 p _ b 40 0 HU7.out.rd 1 0 255 (by omega) (by omega) (by rw [HL.out]; omega) x0 HX40.out (by omega) l0).mono ?_
  rintro e w8 ⟨rfl, hrd, hkn⟩
  have HU8 := Lib.hid (HU7.out.read hkn hrd)
  clear hkn hrd HU7
  have U := HU8.out.set 32 (.int .i64 x0)
  rw [(labCs_set P hPl 0 0 0 0 0 x0).1] at U
  obtain ⟨u, g⟩ := labCs_get P hPl 0 0 0 0 0 0 (by omega)
  have k0 := blk_cell HU8.out.lab g
  have kf := blk_free HU8.out.lab 32
  simp only [Nat.add_zero] at k0
  obtain ⟨w9, hw⟩ : ∃ w9, w8.setCell ⟨b5, 32, none⟩ (.int .i64 x0) = w9 := ⟨_, rfl⟩
  rw [hw] at U
  have HU9 := Lib.hid U
  clear U g
  go_wp2_with fail
  clear k0 kf hw HU8
  go_wp2_with fail
  refine (rrnum_ok w9 p _ b 41 0 HU9.out.rd 1 0 255 (by omega) (by omega) (by rw [HL.out]; omega) x1 HX41.out (by omega) l1).mono ?_
  rintro e w10 ⟨rfl, hrd, hkn⟩
  have HU10 := Lib.hid (HU9.out.read hkn hrd)
  clear hkn hrd HU9
  have U := HU10.out.set 33 (.int .i64 x1)
  rw [(labCs_set P hPl x0 0 0 0 0 x1).2.1] at U
  obtain ⟨u, g⟩ := labCs_get P hPl x0 0 0 0 0 1 (by omega)
  have k0 := blk_cell HU10.out.lab g
  have kf := blk_free HU10.out.lab 33
  simp only [Nat.reduceAdd] at k0
  obtain ⟨w11, hw⟩ : ∃ w11, w10.setCell ⟨b5, 33, none⟩ (.int .i64 x1) = w11 := ⟨_, rfl⟩
  rw [hw] at U
  have HU11 := Lib.hid U
  clear U g
  go_wp2_with fail
  clear k0 kf hw HU10
  go_wp2_with fail
  refine (rrnum_ok w11 p _ b 42 0 HU11.out.rd 1 0 255 (by omega) (by omega) (by rw [HL.out]; omega) x2 HX42.out (by omega) l2).mono ?_
  rintro e w12 ⟨rfl, hrd, hkn⟩
  have HU12 := Lib.hid (HU11.out.read hkn hrd)
  clear hkn hrd HU11
  have U := HU12.out.set 34 (.int .i64 x2)
  rw [(labCs_set P hPl x0 x1 0 0 0 x2).2.2.1] at U
  obtain ⟨u, g⟩ := labCs_get P hPl x0 x1 0 0 0 2 (by omega)
  have k0 := blk_cell HU12.out.lab g
  have kf := blk_free HU12.out.lab 34
  simp only [Nat.reduceAdd] at k0
  obtain ⟨w13, hw⟩ : ∃ w13, w12.setCell ⟨b5, 34, none⟩ (.int .i64 x2) = w13 := ⟨_, rfl⟩
  rw [hw] at U
  have HU13 := Lib.hid U
  clear U g
  go_wp2_with fail
  clear k0 kf hw HU12
  go_wp2_with fail
  refine (rrnum_ok w13 p _ b 43 0 HU13.out.rd 2 0 65535 (by omega) (by omega) (by rw [HL.out]; omega) x3 HX43.out (by omega) l3).mono ?_
  rintro e w14 ⟨rfl, hrd, hkn⟩
  have HU14 := Lib.hid (HU13.out.read hkn hrd)
  clear hkn hrd HU13
  have U := HU14.out.set 35 (.int .i64 x3)
  rw [(labCs_set P hPl x0 x1 x2 0 0 x3).2.2.2.1] at U
  obtain ⟨u, g⟩ := labCs_get P hPl x0 x1 x2 0 0 3 (by omega)
  have k0 := blk_cell HU14.out.lab g
  have kf := blk_free HU14.out.lab 35
  simp only [Nat.reduceAdd] at k0
  obtain ⟨w15, hw⟩ : ∃ w15, w14.setCell ⟨b5, 35, none⟩ (.int .i64 x3) = w15 := ⟨_, rfl⟩
  rw [hw] at U
  have HU15 := Lib.hid U
  clear U g
  go_wp2_with fail
  clear k0 kf hw HU14
  go_wp2_with fail
  refine (rrnum_ok w15 p _ b 45 0 HU15.out.rd 5 0 1099511627776 (by omega) (by omega) (by rw [HL.out]; omega) x4 HX45.out (by omega) l4).mono ?_
  rintro e w16 ⟨rfl, hrd, hkn⟩
  have HU16 := Lib.hid (HU15.out.read hkn hrd)
  clear hkn hrd HU15
  have U := HU16.out.set 36 (.int .i64 x4)
  rw [(labCs_set P hPl x0 x1 x2 x3 0 x4).2.2.2.2] at U
  obtain ⟨u, g⟩ := labCs_get P hPl x0 x1 x2 x3 0 4 (by omega)
  have k0 := blk_cell HU16.out.lab g
  have kf := blk_free HU16.out.lab 36
  simp only [Nat.reduceAdd] at k0
  obtain ⟨w17, hw⟩ : ∃ w17, w16.setCell ⟨b5, 36, none⟩ (.int .i64 x4) = w17 := ⟨_, rfl⟩
  rw [hw] at U
  have HU17 := Lib.hid U
  clear U g
  obtain ⟨L, hL, hLp, hLm⟩ : ∃ L : Lab, labCs P x0 x1 x2 x3 x4 = L.cells.toArray ∧ L.pool.length = 32 ∧ L = labOf b := ⟨labOf b, by rw [HLab.out, ← HPP.out]; rfl, HP.out, rfl⟩
  obtain ⟨lc, hlc⟩ : ∃ lc, L.cells = lc := ⟨_, rfl⟩
  have hlcl : lc.length = 37 := by rw [← hlc]; exact L.cells_length hLp
  have hlco : ∀ u ∈ lc, u.oneCell' = true := by rw [← hlc]; exact oneCell_lab L
  have hlab := HU17.out.lab
  rw [hL, hlc] at hlab
  have HLAB := Lib.hid hlab; have HLC := Lib.hid hlc; have HLM := Lib.hid hLm; have HLD := Lib.hid hL
  clear hL hlc hLm hlab
  go_wp2_with (first
    | ((with_reducible show wpList _ _ _ (⟨some 40, .load 25 (.tmp 5), _, _, _, _⟩ :: _) _ _); refine wpList_load_mid rfl 25 (.tmp 5) rfl b5 0 rfl lc _ (rangeAt_whole HLAB.out) Try.underlying25 rfl (by rw [hlcl]; exact sizeLab) ?_))
  clear k0 kf hw HU16
  have CP := rpack_any L hLp w17
  rw [HLC.out] at CP
  refine CP.mono ?_
  clear CP
  rintro e w20 ⟨v20, rfl, hown20, hk20⟩
  have HU20 := Lib.hid (HU17.out.same hk20)
  have hlab20 := hk20.blk HLAB.out id
  have hrd20 := Rd.of_owns hown20
  have hk1 := conv_rd hrd20
  have hk2 := conv_rd (HR.out.keep HU20.out.keep fun _ _ => id)
  obtain ⟨a20, c20, rfl, -, -⟩ := hrd20.form
  have HLAB20 := Lib.hid hlab20
  clear hown20 hk20 hrd20 HU17 HLAB hlab20
  have HUR := Lib.hid (show unpackR b = (labOf b, 0) by unfold unpackR; rw [if_neg (by rw [HL.out]; simp), if_neg HZN.out, if_pos ⟨HM.out, HQ.out⟩])
  rw [show L.may = true by rw [HLM.out]; exact HM.out]
  have hcmp : ((strB (packB L)).toList == (strB b).toList) = true := by rw [strB_eq, HLM.out]; exact decide_eq_true HQ.out
  have hcmp2 : ((strB (packB L)).toList != (strB b).toList) = false := by simp only [bne, hcmp]; rfl
  go_wp2_with (first
    | ((with_reducible show wpList _ _ _ (⟨some 54, .load 25 (.tmp 5), _, _, _, _⟩ :: _) _ _); refine wpList_load_mid rfl 25 (.tmp 5) rfl b5 0 rfl lc _ (rangeAt_whole HLAB20.out) Try.underlying25 rfl (by rw [hlcl]; exact sizeLab) ?_)
    | ((with_reducible show wpList _ _ _ (⟨none, .store 25 (.tmp 2) (.tmp 54), _, _, _, _⟩ :: _) _ _); refine wpList_store_agg rfl 25 (.tmp 2) (.tmp 54) rfl w.heap.size 0 lc rfl rfl _ _ HU20.out.res (by rw [hlcl]; simp [hzl]) (by rw [hlcl]; exact sizeLab) hlco ?_; intro w21 hb21 hk21; have HB21 := Lib.hid hb21; have HK21 := Lib.hid hk21; clear hb21 hk21))
  refine bodyPost_ret (results_cell_row_tmp rfl _ _ w.heap.size _ _ _ _ rfl HB21.out Try.underlying25 rfl (by rw [spl_size, List.size_toArray, hzl]; exact sizeLab)) rfl ⟨?_, ?_⟩
  · rw [spl_whole _ _ (by rw [hlcl]; simp [hzl]), HUR.out, ← HLC.out, HLM.out]; rfl
  · exact HU20.out.keep.trans' HK21.out (fun _ _ h => h) (fun i hi e => by omega)

theorem runpack_any (w : World) (bv : Value) (b : List UInt8) (hr : Rd w 1 bv b.length (b.map vb)) (hb : b.length ≤ 65536) :
    Calls Try.prog 19 #[bv] w (UnpackPost w (unpackR b)) := by
  by_cases hl : b.length = 256
  · by_cases hz : b = List.replicate 256 0
    · exact runpack_zero w bv b hr hl hz
    · rcases hm : (labOf b).may with _ | _
      · exact runpack_bad w bv b hr hl hz hm
      · by_cases hq : packB (labOf b) = b
        · exact runpack_ok w bv b hr hl hz hm hq
        · exact runpack_neq w bv b hr hl hz hm hq
  · have := runpack_len w bv b hr hb hl
    rwa [show unpackR b = (zeroLab, 4) by unfold unpackR; rw [if_pos hl]]
end Go.Proofs.Ytdlegbcdmlmbpaa
