/-
  The chapter's label (one), and whether a label is that of a device (There).
  Conditions: the bounds on numbers that each theorem names.
-/
import Derived.Test.YtdlegbcdmlmbpaaUnpack
import Derived.Test.YtdlegbcdmlmbpaaLabEq
namespace Go.Proofs.Ytdlegbcdmlmbpaa
open Go.RowKit
set_option maxRecDepth 100000

def onePool : List UInt8 := (List.range 32).map fun j => UInt8.ofNat (1 + j)
def oneLab : Lab := ⟨onePool, 1, 3, 2, 300, 7⟩
theorem oneLab_may : oneLab.may = true := by decide
theorem onePool_len : onePool.length = 32 := by decide
/-- The pool behind n rounds. -/
def oneP (n : Nat) : List Value := (List.range 32).map fun j => if j < n then vb (UInt8.ofNat (1 + j)) else .int .u8 0
theorem oneP_len (n : Nat) : (oneP n).length = 32 := by simp [oneP]
theorem oneP_step (n : Nat) : (oneP n).set n (vb (UInt8.ofNat (1 + n))) = oneP (n + 1) := by
  apply List.ext_getElem
  · simp [oneP]
  · intro i h1 h2
    simp only [List.getElem_set, oneP, List.getElem_map, List.getElem_range]
    by_cases e : n = i
    · subst e; simp
    · rw [if_neg e]
      by_cases h : i < n
      · rw [if_pos h, if_pos (by omega)]
      · rw [if_neg h, if_neg (by omega)]
theorem oneP_all : oneP 32 = onePool.map vb := by
  apply List.ext_getElem
  · simp [oneP, onePool]
  · intro i h1 h2
    have : i < 32 := by simpa [oneP] using h1
    simp [oneP, onePool, this]
theorem oneP_zero : oneP 0 = List.replicate 32 (.int .u8 0) := rfl
theorem buildOne (w : World) : (Instr.build 25 #[(1, .int .i64 1), (2, .int .i64 3), (3, .int .i64 2), (4, .int .i64 300), (5, .int .i64 7)]).run Try.prog w = .ok (.agg (labCs (oneP 0) 1 3 2 300 7)) w := by kernel_rfl
theorem oneCell_one (n : Nat) : ∀ u ∈ oneP n ++ ([.int .i64 1, .int .i64 3, .int .i64 2, .int .i64 300, .int .i64 7] : List Value), u.oneCell' = true := by
  intro u hu
  rcases List.mem_append.1 hu with h | h
  · obtain ⟨j, _, rfl⟩ := List.mem_map.1 h
    split <;> rfl
  · simp at h
    rcases h with rfl | rfl | rfl | rfl | rfl <;> rfl

/-- What the rounds keep up. -/
structure OneR (w wr : World) (b1 n : Nat) : Prop where
  res : wr.heap[w.heap.size]? = some (.cells zeroLab.cells.toArray 25 (0, 0))
  lab : wr.heap[b1]? = some (.cells (labCs (oneP n) 1 3 2 300 7) 25 (0, 0))
  keep : Keep noBlk w wr
  lt : w.heap.size < b1
theorem OneR.step {w wr : World} {b1 n : Nat} (h : OneR w wr b1 n) (hn : n < 32) {x : Value} (hx : x = vb (UInt8.ofNat (1 + n))) : OneR w (wr.setCell ⟨b1, n, none⟩ x) b1 (n + 1) := by
  subst hx
  have K : Keep (fun i => i = b1) wr (wr.setCell ⟨b1, n, none⟩ (vb (UInt8.ofNat (1 + n)))) := (Keep.refl (fun i => i = b1) wr).setCell (p := ⟨b1, n, none⟩) (fun _ => rfl) _
  have lt := h.lt
  refine ⟨K.blk h.res (by omega), ?_, h.keep.trans' K (fun _ _ h => h) (fun i hi e => by omega), h.lt⟩
  rw [set_blk h.lab]
  unfold labCs
  rw [List.setIfInBounds_toArray, List.set_append_left _ _ (by rw [oneP_len]; exact hn), oneP_step]

set_option maxHeartbeats 1000000 in
theorem one_any (w : World) : Calls Try.prog 27 #[] w (fun e w' => e = .returned (.agg oneLab.cells.toArray) ∧ Keep noBlk w w') := by
  obtain ⟨zc, hzc, hzl⟩ : ∃ zc, zeroLab.cells = zc ∧ zc.length = 37 := ⟨_, rfl, rfl⟩
  have hzv : ∀ w, (zeroValue 25).run Try.prog w = .ok (.agg zc.toArray) w := by rw [← hzc]; exact zeroValLab
  obtain ⟨oc, hoc⟩ : ∃ oc, ((((zc.set 32 (.int .i64 1)).set 33 (.int .i64 3)).set 34 (.int .i64 2)).set 35 (.int .i64 300)).set 36 (.int .i64 7) = oc := ⟨_, rfl⟩
  have hoc2 : oneP 0 ++ ([.int .i64 1, .int .i64 3, .int .i64 2, .int .i64 300, .int .i64 7] : List Value) = oc := by rw [← hoc, ← hzc]; rfl
  have hol : oc.length = 37 := by rw [← hoc2]; simp [oneP_len]
  have hoo : ∀ u ∈ oc, u.oneCell' = true := by rw [← hoc2]; exact oneCell_one 0
  have HZ := Lib.hid hzc; have HOC := Lib.hid hoc2
  clear hzc hoc2
  go_enter Try.func27, Try.ntmps27
  go_wp2_with (first
    | (refine wpList_alloc_at rfl 25 rfl _ hzv zc.toArray rfl ?_)
    | ((with_reducible show wpList _ _ _ (⟨none, .store 25 (.tmp 1) (.tmp 3), _, _, _, _⟩ :: _) _ _); refine wpList_store_agg rfl 25 (.tmp 1) (.tmp 3) rfl (w.alloc (.cells zc.toArray 25)).heap.size 0 oc rfl rfl zc.toArray _ (heap_alloc_new _ _) (by rw [hol, List.size_toArray, hzl]; exact Nat.le_refl _) (by rw [hol]; exact sizeLab) hoo ?_; intro w2 hb2 hk2; rw [World.size_alloc] at hb2 hk2; have HB2 := Lib.hid hb2; have HK2 := Lib.hid hk2; clear hb2 hk2))
  clear hoc
  have R0 : Hid (OneR w w2 (w.heap.size + 1) 0) := by
    refine Lib.hid ⟨HK2.out.blk (by rw [HZ.out]; exact heap_alloc2_old _ _ _) (by omega), ?_, (((Keep.refl noBlk w).alloc _).alloc _).trans' HK2.out (fun _ _ h => h) (fun i hi e => by omega), by omega⟩
    have := HB2.out
    rw [spl_whole _ _ (by rw [hol, List.size_toArray, hzl]), ← HOC.out] at this
    exact this
  obtain ⟨b1, hb1⟩ : ∃ b1, w.heap.size + 1 = b1 := ⟨_, rfl⟩
  rw [hb1] at R0 ⊢
  clear hb1 HB2 HK2
  go_loopw [2] (fun i wr => ∃ n : Nat, n ≤ 32 ∧ i = .int .i64 n ∧ Hid (OneR w wr b1 n)) (fun i _ => 32 - (intOf i).toNat)
  case atStart => exact ⟨0, by omega, rfl, R0⟩
  case round =>
    clear R0
    obtain ⟨n, hn, rfl, hR⟩ := hrel
    by_cases hn32 : n < 32
    · have hc : ∃ u, wr.cell? ⟨b1, n, none⟩ = some u := by
        refine ⟨(oneP n)[n]'(by rw [oneP_len]; exact hn32), blk_cell hR.out.lab ?_⟩
        unfold labCs
        rw [List.getElem?_toArray, List.getElem?_append_left (by rw [oneP_len]; exact hn32)]
        exact List.getElem?_eq_getElem _
      obtain ⟨u, hc⟩ := hc
      have hf := blk_free hR.out.lab n
      have hn0 : (0 : Int) ≤ (n : Int) := by omega
      have hn1 : (n : Int) < 32 := by omega
      have HV := Lib.hid (show Value.int .u8 (1 + (n : Int)) = vb (UInt8.ofNat (1 + n)) by unfold vb; simp; omega)
      have hR2 := Lib.hid (hR.out.step hn32 HV.out)
      have e1 : IntKind.u8.wrap (1 + (n : Int)) = 1 + (n : Int) := by rw [IntWalk.u8_in _ (by omega)]
      go_wp2_with fail
      go_roundw
      case rel => exact ⟨n + 1, by omega, by go_num, hR2⟩
      case measure => simp [intOf]; omega
    · obtain rfl : n = 32 := by omega
      obtain ⟨lc, hlc⟩ : ∃ lc, oneLab.cells = lc := ⟨_, rfl⟩
      have hlcl : lc.length = 37 := by rw [← hlc]; exact oneLab.cells_length onePool_len
      have hlco : ∀ u ∈ lc, u.oneCell' = true := by rw [← hlc]; exact oneCell_lab oneLab
      have hlab : wr.heap[b1]? = some (.cells lc.toArray 25 (0, 0)) := by
        have := hR.out.lab
        rw [oneP_all] at this
        rw [← hlc]
        exact this
      have HLAB := Lib.hid hlab; have HLC := Lib.hid hlc
      clear hlab hlc
      go_wp2_with (first
        | ((with_reducible show wpList _ _ _ (⟨some 14, .load 25 (.tmp 1), _, _, _, _⟩ :: _) _ _); refine wpList_load_mid rfl 25 (.tmp 1) rfl b1 0 rfl lc _ (rangeAt_whole HLAB.out) Try.underlying25 rfl (by rw [hlcl]; exact sizeLab) ?_)
        | ((with_reducible show wpList _ _ _ (⟨none, .store 25 (.tmp 0) (.tmp 14), _, _, _, _⟩ :: _) _ _); refine wpList_store_agg rfl 25 (.tmp 0) (.tmp 14) rfl w.heap.size 0 lc rfl rfl _ _ hR.out.res (by rw [hlcl]; exact Nat.le_refl _) (by rw [hlcl]; exact sizeLab) hlco ?_; intro w4 hb4 hk4; have HB4 := Lib.hid hb4; have HK4 := Lib.hid hk4; clear hb4 hk4))
      refine bodyPost_ret (results_cell_row rfl _ _ w.heap.size _ _ _ _ rfl HB4.out Try.underlying25 rfl (by rw [spl_size]; exact sizeLab)) rfl ⟨?_, ?_⟩
      · rw [spl_whole _ _ (by rw [hlcl]; rfl), HLC.out]
      · exact hR.out.keep.trans' HK4.out (fun _ _ h => h) (fun i hi e => by omega)

/-- Is a label that of a device? -/
def thereB (L : Lab) (pool : List UInt8) (dev life : Int) : Bool := L.may && decide (L.pool = pool) && decide (L.dev = dev) && decide (L.life = life)
def TherePost (w : World) (b : Bool) (e : Ending) (w' : World) : Prop := e = .returned (.bool b) ∧ Keep noBlk w w'
set_option maxHeartbeats 1000000 in
theorem there_any (w : World) (L : Lab) (pool : List UInt8) (dev life : Int) (hL : L.pool.length = 32) (hp : pool.length = 32) :
    Calls Try.prog 25 #[.agg L.cells.toArray, .agg (pool.map vb).toArray, .int .i64 dev, .int .i64 life] w (TherePost w (thereB L pool dev life)) := by
  obtain ⟨w1, hw1⟩ : ∃ w1, (w.alloc (.cells L.cells.toArray 25)).alloc (.cells (pool.map vb).toArray 23) = w1 := ⟨_, rfl⟩
  have b0 : w1.heap[w.heap.size]? = some (.cells L.cells.toArray 25 (0, 0)) := by rw [← hw1]; exact heap_alloc2_old _ _ _
  have b1 : w1.heap[w.heap.size + 1]? = some (.cells (pool.map vb).toArray 23 (0, 0)) := by rw [← hw1]; exact heap_alloc2_new _ _ _
  have hk1 : Keep noBlk w w1 := by rw [← hw1]; exact ((Keep.refl _ _).alloc _).alloc _
  have C := Lib.hid (check_any L hL w1)
  have he := eqID L.pool pool hL hp
  obtain ⟨d0, d1, d2, d3, d4⟩ := L.at hL
  obtain ⟨lc, hlc⟩ : ∃ lc, L.cells = lc := ⟨_, rfl⟩
  have hlcl : lc.length = 37 := by rw [← hlc]; exact L.cells_length hL
  have hpl : ∀ i, i < 32 → lc[i]? = (L.pool.map vb)[i]? := by rw [← hlc]; exact L.cells_pool hL
  rw [hlc] at C b0 hw1 d0 d1 d2 d3 d4 ⊢
  obtain ⟨ps, hps⟩ : ∃ ps, pool.map vb = ps := ⟨_, rfl⟩
  obtain ⟨qs, hqs⟩ : ∃ qs, L.pool.map vb = qs := ⟨_, rfl⟩
  have hpsl : ps.length = 32 := by rw [← hps]; simp [hp]
  have hqsl : qs.length = 32 := by rw [← hqs]; simp [hL]
  rw [hps] at hw1 b1 he ⊢
  rw [hqs] at he hpl
  have HB0 := Lib.hid b0; have HB1 := Lib.hid b1; have HK1 := Lib.hid hk1; have HPL := Lib.hid hpl
  have HLC := Lib.hid hlc; have HPS := Lib.hid hps; have HQS := Lib.hid hqs
  obtain ⟨bt, hbt⟩ : ∃ bt, thereB L pool dev life = bt := ⟨_, rfl⟩
  have HBT := Lib.hid hbt
  rw [hbt]
  clear b0 b1 hk1 hlc hps hqs hpl hbt
  have hsz : w.heap.size + 2 = w1.heap.size := by rw [← hw1]; simp
  have HSZ := Lib.hid hsz; clear hsz
  go_enter Try.func25, Try.ntmps25
  go_wp2_with (first
    | ((with_reducible show wpList _ _ _ (⟨some 9, .load 25 (.tmp 4), _, _, _, _⟩ :: _) _ _); refine wpList_load_mid rfl 25 (.tmp 4) rfl w.heap.size 0 rfl lc _ (rangeAt_whole HB0.out) Try.underlying25 rfl (by rw [hlcl]; exact sizeLab) ?_))
  refine C.out.mono ?_
  rintro e w2 ⟨rfl, hw2⟩
  have K2 : Keep noBlk w1 w2 := by rw [← hw2]; exact (Keep.refl _ _).alloc _
  have b0 := K2.blk HB0.out id
  have b1 := K2.blk HB1.out id
  have c0 := blk_cell b0 d0
  have c4 := blk_cell b0 d4
  have HB0' := Lib.hid b0; have HB1' := Lib.hid b1
  have HKE := Lib.hid (HK1.out.trans K2)
  clear hw1 hw2 K2 b0 b1 C
  rcases hm : L.may with _ | _
  · have hbt : bt = false := by rw [← HBT.out]; unfold thereB; rw [hm]; simp
    subst hbt
    clear hm
    go_wp2_with fail
    go_ret
    exact ⟨rfl, HKE.out⟩
  · have HM := Lib.hid hm; clear hm
    have hra : w2.rangeAt w.heap.size 0 qs := by
      intro j u hj
      have hj32 : j < 32 := by rw [← hqsl]; exact (List.getElem?_eq_some_iff.1 hj).1
      rw [Nat.zero_add]
      exact blk_cell HB0'.out (by rw [List.getElem?_toArray, HPL.out j hj32]; exact hj)
    have HRA := Lib.hid hra; clear hra
    obtain ⟨t1, ht1⟩ : ∃ t, decide (L.pool = pool) = t := ⟨_, rfl⟩
    obtain ⟨t2, ht2⟩ : ∃ t, (L.dev == dev) = t := ⟨_, rfl⟩
    obtain ⟨t3, ht3⟩ : ∃ t, (L.life == life) = t := ⟨_, rfl⟩
    have hbt : bt = (t1 && t2 && t3) := by
      rw [← HBT.out, ← ht1, ← ht2, ← ht3]
      unfold thereB
      rw [HM.out]
      have hd : ∀ x y : Int, decide (x = y) = (x == y) := fun x y => by rw [Bool.eq_iff_iff]; simp
      simp [hd]
    have HBT2 := Lib.hid hbt
    rw [ht1] at he
    clear hbt ht1
    cases t1 <;> cases t2 <;> cases t3 <;> (
      go_wp2_with (first
        | ((with_reducible show wpList _ _ _ (⟨some 14, .load 23 (.tmp 13), _, _, _, _⟩ :: _) _ _); refine wpList_load_g (by rfl) 23 (.tmp 13) rfl w.heap.size 0 rfl qs _ HRA.out Try.underlying23 rfl (by rw [hqsl]; exact sizeID) ?_)
        | ((with_reducible show wpList _ _ _ (⟨some 15, .load 23 (.tmp 5), _, _, _, _⟩ :: _) _ _); refine wpList_load_g (by rfl) 23 (.tmp 5) rfl (w.heap.size + 1) 0 rfl ps _ (rangeAt_whole HB1'.out) Try.underlying23 rfl (by rw [hpsl]; exact sizeID) ?_))
      go_ret
      rw [HBT2.out]
      exact ⟨rfl, HKE.out⟩)
end Go.Proofs.Ytdlegbcdmlmbpaa
