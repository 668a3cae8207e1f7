/-
  The digest's tables and first state.
  Conditions: none.
-/
import Derived.Test.YtdlegbcdmlmbpaaHash1
import Derived.Great.Walk
namespace Go.Proofs.Ytdlegbcdmlmbpaa
open Go.RowKit
set_option maxRecDepth 100000

/-- What makes an array of numbers. -/
def MadeA (w : World) (l : List Int) (e : Ending) (w' : World) : Prop := e = .returned (.agg (l.map vW).toArray) ∧ Keep noBlk w w'

def zero64 : Value := .agg (Array.replicate 64 (.int .u32 0))
def zero16 : Value := .agg (Array.replicate 16 (.int .u32 0))
def zero8 : Value := .agg (Array.replicate 8 (.int .u32 0))
theorem zeroK (w : World) : (zeroValue 100).run Try.prog w = .ok zero64 w := by kernel_rfl
theorem zeroWin (w : World) : (zeroValue 112).run Try.prog w = .ok zero16 w := by kernel_rfl
theorem zeroS8 (w : World) : (zeroValue 71).run Try.prog w = .ok zero8 w := by kernel_rfl
theorem zeroState (w : World) : (zeroValue 88).run Try.prog w = .ok zero8 w := by kernel_rfl
theorem size64 : (Try.prog.info? 100).map (·.size) = some 64 := by kernel_rfl
theorem size8 : (Try.prog.info? 71).map (·.size) = some 8 := by kernel_rfl
theorem sizeState : (Try.prog.info? 88).map (·.size) = some 8 := by kernel_rfl
theorem oneCell_vW (l : List Int) : ∀ u ∈ l.map vW, u.oneCell' = true := by
  intro u hu
  obtain ⟨b, _, rfl⟩ := List.mem_map.1 hu
  rfl

theorem size_keys : (spl zero64.cells 0 (keyL.map vW)) = (keyL.map vW).toArray := spl_whole _ _ (by simp [zero64, Value.cells, keyL])
theorem size_start : (spl zero8.cells 0 (startL.map vW)) = (startL.map vW).toArray := spl_whole _ _ (by simp [zero8, Value.cells, startL])
theorem MadeA_end {w w1 w0 : World} {l : List Int} {cs : Array Value} (h : cs = (l.map vW).toArray) (hk : Keep noBlk w w0) (hk2 : Keep (fun k => k = w.heap.size) w0 w1) : MadeA w l (.returned (.agg cs)) w1 :=
  ⟨by rw [h], hk.trans' hk2 (fun _ _ h => h) (fun i hi h => by omega)⟩

set_option maxHeartbeats 1000000 in
theorem keys_any (w : World) : Calls Try.prog 89 #[] w (MadeA w keyL) := by
  go_enter Try.func89, Try.ntmps89
  go_wp2_with (first
    | (refine wpList_alloc_zero rfl 100 rfl zero64 zeroK ?_)
    | (refine Great.wpList_readTo rfl (some 1) rfl (.agg (keyL.map vW).toArray) (by kernel_rfl) ?_)
    | (refine wpList_store_agg rfl 100 (.tmp 0) (.tmp 1) rfl w.heap.size 0 (keyL.map vW) rfl rfl _ _ (heap_alloc_new _ _) (by simp [zero64, Value.cells, keyL]) size64 (oneCell_vW _) ?_; intro w1 hb hk; have HB := Lib.hid hb; have HK := Lib.hid hk; clear hb hk))
  refine bodyPost_ret (results_cell_row rfl _ _ w.heap.size _ _ _ _ rfl HB.out Try.underlying100 rfl (by rw [spl_size]; kernel_rfl)) rfl (MadeA_end size_keys ((Keep.refl _ _).alloc _) HK.out)

set_option maxHeartbeats 1000000 in
theorem table_any (w : World) : Calls Try.prog 80 #[] w (MadeA w keyL) := by
  go_enter Try.func80, Try.ntmps80
  go_wp2_with (first
    | (refine wpList_alloc_zero rfl 100 rfl zero64 zeroK ?_)
    | (refine Great.wpList_readTo rfl (some 1) rfl (.agg (keyL.map vW).toArray) (by kernel_rfl) ?_)
    | (refine wpList_store_agg rfl 100 (.tmp 0) (.tmp 1) rfl w.heap.size 0 (keyL.map vW) rfl rfl _ _ (heap_alloc_new _ _) (by simp [zero64, Value.cells, keyL]) size64 (oneCell_vW _) ?_; intro w1 hb hk; have HB := Lib.hid hb; have HK := Lib.hid hk; clear hb hk))
  refine bodyPost_ret (results_cell_row rfl _ _ w.heap.size _ _ _ _ rfl HB.out Try.underlying100 rfl (by rw [spl_size]; kernel_rfl)) rfl (MadeA_end size_keys ((Keep.refl _ _).alloc _) HK.out)

set_option maxHeartbeats 1000000 in
theorem start_any (w : World) : Calls Try.prog 68 #[] w (MadeA w startL) := by
  go_enter Try.func68, Try.ntmps68
  go_wp2_with (first
    | (refine wpList_alloc_zero rfl 71 rfl zero8 zeroS8 ?_)
    | (refine Great.wpList_readTo rfl (some 1) rfl (.agg (startL.map vW).toArray) (by kernel_rfl) ?_)
    | (refine wpList_store_agg rfl 71 (.tmp 0) (.tmp 1) rfl w.heap.size 0 (startL.map vW) rfl rfl _ _ (heap_alloc_new _ _) (by simp [zero8, Value.cells, startL]) size8 (oneCell_vW _) ?_; intro w1 hb hk; have HB := Lib.hid hb; have HK := Lib.hid hk; clear hb hk))
  refine bodyPost_ret (results_cell_row rfl _ _ w.heap.size _ _ _ _ rfl HB.out Try.underlying71 rfl (by rw [spl_size]; kernel_rfl)) rfl (MadeA_end size_start ((Keep.refl _ _).alloc _) HK.out)

set_option maxHeartbeats 1000000 in
theorem rstart_any (w : World) : Calls Try.prog 56 #[] w (MadeA w startL) := by
  go_enter Try.func56, Try.ntmps56
  go_wp2_with (first
    | (refine wpList_alloc_zero rfl 71 rfl zero8 zeroS8 ?_)
    | (refine Great.wpList_readTo rfl (some 1) rfl (.agg (startL.map vW).toArray) (by kernel_rfl) ?_)
    | (refine wpList_store_agg rfl 71 (.tmp 0) (.tmp 1) rfl w.heap.size 0 (startL.map vW) rfl rfl _ _ (heap_alloc_new _ _) (by simp [zero8, Value.cells, startL]) size8 (oneCell_vW _) ?_; intro w1 hb hk; have HB := Lib.hid hb; have HK := Lib.hid hk; clear hb hk))
  refine bodyPost_ret (results_cell_row rfl _ _ w.heap.size _ _ _ _ rfl HB.out Try.underlying71 rfl (by rw [spl_size]; kernel_rfl)) rfl (MadeA_end size_start ((Keep.refl _ _).alloc _) HK.out)

/-- The j-th byte of a piece. -/
def byt (bs : List UInt8) (j : Nat) : Int := ((bs.getD j 0).toNat : Int)
theorem byt_bd (bs : List UInt8) (j : Nat) : 0 ≤ byt bs j ∧ byt bs j < 256 := by
  unfold byt
  have := (bs.getD j 0).toNat_lt
  omega

/-- A word is told: the window takes it up. -/
def WordPost (w : World) (b i : Nat) (q : Nat → Int) (e : Ending) (w' : World) : Prop :=
  e = .returned (.int .u32 (wrd q i)) ∧ w'.heap[b]? = some (.cells (win q (i + 1)) 112 (0, 0)) ∧ Keep (fun k => k = b) w w'

theorem word_any (b i : Nat) (p : Value) (bs : List UInt8) (w : World) (h64 : i < 64) (hl : bs.length = 64) (hp : Rd w 1 p 64 (bs.map vb)) (hb : w.heap[b]? = some (.cells (win (byt bs) i) 112 (0, 0))) :
    Calls Try.prog 91 #[.pointer (some ⟨b, 0, none⟩), .int .i64 i, p] w (WordPost w b i (byt bs)) := by
  by_cases h16 : i < 16
  · obtain ⟨h0, a, cap, rfl, h1, h2, h3, h4⟩ := hp
    obtain ⟨g, o, rfl, hc⟩ := h4 (by simp [hl])
    have cell : ∀ j, j < 64 → w.cell? ⟨g, o + j, none⟩ = some (.int .u8 (byt bs j)) := fun j hj => hc j _ (by
      have : j < bs.length := by omega
      simp [vb, byt, this])
    have hy : (win (byt bs) i)[i]? = some ((win (byt bs) i)[i]'(by rw [win_size]; omega)) := by simp [win_size, h16]
    refine (word_lo b i g o cap (byt bs (4 * i)) (byt bs (4 * i + 1)) (byt bs (4 * i + 2)) (byt bs (4 * i + 3)) _ _ w h16 h1 h2 hb hy (cell _ (by omega)) (cell (4 * i + 1) (by omega)) (cell (4 * i + 2) (by omega)) (cell (4 * i + 3) (by omega)) (byt_bd _ _) (byt_bd _ _) (byt_bd _ _) (byt_bd _ _)).mono ?_
    rintro e w' ⟨rfl, h5, h6⟩
    have hw : wrd (byt bs) i = word4 (byt bs (4 * i)) (byt bs (4 * i + 1)) (byt bs (4 * i + 2)) (byt bs (4 * i + 3)) := by rw [wrd, dif_pos h16]
    refine ⟨by rw [hw], ?_, h6⟩
    rw [win, hw, show i % 16 = i by omega]
    exact h5
  · have g16 := win_get (byt bs) i (i - 16) (by omega) (by omega)
    have g15 := win_get (byt bs) i (i - 15) (by omega) (by omega)
    have g7 := win_get (byt bs) i (i - 7) (by omega) (by omega)
    have g2 := win_get (byt bs) i (i - 2) (by omega) (by omega)
    rw [show (i - 16) % 16 = i % 16 by omega] at g16
    refine (word_hi b i (wrd (byt bs) (i - 15)) (wrd (byt bs) (i - 2)) (wrd (byt bs) (i - 7)) (wrd (byt bs) (i - 16)) p _ w (by omega) h64 ⟨hb, g16, g7⟩ g15 g2).mono ?_
    rintro e w' ⟨rfl, h5, h6⟩
    have hw : wrd (byt bs) i = add32 (add32 (add32 (wrd (byt bs) (i - 16)) (sg0 (wrd (byt bs) (i - 15)))) (wrd (byt bs) (i - 7))) (sg1 (wrd (byt bs) (i - 2))) := by rw [wrd, dif_neg h16]
    refine ⟨by rw [hw], ?_, h6⟩
    rw [win, hw]
    exact h5
end Go.Proofs.Ytdlegbcdmlmbpaa
