/-
  The digest's turning of words: what the program's and the document's small functions tell.
  Conditions: the bounds that each theorem names.
-/
import Derived.Test.YtdlegbcdmlmbpaaField3
import Derived.Test.YtdlegbcdmlmbpaaPlain2
import Derived.Great.Walk
namespace Go.Proofs.Ytdlegbcdmlmbpaa
open Go.RowKit
set_option maxRecDepth 100000

theorem u64_neg (n : Nat) (h : n < 32) (h1 : 1 ≤ n) : bits .and .u64 (IntKind.u64.wrap (-(n : Int))) 31 = ((32 - n : Nat) : Int) := by
  have : ∀ n : Fin 32, 1 ≤ n.val → bits .and .u64 (IntKind.u64.wrap (-(n.val : Int))) 31 = ((32 - n.val : Nat) : Int) := by decide
  exact this ⟨n, h⟩ h1

set_option maxHeartbeats 400000 in
theorem rotl_any (x : Int) (n : Nat) (hn : 1 ≤ n) (hn' : n ≤ 31) (w : World) :
    Calls Try.prog 98 #[.int .u32 x, .int .i64 (-(n:Int))] w fun e w' => e = .returned (.int .u32 (rot x n)) ∧ w' = w := by
  have h := u64_neg n (by omega) hn
  go_enter Try.func98, Try.ntmps98
  go_wp2_with fail
  go_ret
  refine ⟨?_, rfl⟩
  have e : 32 - (32 - n) = n := by omega
  show Ending.returned (.int .u32 (bits BinOp.or IntKind.u32 (x * 2 ^ (32 - n) % 4294967296) (x / 2 ^ (32 - (32 - n))))) = _
  rw [e, bits_or_comm]
  rfl

set_option maxHeartbeats 400000 in
theorem right_any (x : Int) (n : Nat) (hn : 1 ≤ n) (hn' : n ≤ 31) (w : World) :
    Calls Try.prog 90 #[.int .u32 x, .int .i64 n] w fun e w' => e = .returned (.int .u32 (rot x n)) ∧ w' = w := by
  go_enter Try.func90, Try.ntmps90
  go_wp2_with (go_at_call 98; refine (rotl_any _ _ hn hn' _).mono ?_; rintro e w' ⟨rfl, rfl⟩)
  go_ret
  exact ⟨rfl, rfl⟩

set_option maxHeartbeats 400000 in
theorem rright_any (x : Int) (n : Nat) (hn : 1 ≤ n) (hn' : n ≤ 31) (w : World) :
    Calls Try.prog 82 #[.int .u32 x, .int .i64 n] w fun e w' => e = .returned (.int .u32 (rot x n)) ∧ ∃ m, w' = w.drewN m := by
  go_enter Try.func82, Try.ntmps82
  go_wp2_with fail
  go_quiet (fail)
  go_wp2_with fail
  go_ret
  exact ⟨rfl, _, rfl⟩

theorem right_int (x n : Int) (hn : 1 ≤ n) (hn' : n ≤ 31) (w : World) :
    Calls Try.prog 90 #[.int .u32 x, .int .i64 n] w fun e w' => e = .returned (.int .u32 (rot x n.toNat)) ∧ w' = w := by
  obtain ⟨m, rfl⟩ := Int.eq_ofNat_of_zero_le (show 0 ≤ n by omega)
  exact right_any x m (by omega) (by omega) w
theorem rright_int (x n : Int) (hn : 1 ≤ n) (hn' : n ≤ 31) (w : World) :
    Calls Try.prog 82 #[.int .u32 x, .int .i64 n] w fun e w' => e = .returned (.int .u32 (rot x n.toNat)) ∧ ∃ m, w' = w.drewN m := by
  obtain ⟨m, rfl⟩ := Int.eq_ofNat_of_zero_le (show 0 ≤ n by omega)
  exact rright_any x m (by omega) (by omega) w

/-- What is known of the window while a word is told. -/
structure Win (w : World) (b i : Nat) (cs : Array Value) (x0 x7 : Int) : Prop where
  blk : w.heap[b]? = some (.cells cs 112 (0, 0))
  c0 : cs[i % 16]? = some (.int .u32 x0)
  c7 : cs[(i - 7) % 16]? = some (.int .u32 x7)
theorem Win.set {w : World} {b i : Nat} {cs : Array Value} {x0 x7 : Int} (h : Win w b i cs x0 x7) (hi : 16 ≤ i) (y : Int) : Win (w.setCell ⟨b, i % 16, none⟩ (.int .u32 y)).drew b i (cs.setIfInBounds (i % 16) (.int .u32 y)) y x7 := by
  have hlt : i % 16 < cs.size := (Array.getElem?_eq_some_iff.1 h.c0).1
  refine ⟨set_blk h.blk _ _, ?_, ?_⟩
  · simp [hlt]
  · rw [Array.getElem?_setIfInBounds_ne (by omega)]; exact h.c7

set_option maxHeartbeats 2000000 in
theorem word_hi (b i : Nat) (w15 w2 w7 w16 : Int) (p : Value) (cs : Array Value) (w : World) (h16 : 16 ≤ i) (h64 : i < 64)
   (hw : Win w b i cs w16 w7) (c1 : cs[(i - 15) % 16]? = some (.int .u32 w15)) (c2 : cs[(i - 2) % 16]? = some (.int .u32 w2)) :
    Calls Try.prog 91 #[.pointer (some ⟨b, 0, none⟩), .int .i64 i, p] w fun e w' => e = .returned (.int .u32 (add32 (add32 (add32 w16 (sg0 w15)) w7) (sg1 w2))) ∧ 
      w'.heap[b]? = some (.cells (cs.setIfInBounds (i % 16) (.int .u32 (add32 (add32 (add32 w16 (sg0 w15)) w7) (sg1 w2)))) 112 (0, 0)) ∧ Keep (fun k => k = b) w w' := by
  have hd : decide ((i:Int) < 16) = false := by simp; omega
  have c0 := blk_cell hw.blk hw.c0
  have c1 := blk_cell hw.blk c1
  have c2 := blk_cell hw.blk c2
  have W0 := Lib.hid hw
  clear hw
  go_enter Try.func91, Try.ntmps91
  go_wp2_with fail
  go_quiet (fail)
  go_wp2_with fail
  obtain ⟨v, hv, W1, K1⟩ : ∃ v, w.drewN nq = v ∧ Win v b i cs w16 w7 ∧ Hid (Keep (fun k => k = b) w v) := ⟨_, rfl, ⟨W0.out.blk, W0.out.c0, W0.out.c7⟩, Lib.hid ((Keep.refl _ _).drewN _)⟩
  rw [hv]
  clear c0 c1 c2 hv W0
  have d0 := blk_cell W1.blk W1.c0
  have e0 := blk_free W1.blk (i % 16)
  have H1 := Lib.hid W1; clear W1
  have r7 := right_any w15 7 (by omega) (by omega)
  have r18 := right_any w15 18 (by omega) (by omega)
  have R7 := Lib.hid r7; have R18 := Lib.hid r18; clear r7 r18
  go_still_tail 13, (by kernel_rfl)
  still_call (R7.out _)
  repeat still_step
  still_call (R18.out _)
  repeat still_step
  refine wpStill_nil ?_
  go_wp2_with fail
  obtain ⟨v2, hv2, W2, K2⟩ : ∃ v2, (v.setCell ⟨b, i % 16, none⟩ (.int .u32 (add32 w16 (sg0 w15)))).drew = v2 ∧ Win v2 b i (cs.setIfInBounds (i % 16) (.int .u32 (add32 w16 (sg0 w15)))) (add32 w16 (sg0 w15)) w7 ∧ Hid (Keep (fun k => k = b) w v2) :=
    ⟨_, rfl, H1.out.set h16 _, Lib.hid ((K1.out.setCell (fun _ => rfl) _).drew)⟩
  have hv2' : (v.setCell ⟨b, i % 16, none⟩ (.int .u32 ((w16 + bits BinOp.xor IntKind.u32 (bits BinOp.xor IntKind.u32 (rot w15 7) (rot w15 18)) (w15 / 8)) % 4294967296))).drew = v2 := hv2
  rw [hv2']
  clear hv2 hv2' d0 e0 H1 K1 R7 R18
  have d0 := blk_cell W2.blk W2.c0
  have d7 := blk_cell W2.blk W2.c7
  have e0 := blk_free W2.blk (i % 16)
  have H2 := Lib.hid W2; clear W2
  have hw7 : IntKind.i64.wrap ((i : Int) - 7) = (i : Int) - 7 := by rw [IntWalk.i64_in _ (by omega)]
  have ht7 : ((i : Int) - 7).tmod 16 = ((i : Int) - 7) % 16 := by rw [Int.tmod_eq_emod_of_nonneg (by omega)]
  have hl7 : ((i : Int) - 7) % 16 < 16 := by omega
  have hl7' : (0 : Int) ≤ ((i : Int) - 7) % 16 := by omega
  have hn7 : (((i : Int) - 7) % 16).toNat = (i - 7) % 16 := by omega
  go_still_tail 12, (by kernel_rfl)
  clear hw7 ht7 hl7 hl7' hn7
  go_wp2_with fail
  obtain ⟨v3, hv3, W3, K3⟩ : ∃ v3, (v2.setCell ⟨b, i % 16, none⟩ (.int .u32 (add32 (add32 w16 (sg0 w15)) w7))).drew = v3 ∧ Win v3 b i (cs.setIfInBounds (i % 16) (.int .u32 (add32 (add32 w16 (sg0 w15)) w7))) (add32 (add32 w16 (sg0 w15)) w7) w7 ∧ Hid (Keep (fun k => k = b) w v3) :=
    ⟨_, rfl, by have := H2.out.set h16 (add32 (add32 w16 (sg0 w15)) w7); rwa [Array.setIfInBounds_setIfInBounds] at this, Lib.hid ((K2.out.setCell (fun _ => rfl) _).drew)⟩
  have hv3' : (v2.setCell ⟨b, i % 16, none⟩ (.int .u32 ((add32 w16 (sg0 w15) + w7) % 4294967296))).drew = v3 := hv3
  rw [hv3']
  clear hv3 hv3' d0 d7 e0 H2 K2
  have d0 := blk_cell W3.blk W3.c0
  have e0 := blk_free W3.blk (i % 16)
  have H3 := Lib.hid W3; clear W3
  have r17 := right_any w2 17 (by omega) (by omega)
  have r19 := right_any w2 19 (by omega) (by omega)
  have R17 := Lib.hid r17; have R19 := Lib.hid r19; clear r17 r19
  go_still_tail 13, (by kernel_rfl)
  still_call (R17.out _)
  repeat still_step
  still_call (R19.out _)
  repeat still_step
  refine wpStill_nil ?_
  go_wp2_with fail
  obtain ⟨v4, hv4, W4, K4⟩ : ∃ v4, (v3.setCell ⟨b, i % 16, none⟩ (.int .u32 (add32 (add32 (add32 w16 (sg0 w15)) w7) (sg1 w2)))).drew = v4 ∧ Win v4 b i (cs.setIfInBounds (i % 16) (.int .u32 (add32 (add32 (add32 w16 (sg0 w15)) w7) (sg1 w2)))) (add32 (add32 (add32 w16 (sg0 w15)) w7) (sg1 w2)) w7 ∧ Hid (Keep (fun k => k = b) w v4) :=
    ⟨_, rfl, by have := H3.out.set h16 (add32 (add32 (add32 w16 (sg0 w15)) w7) (sg1 w2)); rwa [Array.setIfInBounds_setIfInBounds] at this, Lib.hid ((K3.out.setCell (fun _ => rfl) _).drew)⟩
  go_ret
  exact ⟨rfl, by have := W4.blk; rw [← hv4] at this; exact this, by have := K4.out; rw [← hv4] at this; exact this⟩

set_option maxHeartbeats 1000000 in
theorem word_lo (b i g o cap : Nat) (x0 x1 x2 x3 : Int) (y : Value) (cs : Array Value) (w : World) (h16 : i < 16) (hcap : 64 ≤ cap) (hcap2 : cap ≤ maxLen)
   (hb : w.heap[b]? = some (.cells cs 112 (0, 0))) (hy : cs[i]? = some y)
   (c0 : w.cell? ⟨g, o + 4 * i, none⟩ = some (.int .u8 x0)) (c1 : w.cell? ⟨g, o + 4 * i + 1, none⟩ = some (.int .u8 x1)) (c2 : w.cell? ⟨g, o + 4 * i + 2, none⟩ = some (.int .u8 x2)) (c3 : w.cell? ⟨g, o + 4 * i + 3, none⟩ = some (.int .u8 x3))
   (b0 : 0 ≤ x0 ∧ x0 < 256) (b1 : 0 ≤ x1 ∧ x1 < 256) (b2 : 0 ≤ x2 ∧ x2 < 256) (b3 : 0 ≤ x3 ∧ x3 < 256) :
    Calls Try.prog 91 #[.pointer (some ⟨b, 0, none⟩), .int .i64 i, .slice (some ⟨g, o, none⟩) 64 cap] w fun e w' => e = .returned (.int .u32 (word4 x0 x1 x2 x3)) ∧ 
      w'.heap[b]? = some (.cells (cs.setIfInBounds i (.int .u32 (word4 x0 x1 x2 x3))) 112 (0, 0)) ∧ Keep (fun k => k = b) w w' := by
  unfold maxLen at hcap2
  have hd : decide ((i:Int) < 16) = true := by simp; omega
  have hsz : 4 * i + 4 - 4 * i = 4 := by omega
  have hm : i % 16 = i := by omega
  have cy : w.cell? ⟨b, i % 16, none⟩ = some y := by rw [hm]; exact blk_cell hb hy
  have fy := blk_free hb (i % 16)
  have HB := Lib.hid hb; have HM := Lib.hid hm; clear hb hm
  go_enter Try.func91, Try.ntmps91
  go_wp2_with fail
  go_still_tail 24, (by kernel_rfl)
  go_wp2_with fail
  go_ret
  refine ⟨rfl, ?_, ?_⟩
  · have := set_blk HB.out (i % 16) (.int .u32 (word4 x0 x1 x2 x3))
    rw [HM.out] at this
    rw [HM.out]
    exact this
  · exact ((Keep.refl (fun k => k = b) w).setCell (fun _ => rfl) _).drew
end Go.Proofs.Ytdlegbcdmlmbpaa

/-
  The digest's tables and first state.
  Conditions: none.
-/
namespace Go.Proofs.Ytdlegbcdmlmbpaa
open Go.RowKit
set_option maxRecDepth 100000

/-- What makes an array of numbers. -/
def MadeA (w : World) (l : List Int) (e : Ending) (w' : World) : Prop := e = .returned (.agg (l.map vW).toArray) ∧ Keep noBlk w w'

def zero64 : Value := .agg (Array.replicate 64 (.int .u32 0))
def zero16 : Value := .agg (Array.replicate 16 (.int .u32 0))
def zero8 : Value := .agg (Array.replicate 8 (.int .u32 0))
theorem zeroK (w : World) : (zeroValue 100).run Try.prog w = .ok zero64 w := by kernel_rfl
theorem zeroWin (w : World) : (zeroValue 112).run Try.prog w = .ok zero16 w := by kernel_rfl
theorem zeroS8 (w : World) : (zeroValue 71).run Try.prog w = .ok zero8 w := by kernel_rfl
theorem zeroState (w : World) : (zeroValue 88).run Try.prog w = .ok zero8 w := by kernel_rfl
theorem size64 : (Try.prog.info? 100).map (·.size) = some 64 := by kernel_rfl
theorem size8 : (Try.prog.info? 71).map (·.size) = some 8 := by kernel_rfl
theorem sizeState : (Try.prog.info? 88).map (·.size) = some 8 := by kernel_rfl
theorem oneCell_vW (l : List Int) : ∀ u ∈ l.map vW, u.oneCell' = true := by
  intro u hu
  obtain ⟨b, _, rfl⟩ := List.mem_map.1 hu
  rfl

theorem size_keys : (spl zero64.cells 0 (keyL.map vW)) = (keyL.map vW).toArray := spl_whole _ _ (by simp [zero64, Value.cells, keyL])
theorem size_start : (spl zero8.cells 0 (startL.map vW)) = (startL.map vW).toArray := spl_whole _ _ (by simp [zero8, Value.cells, startL])
theorem MadeA_end {w w1 w0 : World} {l : List Int} {cs : Array Value} (h : cs = (l.map vW).toArray) (hk : Keep noBlk w w0) (hk2 : Keep (fun k => k = w.heap.size) w0 w1) : MadeA w l (.returned (.agg cs)) w1 :=
  ⟨by rw [h], hk.trans' hk2 (fun _ _ h => h) (fun i hi h => by omega)⟩

set_option maxHeartbeats 1000000 in
theorem keys_any (w : World) : Calls Try.prog 89 #[] w (MadeA w keyL) := by
  go_enter Try.func89, Try.ntmps89
  go_wp2_with (first
    | (refine wpList_alloc_zero rfl 100 rfl zero64 zeroK ?_)
    | (refine Great.wpList_readTo rfl (some 1) rfl (.agg (keyL.map vW).toArray) (by kernel_rfl) ?_)
    | (refine wpList_store_agg rfl 100 (.tmp 0) (.tmp 1) rfl w.heap.size 0 (keyL.map vW) rfl rfl _ _ (heap_alloc_new _ _) (by simp [zero64, Value.cells, keyL]) size64 (oneCell_vW _) ?_; intro w1 hb hk; have HB := Lib.hid hb; have HK := Lib.hid hk; clear hb hk))
  refine bodyPost_ret (results_cell_row rfl _ _ w.heap.size _ _ _ _ rfl HB.out Try.underlying100 rfl (by rw [spl_size]; kernel_rfl)) rfl (MadeA_end size_keys ((Keep.refl _ _).alloc _) HK.out)

set_option maxHeartbeats 1000000 in
theorem table_any (w : World) : Calls Try.prog 80 #[] w (MadeA w keyL) := by
  go_enter Try.func80, Try.ntmps80
  go_wp2_with (first
    | (refine wpList_alloc_zero rfl 100 rfl zero64 zeroK ?_)
    | (refine Great.wpList_readTo rfl (some 1) rfl (.agg (keyL.map vW).toArray) (by kernel_rfl) ?_)
    | (refine wpList_store_agg rfl 100 (.tmp 0) (.tmp 1) rfl w.heap.size 0 (keyL.map vW) rfl rfl _ _ (heap_alloc_new _ _) (by simp [zero64, Value.cells, keyL]) size64 (oneCell_vW _) ?_; intro w1 hb hk; have HB := Lib.hid hb; have HK := Lib.hid hk; clear hb hk))
  refine bodyPost_ret (results_cell_row rfl _ _ w.heap.size _ _ _ _ rfl HB.out Try.underlying100 rfl (by rw [spl_size]; kernel_rfl)) rfl (MadeA_end size_keys ((Keep.refl _ _).alloc _) HK.out)

set_option maxHeartbeats 1000000 in
theorem start_any (w : World) : Calls Try.prog 68 #[] w (MadeA w startL) := by
  go_enter Try.func68, Try.ntmps68
  go_wp2_with (first
    | (refine wpList_alloc_zero rfl 71 rfl zero8 zeroS8 ?_)
    | (refine Great.wpList_readTo rfl (some 1) rfl (.agg (startL.map vW).toArray) (by kernel_rfl) ?_)
    | (refine wpList_store_agg rfl 71 (.tmp 0) (.tmp 1) rfl w.heap.size 0 (startL.map vW) rfl rfl _ _ (heap_alloc_new _ _) (by simp [zero8, Value.cells, startL]) size8 (oneCell_vW _) ?_; intro w1 hb hk; have HB := Lib.hid hb; have HK := Lib.hid hk; clear hb hk))
  refine bodyPost_ret (results_cell_row rfl _ _ w.heap.size _ _ _ _ rfl HB.out Try.underlying71 rfl (by rw [spl_size]; kernel_rfl)) rfl (MadeA_end size_start ((Keep.refl _ _).alloc _) HK.out)

set_option maxHeartbeats 1000000 in
theorem rstart_any (w : World) : Calls Try.prog 56 #[] w (MadeA w startL) := by
  go_enter Try.func56, Try.ntmps56
  go_wp2_with (first
    | (refine wpList_alloc_zero rfl 71 rfl zero8 zeroS8 ?_)
    | (refine Great.wpList_readTo rfl (some 1) rfl (.agg (startL.map vW).toArray) (by kernel_rfl) ?_)
    | (refine wpList_store_agg rfl 71 (.tmp 0) (.tmp 1) rfl w.heap.size 0 (startL.map vW) rfl rfl _ _ (heap_alloc_new _ _) (by simp [zero8, Value.cells, startL]) size8 (oneCell_vW _) ?_; intro w1 hb hk; have HB := Lib.hid hb; have HK := Lib.hid hk; clear hb hk))
  refine bodyPost_ret (results_cell_row rfl _ _ w.heap.size _ _ _ _ rfl HB.out Try.underlying71 rfl (by rw [spl_size]; kernel_rfl)) rfl (MadeA_end size_start ((Keep.refl _ _).alloc _) HK.out)

/-- The j-th byte of a piece. -/
def byt (bs : List UInt8) (j : Nat) : Int := ((bs.getD j 0).toNat : Int)
theorem byt_bd (bs : List UInt8) (j : Nat) : 0 ≤ byt bs j ∧ byt bs j < 256 := by
  unfold byt
  have := (bs.getD j 0).toNat_lt
  omega

/-- A word is told: the window takes it up. -/
def WordPost (w : World) (b i : Nat) (q : Nat → Int) (e : Ending) (w' : World) : Prop :=
  e = .returned (.int .u32 (wrd q i)) ∧ w'.heap[b]? = some (.cells (win q (i + 1)) 112 (0, 0)) ∧ Keep (fun k => k = b) w w'

theorem word_any (b i : Nat) (p : Value) (bs : List UInt8) (w : World) (h64 : i < 64) (hl : bs.length = 64) (hp : Rd w 1 p 64 (bs.map vb)) (hb : w.heap[b]? = some (.cells (win (byt bs) i) 112 (0, 0))) :
    Calls Try.prog 91 #[.pointer (some ⟨b, 0, none⟩), .int .i64 i, p] w (WordPost w b i (byt bs)) := by
  by_cases h16 : i < 16
  · obtain ⟨h0, a, cap, rfl, h1, h2, h3, h4⟩ := hp
    obtain ⟨g, o, rfl, hc⟩ := h4 (by simp [hl])
    have cell : ∀ j, j < 64 → w.cell? ⟨g, o + j, none⟩ = some (.int .u8 (byt bs j)) := fun j hj => hc j _ (by
      have : j < bs.length := by omega
      simp [vb, byt, this])
    have hy : (win (byt bs) i)[i]? = some ((win (byt bs) i)[i]'(by rw [win_size]; omega)) := by simp [win_size, h16]
    refine (word_lo b i g o cap (byt bs (4 * i)) (byt bs (4 * i + 1)) (byt bs (4 * i + 2)) (byt bs (4 * i + 3)) _ _ w h16 h1 h2 hb hy (cell _ (by omega)) (cell (4 * i + 1) (by omega)) (cell (4 * i + 2) (by omega)) (cell (4 * i + 3) (by omega)) (byt_bd _ _) (byt_bd _ _) (byt_bd _ _) (byt_bd _ _)).mono ?_
    rintro e w' ⟨rfl, h5, h6⟩
    have hw : wrd (byt bs) i = word4 (byt bs (4 * i)) (byt bs (4 * i + 1)) (byt bs (4 * i + 2)) (byt bs (4 * i + 3)) := by rw [wrd, dif_pos h16]
    refine ⟨by rw [hw], ?_, h6⟩
    rw [win, hw, show i % 16 = i by omega]
    exact h5
  · have g16 := win_get (byt bs) i (i - 16) (by omega) (by omega)
    have g15 := win_get (byt bs) i (i - 15) (by omega) (by omega)
    have g7 := win_get (byt bs) i (i - 7) (by omega) (by omega)
    have g2 := win_get (byt bs) i (i - 2) (by omega) (by omega)
    rw [show (i - 16) % 16 = i % 16 by omega] at g16
    refine (word_hi b i (wrd (byt bs) (i - 15)) (wrd (byt bs) (i - 2)) (wrd (byt bs) (i - 7)) (wrd (byt bs) (i - 16)) p _ w (by omega) h64 ⟨hb, g16, g7⟩ g15 g2).mono ?_
    rintro e w' ⟨rfl, h5, h6⟩
    have hw : wrd (byt bs) i = add32 (add32 (add32 (wrd (byt bs) (i - 16)) (sg0 (wrd (byt bs) (i - 15)))) (wrd (byt bs) (i - 7))) (sg1 (wrd (byt bs) (i - 2))) := by rw [wrd, dif_neg h16]
    refine ⟨by rw [hw], ?_, h6⟩
    rw [win, hw]
    exact h5
end Go.Proofs.Ytdlegbcdmlmbpaa
