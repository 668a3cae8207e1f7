/-
  The program's label.Pack: what its closures write.
  Conditions: the bounds on sizes that each theorem names.
-/
import Derived.Test.YtdlegbcdmlmbpaaLabel1
import Derived.Test.YtdlegbcdmlmbpaaField3
import Derived.Test.YtdlegbcdmlmbpaaSum
import Derived.Lib.SlBytesConst
namespace Go.Proofs.Ytdlegbcdmlmbpaa
open Go.RowKit
set_option maxRecDepth 100000

/-- The label and the writer's variable, as the closures find them. -/
structure PkW (w : World) (L : Lab) (b1 b5 base p : Nat) (v : Value) (l : List UInt8) (e : Int) : Prop where
  pool : L.pool.length = 32
  lab : w.heap[b1]? = some (.cells L.cells.toArray 25 (0, 0))
  q : w.heap[b5]? = some (.cells #[.pointer (some ⟨p, 0, none⟩)] 51 (0, 0))
  wr : Wr w base p v l e
  len : l.length ≤ 65536

theorem PkW.cells {w : World} {L : Lab} {b1 b5 base p : Nat} {v : Value} {l : List UInt8} {e : Int} (h : PkW w L b1 b5 base p v l e) :
    w.cell? ⟨b5, 0, none⟩ = some (.pointer (some ⟨p, 0, none⟩)) ∧ w.cell? ⟨b1, 32, none⟩ = some (.int .i64 L.dev) ∧ w.cell? ⟨b1, 33, none⟩ = some (.int .i64 L.devs) ∧ w.cell? ⟨b1, 34, none⟩ = some (.int .i64 L.copies) ∧
    w.cell? ⟨b1, 35, none⟩ = some (.int .i64 L.sectors) ∧ w.cell? ⟨b1, 36, none⟩ = some (.int .i64 L.life) := by
  obtain ⟨c0, c1, c2, c3, c4⟩ := L.at h.pool
  exact ⟨blk_cell h.q rfl, blk_cell h.lab c0, blk_cell h.lab c1, blk_cell h.lab c2, blk_cell h.lab c3, blk_cell h.lab c4⟩
theorem PkW.same {w w' : World} {L : Lab} {b1 b5 base p : Nat} {v : Value} {l : List UInt8} {e : Int} (h : PkW w L b1 b5 base p v l e) (k : Keep noBlk w w') : PkW w' L b1 b5 base p v l e :=
  ⟨h.pool, k.blk h.lab id, k.blk h.q id, h.wr.keep k id (fun _ _ => id), h.len⟩
theorem PkW.rd {w : World} {L : Lab} {b1 b5 base p : Nat} {v : Value} {l : List UInt8} {e : Int} (h : PkW w L b1 b5 base p v l e) : Rd w 1 (.slice (some ⟨b1, 0, none⟩) 32 32) L.pool.length (L.pool.map vb) := by
  refine ⟨by simp, _, 32, by rw [h.pool], by rw [h.pool]; omega, by unfold maxLen; omega, (by intro h; cases h), fun _ => ⟨b1, 0, rfl, fun i u hu => ?_⟩⟩
  have hi : i < 32 := by
    rw [← h.pool]
    have := (List.getElem?_eq_some_iff.1 hu).1
    simpa using this
  rw [Nat.zero_add]
  exact blk_cell h.lab (by rw [List.getElem?_toArray, L.cells_pool h.pool i hi]; exact hu)

theorem WPost.end {w : World} {base p : Nat} {v : Value} {r : List UInt8 × Int} {e : Ending} {w' : World} (h : WPost w base p v r e w') : e = .returned (.tuple #[]) ∧ Hid (WPost w base p v r (.returned (.tuple #[])) w') :=
  ⟨h.1, Lib.hid ⟨rfl, h.2⟩⟩

theorem rd_lit (w : World) (l : List UInt8) (t : TypeId) (fr : Nat × Nat) (h : l.length ≤ maxLen) : Rd (w.alloc (.cells (l.map vb).toArray t fr)) 1 (.slice (some ⟨w.heap.size, 0, none⟩) l.length l.length) l.length (l.map vb) := by
  refine ⟨by simp, _, _, rfl, Nat.le_refl _, h, (by intro h; cases h), fun _ => ⟨_, 0, rfl, fun i u hu => ?_⟩⟩
  rw [Nat.zero_add]
  exact blk_cell (heap_alloc_new _ _) (by rw [List.getElem?_toArray]; exact hu)

set_option maxHeartbeats 400000 in
theorem pk1 (w : World) (L : Lab) (b1 b5 base p : Nat) (v : Value) (l : List UInt8) (e : Int) (h : PkW w L b1 b5 base p v l e) :
    Calls Try.prog 29 #[.pointer (some ⟨b5, 0, none⟩)] w (WPost w base p v (wst (l, e) (labHead, 0))) := by
  obtain ⟨cq, c0, c1, c2, c3, c4⟩ := h.cells
  have kc := fun (w : World) (C : Array Value) (n c : Nat) => Lib.run_convert_bytes_const (P := Try.prog) w 26 5 C n c Try.underlying26 Try.underlying5
  have H := Lib.hid h
  clear h
  go_enter Try.func29, Try.ntmps29
  go_wp2_with fail
  have K : Keep noBlk w (w.alloc (.cells (labHead.map vb).toArray 5 (8, 9))) := (Keep.refl _ _).alloc _
  refine (raw_any p _ labHead (w.alloc (.cells (labHead.map vb).toArray 5 (8, 9))) base v l e (H.out.same K).wr H.out.len (rd_lit w labHead 5 (8, 9) (by decide)) (by decide)).mono ?_
  rintro e w1 h1
  obtain ⟨rfl, h2⟩ := h1.end
  go_wp2_with fail
  go_end0
  exact WPost.of K h2.out

set_option maxHeartbeats 400000 in
theorem pk2 (w : World) (L : Lab) (b1 b5 base p : Nat) (v : Value) (l : List UInt8) (e : Int) (h : PkW w L b1 b5 base p v l e) :
    Calls Try.prog 31 #[.pointer (some ⟨b5, 0, none⟩), .pointer (some ⟨b1, 0, none⟩)] w (WPost w base p v (wst (l, e) (L.pool, 0))) := by
  obtain ⟨cq, c0, c1, c2, c3, c4⟩ := h.cells
  have H := Lib.hid h
  clear h
  go_enter Try.func31, Try.ntmps31
  go_wp2_with fail
  go_still_tail 3, (by kernel_rfl)
  go_wp2_with fail
  refine (raw_any p _ L.pool w.drew base v l e (H.out.same (Keep.refl noBlk w).drew).wr H.out.len (H.out.same (Keep.refl noBlk w).drew).rd (by rw [H.out.pool]; omega)).mono ?_
  rintro e w1 h1
  obtain ⟨rfl, h2⟩ := h1.end
  go_wp2_with fail
  go_end0
  exact WPost.of (Keep.refl noBlk w).drew h2.out

set_option maxHeartbeats 400000 in
theorem pk3 (w : World) (L : Lab) (b1 b5 base p : Nat) (v : Value) (l : List UInt8) (e : Int) (h : PkW w L b1 b5 base p v l e) :
    Calls Try.prog 32 #[.pointer (some ⟨b5, 0, none⟩), .pointer (some ⟨b1, 0, none⟩)] w (WPost w base p v (wst (l, e) (numRes L.dev 1))) := by
  obtain ⟨cq, c0, c1, c2, c3, c4⟩ := h.cells
  have C := Lib.hid (num_any p L.dev 1 w base v l e h.wr h.len)
  clear h
  go_enter Try.func32, Try.ntmps32
  go_wp2_with fail
  refine C.out.mono ?_
  rintro e w1 h1
  obtain ⟨rfl, h2⟩ := h1.end
  go_wp2_with fail
  go_end0
  exact h2.out

set_option maxHeartbeats 400000 in
theorem pk4 (w : World) (L : Lab) (b1 b5 base p : Nat) (v : Value) (l : List UInt8) (e : Int) (h : PkW w L b1 b5 base p v l e) :
    Calls Try.prog 34 #[.pointer (some ⟨b5, 0, none⟩), .pointer (some ⟨b1, 0, none⟩)] w (WPost w base p v (wst (l, e) (numRes L.devs 1))) := by
  obtain ⟨cq, c0, c1, c2, c3, c4⟩ := h.cells
  have C := Lib.hid (num_any p L.devs 1 w base v l e h.wr h.len)
  clear h
  go_enter Try.func34, Try.ntmps34
  go_wp2_with fail
  refine C.out.mono ?_
  rintro e w1 h1
  obtain ⟨rfl, h2⟩ := h1.end
  go_wp2_with fail
  go_end0
  exact h2.out

set_option maxHeartbeats 400000 in
theorem pk5 (w : World) (L : Lab) (b1 b5 base p : Nat) (v : Value) (l : List UInt8) (e : Int) (h : PkW w L b1 b5 base p v l e) :
    Calls Try.prog 35 #[.pointer (some ⟨b5, 0, none⟩), .pointer (some ⟨b1, 0, none⟩)] w (WPost w base p v (wst (l, e) (numRes L.copies 1))) := by
  obtain ⟨cq, c0, c1, c2, c3, c4⟩ := h.cells
  have C := Lib.hid (num_any p L.copies 1 w base v l e h.wr h.len)
  clear h
  go_enter Try.func35, Try.ntmps35
  go_wp2_with fail
  refine C.out.mono ?_
  rintro e w1 h1
  obtain ⟨rfl, h2⟩ := h1.end
  go_wp2_with fail
  go_end0
  exact h2.out

set_option maxHeartbeats 400000 in
theorem pk6 (w : World) (L : Lab) (b1 b5 base p : Nat) (v : Value) (l : List UInt8) (e : Int) (h : PkW w L b1 b5 base p v l e) :
    Calls Try.prog 36 #[.pointer (some ⟨b5, 0, none⟩), .pointer (some ⟨b1, 0, none⟩)] w (WPost w base p v (wst (l, e) (numRes L.sectors 2))) := by
  obtain ⟨cq, c0, c1, c2, c3, c4⟩ := h.cells
  have C := Lib.hid (num_any p L.sectors 2 w base v l e h.wr h.len)
  clear h
  go_enter Try.func36, Try.ntmps36
  go_wp2_with fail
  refine C.out.mono ?_
  rintro e w1 h1
  obtain ⟨rfl, h2⟩ := h1.end
  go_wp2_with fail
  go_end0
  exact h2.out

set_option maxHeartbeats 400000 in
theorem pk7 (w : World) (L : Lab) (b1 b5 base p : Nat) (v : Value) (l : List UInt8) (e : Int) (h : PkW w L b1 b5 base p v l e) :
    Calls Try.prog 37 #[.pointer (some ⟨b5, 0, none⟩), .pointer (some ⟨b1, 0, none⟩)] w (WPost w base p v (wst (l, e) (numRes L.life 5))) := by
  obtain ⟨cq, c0, c1, c2, c3, c4⟩ := h.cells
  have C := Lib.hid (num_any p L.life 5 w base v l e h.wr h.len)
  clear h
  go_enter Try.func37, Try.ntmps37
  go_wp2_with fail
  refine C.out.mono ?_
  rintro e w1 h1
  obtain ⟨rfl, h2⟩ := h1.end
  go_wp2_with fail
  go_end0
  exact h2.out

set_option maxHeartbeats 400000 in
theorem pk8 (w : World) (L : Lab) (b1 b5 base p : Nat) (v : Value) (l : List UInt8) (e : Int) (h : PkW w L b1 b5 base p v l e) :
    Calls Try.prog 38 #[.pointer (some ⟨b5, 0, none⟩)] w (WPost w base p v (wst (l, e) (padRes 224 l))) := by
  obtain ⟨cq, c0, c1, c2, c3, c4⟩ := h.cells
  have C := Lib.hid (pad_any p 224 w base v l e h.wr h.len)
  clear h
  go_enter Try.func38, Try.ntmps38
  go_wp2_with fail
  refine C.out.mono ?_
  rintro e w1 h1
  obtain ⟨rfl, h2⟩ := h1.end
  go_wp2_with fail
  go_end0
  exact h2.out

/-- The closures, in order: which function each is, and what it holds. -/
def pkFn : Nat → Nat
  | 0 => 29
  | 1 => 31
  | 2 => 32
  | 3 => 34
  | 4 => 35
  | 5 => 36
  | 6 => 37
  | _ => 38
def pkCap (b1 b5 : Nat) : Nat → Array Value
  | 0 => #[.pointer (some ⟨b5, 0, none⟩)]
  | 7 => #[.pointer (some ⟨b5, 0, none⟩)]
  | _ => #[.pointer (some ⟨b5, 0, none⟩), .pointer (some ⟨b1, 0, none⟩)]
theorem pkCall (b1 b5 k : Nat) (hk : k < 8) : ∀ w, Sem.run Try.prog (callFunc (pkFn k) (pkCap b1 b5 k)) w = .ok (.enter (pkFn k) (pkCap b1 b5 k)) w := by
  intro w
  have h : k = 0 ∨ k = 1 ∨ k = 2 ∨ k = 3 ∨ k = 4 ∨ k = 5 ∨ k = 6 ∨ k = 7 := by omega
  rcases h with rfl | rfl | rfl | rfl | rfl | rfl | rfl | rfl <;> rfl
theorem pk_any (k : Nat) (hk : k < 8) (w : World) (L : Lab) (b1 b5 base p : Nat) (v : Value) (h : PkW w L b1 b5 base p v (labS L k).1 (labS L k).2) :
    Calls Try.prog (pkFn k) (pkCap b1 b5 k) w (WPost w base p v (labS L (k + 1))) := by
  have h8 : k = 0 ∨ k = 1 ∨ k = 2 ∨ k = 3 ∨ k = 4 ∨ k = 5 ∨ k = 6 ∨ k = 7 := by omega
  rcases h8 with rfl | rfl | rfl | rfl | rfl | rfl | rfl | rfl
  · exact pk1 w L b1 b5 base p v _ _ h
  · exact pk2 w L b1 b5 base p v _ _ h
  · exact pk3 w L b1 b5 base p v _ _ h
  · exact pk4 w L b1 b5 base p v _ _ h
  · exact pk5 w L b1 b5 base p v _ _ h
  · exact pk6 w L b1 b5 base p v _ _ h
  · exact pk7 w L b1 b5 base p v _ _ h
  · exact pk8 w L b1 b5 base p v _ _ h
end Go.Proofs.Ytdlegbcdmlmbpaa
