/-
  The writer of package field, its bytes: Raw, Pad, New, Out; and bytes.Clone.
  Conditions: the bounds on sizes that each theorem names.
-/
import Derived.Test.YtdlegbcdmlmbpaaField2
namespace Go.Proofs.Ytdlegbcdmlmbpaa
open Go.RowKit
set_option maxRecDepth 100000

set_option maxHeartbeats 400000 in
theorem new_any (w : World) : Calls Try.prog 28 #[] w fun e w' => ∃ p, e = .returned (.pointer (some ⟨p, 0, none⟩)) ∧ Wr w' w.heap.size p (.slice none 0 0) [] 0 ∧ Keep noBlk w w' ∧ w.heap.size ≤ p := by
  go_enter Try.func28, Try.ntmps28
  go_wp2_with fail
  go_ret
  refine ⟨_, rfl, ⟨?_, World.ownsRow_nil _ _ _ _, by simp [Value.ownBlock], Nat.le_refl _⟩, (Keep.refl _ _).alloc _, Nat.le_refl _⟩
  exact heap_alloc_new w _

set_option maxHeartbeats 400000 in
theorem raw1_any (A : Nat) (bv : Value) (bs : List UInt8) (w : World) (hA : w.heap[A]? = some (.cells #[bv] 26 (0, 0))) (hr : Rd w 1 bv bs.length (bs.map vb)) :
    Calls Try.prog 64 #[.pointer (some ⟨A, 0, none⟩)] w (CPost w bs 0) := by
  have hA' := cell_of_one hA
  obtain ⟨a, c, rfl, -, -⟩ := hr.form
  have HR := Lib.hid hr; clear hr hA
  go_enter Try.func64, Try.ntmps64
  go_wp2_with fail
  go_ret2
  exact ⟨_, rfl, Keep.refl _ _, HR.out⟩

set_option maxHeartbeats 400000 in
theorem raw_any (p : Nat) (bv : Value) (bs : List UInt8) (w : World) (base : Nat) (v : Value) (l : List UInt8) (e : Int) (h : Wr w base p v l e) (hl : l.length ≤ 65536) (hr : Rd w 1 bv bs.length (bs.map vb)) (hb : bs.length ≤ 140737488351232) :
    Calls Try.prog 30 #[.pointer (some ⟨p, 0, none⟩), bv] w (WPost w base p v (wst (l, e) (bs, 0))) := by
  have K : Keep noBlk w (w.alloc (.cells #[bv] 26)) := (Keep.refl _ _).alloc _
  have H2 := h.keep K id (fun _ _ h => h)
  have c := raw1_any w.heap.size bv bs (w.alloc (.cells #[bv] 26)) (heap_alloc_new _ _) (hr.keep K fun _ _ => id)
  have W := write_any p _ 64 _ base v l e H2 hl (fun _ => rfl) bs 0 hb c
  obtain ⟨a, cp, rfl, -, -⟩ := hr.form
  have HW := Lib.hid W; have HK := Lib.hid K
  clear h H2 c W K hr
  go_enter Try.func30, Try.ntmps30
  go_wp2_with fail
  refine HW.out.mono ?_
  rintro e w1 h
  obtain ⟨rfl, h2⟩ := end_write HK.out h
  go_wp2_with fail
  go_end0
  exact h2.out

set_option maxHeartbeats 1000000 in
theorem pad1_no (A B p : Nat) (to : Int) (w : World) (base : Nat) (v : Value) (l : List UInt8) (e : Int) (h : Wr w base p v l e) (hto : 65536 < to ∨ to < l.length)
    (hA : w.heap[A]? = some (.cells #[.pointer (some ⟨p, 0, none⟩)] 51 (0, 0))) (hB : w.heap[B]? = some (.cells #[.int .i64 to] 3 (0, 0))) :
    Calls Try.prog 66 #[.pointer (some ⟨B, 0, none⟩), .pointer (some ⟨A, 0, none⟩)] w (CPost w [] 2) := by
  obtain ⟨hp0, hp1, hp2, hf⟩ := h.cells
  obtain ⟨a, cp, rfl, -, -⟩ := (Rd.of_owns h.own).form
  have hA' := cell_of_one hA
  have hB' := cell_of_one hB
  clear h hA hB
  by_cases h1 : 65536 < to
  · clear hto
    go_enter Try.func66, Try.ntmps66
    go_wp2_with fail
    go_quiet (fail)
    go_wp2_with fail
    go_ret2
    exact ⟨_, rfl, (Keep.refl _ _).drewN _, Rd.nil _ _⟩
  · have h2 : to < l.length := by omega
    have h1' : decide (65536 < to) = false := by simpa using h1
    clear hto
    go_enter Try.func66, Try.ntmps66
    go_wp2_with fail
    go_quiet (fail)
    go_wp2_with fail
    go_ret2
    exact ⟨_, rfl, (Keep.refl _ _).drewN _, Rd.nil _ _⟩

set_option maxHeartbeats 1000000 in
theorem pad1_ok (A B p : Nat) (to : Nat) (w : World) (base : Nat) (v : Value) (l : List UInt8) (e : Int) (h : Wr w base p v l e) (hl : l.length ≤ to) (hto : to ≤ 65536)
    (hA : w.heap[A]? = some (.cells #[.pointer (some ⟨p, 0, none⟩)] 51 (0, 0))) (hB : w.heap[B]? = some (.cells #[.int .i64 to] 3 (0, 0))) :
    Calls Try.prog 66 #[.pointer (some ⟨B, 0, none⟩), .pointer (some ⟨A, 0, none⟩)] w (CPost w (List.replicate (to - l.length) 0) 0) := by
  obtain ⟨hp0, hp1, hp2, hf⟩ := h.cells
  obtain ⟨a, cp, rfl, -, -⟩ := (Rd.of_owns h.own).form
  have hA' := cell_of_one hA
  have hB' := cell_of_one hB
  have h1' : decide (65536 < (to : Int)) = false := by simp; omega
  have hw : IntKind.i64.wrap ((to : Int) - l.length) = ((to - l.length : Nat) : Int) := by rw [IntWalk.i64_in _ (by omega)]; omega
  clear h hA hB
  go_enter Try.func66, Try.ntmps66
  go_wp2_with fail
  go_quiet (fail)
  go_wp2_with fail
  obtain ⟨w2, hw2, c1, cA, cB⟩ : ∃ w2, w.drewN nq = w2 ∧ w2.cell? ⟨p, 1, none⟩ = some (.slice a l.length cp) ∧ w2.cell? ⟨A, 0, none⟩ = some (.pointer (some ⟨p, 0, none⟩)) ∧ w2.cell? ⟨B, 0, none⟩ = some (.int .i64 to) := ⟨_, rfl, hp1, hA', hB'⟩
  rw [hw2]
  have HW2 := Lib.hid hw2; clear hw2 hp0 hp1 hp2 hA' hB'
  go_still_tail 7, (by kernel_rfl)
  refine wpList_make_one rfl (.tmp 21) (.tmp 21) 26 rfl w.heap.size 5 _ 1 Try.underlying26 infoU8 rfl (to - l.length) (by rfl) (by rfl) (by omega) (by unfold maxLen; omega) (by rw [← HW2.out]; exact Nat.le_refl _) ?_
  intro w3 hown hk
  have HK : Hid (Keep noBlk w w3) := by
    refine Lib.hid ?_
    have : Keep noBlk w w2 := by rw [← HW2.out]; exact (Keep.refl _ _).drewN _
    exact this.trans' (show Keep noBlk w2 w3 from ⟨hk.os, hk.tape, hk.output, hk.size, hk.block⟩) (fun _ _ h => h) (fun _ _ h => h)
  have HO := Lib.hid hown
  clear hown hk hw
  go_wp2_with fail
  go_ret2
  refine ⟨_, rfl, HK.out, ?_⟩
  have := Rd.of_owns HO.out
  simpa [vb] using this

theorem pad1_any (A B p : Nat) (to : Int) (w : World) (base : Nat) (v : Value) (l : List UInt8) (e : Int) (h : Wr w base p v l e)
    (hA : w.heap[A]? = some (.cells #[.pointer (some ⟨p, 0, none⟩)] 51 (0, 0))) (hB : w.heap[B]? = some (.cells #[.int .i64 to] 3 (0, 0))) :
    Calls Try.prog 66 #[.pointer (some ⟨B, 0, none⟩), .pointer (some ⟨A, 0, none⟩)] w (CPost w (padRes to l).1 (padRes to l).2) := by
  unfold padRes
  by_cases hto : 65536 < to ∨ to < l.length
  · rw [if_pos hto]; exact pad1_no A B p to w base v l e h hto hA hB
  · rw [if_neg hto]
    obtain ⟨n, rfl⟩ := Int.eq_ofNat_of_zero_le (show 0 ≤ to by omega)
    exact pad1_ok A B p n w base v l e h (by omega) (by omega) hA hB

set_option maxHeartbeats 400000 in
theorem pad_any (p : Nat) (to : Int) (w : World) (base : Nat) (v : Value) (l : List UInt8) (e : Int) (h : Wr w base p v l e) (hl : l.length ≤ 65536) :
    Calls Try.prog 39 #[.pointer (some ⟨p, 0, none⟩), .int .i64 to] w (WPost w base p v (wst (l, e) (padRes to l))) := by
  have K : Keep noBlk w ((w.alloc (.cells #[.pointer (some ⟨p, 0, none⟩)] 51)).alloc (.cells #[.int .i64 to] 3)) := ((Keep.refl _ _).alloc _).alloc _
  have H2 := h.keep K id (fun _ _ h => h)
  have c := pad1_any w.heap.size (w.heap.size + 1) p to ((w.alloc (.cells #[.pointer (some ⟨p, 0, none⟩)] 51)).alloc (.cells #[.int .i64 to] 3)) base v l e H2 (heap_alloc2_old _ _ _) (heap_alloc2_new _ _ _)
  have W := write_any p _ 66 _ base v l e H2 hl (fun _ => rfl) _ _ (by have := padRes_len to l; omega) c
  have HW := Lib.hid W; have HK := Lib.hid K
  clear h H2 c W K
  go_enter Try.func39, Try.ntmps39
  go_wp2_with fail
  refine HW.out.mono ?_
  rintro e w1 h
  obtain ⟨rfl, h2⟩ := end_write HK.out h
  go_wp2_with fail
  go_end0
  exact h2.out

/-- The post of what makes a slice of bytes of its own. -/
def MadeB (w : World) (bs : List UInt8) (e : Ending) (w' : World) : Prop :=
  ∃ v', e = .returned v' ∧ w'.ownsRow w.heap.size 5 1 v' bs.length (bs.map vb) ∧ Keep noBlk w w'

set_option maxHeartbeats 400000 in
theorem clone_any (bv : Value) (bs : List UInt8) (w : World) (hr : Rd w 1 bv bs.length (bs.map vb)) (hb : bs.length ≤ 140737488351232) :
    Calls Try.prog 67 #[bv] w (MadeB w bs) := by
  obtain ⟨hl, a, cap, rfl, h1, h2, h3, h4⟩ := hr
  cases a with
  | none =>
    have hc := h3 rfl
    subst hc
    have hb0 : bs = [] := List.eq_nil_of_length_eq_zero (by omega)
    subst hb0
    clear h1 h2 h3 h4 hl
    have hq := fun (w : World) (a : Option Addr) (n c : Nat) => Lib.run_eql_slice_nil (P := Try.prog) w 26 5 a n c 0 0 Try.underlying26
    go_enter Try.func67, Try.ntmps67
    go_wp2_with fail
    go_ret
    exact ⟨_, rfl, World.ownsRow_nil _ _ _ _, Keep.refl _ _⟩
  | some ad =>
    have K : Keep noBlk w (w.alloc (.cells #[] 5)) := (Keep.refl _ _).alloc _
    have HR := Lib.hid ((show Rd w 1 (.slice (some ad) bs.length cap) bs.length (bs.map vb) from ⟨hl, _, _, rfl, h1, h2, h3, h4⟩).keep K fun _ _ => id)
    have HK := Lib.hid K
    have hx1 : 0 + bs.length ≤ maxLen := by unfold maxLen; omega
    have HX := Lib.hid hx1
    clear h1 h2 h3 h4 hl K hx1
    have hq := fun (w : World) (a : Option Addr) (n c : Nat) => Lib.run_eql_slice_nil (P := Try.prog) w 26 5 a n c 0 0 Try.underlying26
    go_enter Try.func67, Try.ntmps67
    go_wp2_with (at_builtin; refine wpList_append_rd rfl (.tmp 5) (.tmp 6) 26 rfl w.heap.size 5 _ 1 1 Try.underlying26 infoU8 rfl (by omega) _ 0 [] rfl (World.ownsRow_made w #[] 0 (Nat.le_refl _) (by unfold maxLen; omega) (by simp)) _ bs.length (bs.map vb) rfl HR.out (oneCell_vb _) HX.out (by omega) (by simp) ?_; intro v' w2 hown2 hk2 hnil hat; obtain ⟨a3, c3, rfl, -, -⟩ := (Rd.of_owns hown2).form; have HO := Lib.hid hown2; have HK2 := Lib.hid hk2; clear hown2 hk2 hnil hat)
    go_ret
    refine ⟨_, rfl, by simpa using HO.out, HK.out.trans' HK2.out (fun _ _ h => h) (fun i hi h => ?_)⟩
    have h' : w.heap.size = i := Option.some.inj h
    omega

/-- What Out tells: a copy, or the error. -/
def OutPost (w : World) (l : List UInt8) (er : Int) (e : Ending) (w' : World) : Prop :=
  ∃ v', e = .returned (.tuple #[v', .int .i64 er]) ∧ w'.ownsRow w.heap.size 5 1 v' (if er = 0 then l else []).length ((if er = 0 then l else []).map vb) ∧ Keep noBlk w w'

set_option maxHeartbeats 400000 in
theorem out_any (p : Nat) (w : World) (base : Nat) (v : Value) (l : List UInt8) (e : Int) (h : Wr w base p v l e) (hl : l.length ≤ 65536) :
    Calls Try.prog 40 #[.pointer (some ⟨p, 0, none⟩)] w (OutPost w l e) := by
  obtain ⟨hp0, hp1, hp2, hf⟩ := h.cells
  by_cases he : e = 0
  · subst he
    have c := clone_any v l w (Rd.of_owns h.own) (by omega)
    have C := Lib.hid c; clear c
    obtain ⟨a, cp, rfl, -, -⟩ := (Rd.of_owns h.own).form
    clear h
    go_enter Try.func40, Try.ntmps40
    go_wp2_with fail
    refine C.out.mono ?_
    rintro e w1 ⟨v', rfl, hown, hk⟩
    have HO := Lib.hid hown; have HK := Lib.hid hk
    obtain ⟨a3, c3, rfl, -, -⟩ := (Rd.of_owns hown).form
    clear hown hk
    go_wp2_with fail
    go_ret2
    exact ⟨_, rfl, HO.out, HK.out⟩
  · have he1 : (e != 0) = true := by simp [he]
    have HE := Lib.hid he; clear he h
    go_enter Try.func40, Try.ntmps40
    go_wp2_with fail
    go_quiet (fail)
    go_wp2_with fail
    go_ret2
    refine ⟨_, rfl, ?_, (Keep.refl _ _).drewN _⟩
    rw [if_neg HE.out]
    exact World.ownsRow_nil _ _ _ _
end Go.Proofs.Ytdlegbcdmlmbpaa
