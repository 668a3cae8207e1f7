/-
  Slices of bytes of one's own, their spare room too: bytes.Clone, Writer.Out.
  Conditions: the bounds on sizes that each theorem names.
-/
import Derived.Test.YtdlegbcdmlmbpaaFit
import Derived.Test.YtdlegbcdmlmbpaaField3
namespace Go.Proofs.Ytdlegbcdmlmbpaa
open Go.RowKit
set_option maxRecDepth 100000

/-- A cell that is a byte. -/
def IsB (u : Value) : Prop := ∃ b : UInt8, u = vb b
theorem isB_map (l : List UInt8) : ∀ u ∈ l.map vb, IsB u := by
  intro u hu
  obtain ⟨b, -, rfl⟩ := List.mem_map.1 hu
  exact ⟨b, rfl⟩
theorem isB_zero : ∀ u ∈ (Value.int IntKind.u8 0).cells.toList, IsB u := by
  intro u hu
  have : u = .int .u8 0 := by simpa [Value.cells] using hu
  exact ⟨0, this⟩
/-- All cells of the block are bytes. -/
theorem Fit.bytes {w : World} {v : Value} (h : Fit IsB w v) {base n : Nat} {l : List Value} (ho : w.ownsRow base 5 1 v n l) : ∃ k : List UInt8, ∀ g c, v = .slice (some ⟨g, 0, none⟩) n c → w.heap[g]? = some (.cells (k.map vb).toArray 5 (0, 0)) ∧ k.length = c ∧ (k.take n).map vb = l := by
  rcases ho.2 with ⟨h1, -⟩ | ⟨g, cap, cur, rfl, hb, hg, h1, h2, h3, h4⟩
  · exact ⟨[], fun g c e => by rw [h1] at e; cases e⟩
  · have hc := h g cur _ _ rfl hg
    have : ∀ l : List Value, (∀ c ∈ l, IsB c) → ∃ k : List UInt8, l = k.map vb := by
      intro l
      induction l with
      | nil => intro _; exact ⟨[], rfl⟩
      | cons c l ih =>
        intro hl
        obtain ⟨b, rfl⟩ := hl _ (List.mem_cons_self ..)
        obtain ⟨k, rfl⟩ := ih fun c hc => hl c (List.mem_cons_of_mem _ hc)
        exact ⟨b :: k, rfl⟩
    obtain ⟨k, hk⟩ := this cur.toList hc
    refine ⟨k, fun g' c e => ?_⟩
    cases e
    refine ⟨?_, ?_, ?_⟩
    · rw [hg, ← hk]
    · have := congrArg List.length hk
      simp at this
      omega
    · rw [List.map_take, ← hk, ← h4, Nat.mul_one]

def MadeBF (w : World) (bs : List UInt8) (e : Ending) (w' : World) : Prop :=
  ∃ v', e = .returned v' ∧ w'.ownsRow w.heap.size 5 1 v' bs.length (bs.map vb) ∧ Keep noBlk w w' ∧ Fit IsB w' v'
set_option maxHeartbeats 400000 in
theorem clone_fit (bv : Value) (bs : List UInt8) (w : World) (hr : Rd w 1 bv bs.length (bs.map vb)) (hb : bs.length ≤ 140737488351232) :
    Calls Try.prog 67 #[bv] w (MadeBF w bs) := by
  obtain ⟨hl, a, cap, rfl, h1, h2, h3, h4⟩ := hr
  cases a with
  | none =>
    have hc := h3 rfl
    subst hc
    have hb0 : bs = [] := List.eq_nil_of_length_eq_zero (by omega)
    subst hb0
    clear h1 h2 h3 h4 hl
    have hq := fun (w : World) (a : Option Addr) (n c : Nat) => Lib.run_eql_slice_nil (P := Try.prog) w 26 5 a n c 0 0 Try.underlying26
    go_enter Try.func67, Try.ntmps67
    go_wp2_with fail
    go_ret
    exact ⟨_, rfl, World.ownsRow_nil _ _ _ _, Keep.refl _ _, Fit.nil _ _⟩
  | some ad =>
    have K : Keep noBlk w (w.alloc (.cells #[] 5)) := (Keep.refl _ _).alloc _
    have HR := Lib.hid ((show Rd w 1 (.slice (some ad) bs.length cap) bs.length (bs.map vb) from ⟨hl, _, _, rfl, h1, h2, h3, h4⟩).keep K fun _ _ => id)
    have HK := Lib.hid K
    have hx1 : 0 + bs.length ≤ maxLen := by unfold maxLen; omega
    have HX := Lib.hid hx1
    clear h1 h2 h3 h4 hl K hx1
    have hq := fun (w : World) (a : Option Addr) (n c : Nat) => Lib.run_eql_slice_nil (P := Try.prog) w 26 5 a n c 0 0 Try.underlying26
    go_enter Try.func67, Try.ntmps67
    go_wp2_with (at_builtin; refine wpList_append_rdf rfl (.tmp 5) (.tmp 6) 26 rfl w.heap.size 5 _ 1 1 Try.underlying26 infoU8 rfl (by omega) _ 0 [] rfl (World.ownsRow_made w #[] 0 (Nat.le_refl _) (by unfold maxLen; omega) (by simp)) _ bs.length (bs.map vb) rfl HR.out (oneCell_vb _) HX.out (by omega) (by simp) IsB isB_zero (isB_map bs) (Fit.made w [] 5 (0, 0) 0 0 (by simp)) ?_; intro v' w2 hown2 hk2 hnil hat hft; obtain ⟨a3, c3, rfl, -, -⟩ := (Rd.of_owns hown2).form; have HO := Lib.hid hown2; have HK2 := Lib.hid hk2; have HF2 := Lib.hid hft; clear hown2 hk2 hnil hat hft)
    go_ret
    refine ⟨_, rfl, by simpa using HO.out, HK.out.trans' HK2.out (fun _ _ h => h) (fun i hi h => ?_), by simpa using HF2.out⟩
    have h' : w.heap.size = i := Option.some.inj h
    omega

def OutPostF (w : World) (l : List UInt8) (er : Int) (e : Ending) (w' : World) : Prop :=
  ∃ v', e = .returned (.tuple #[v', .int .i64 er]) ∧ w'.ownsRow w.heap.size 5 1 v' (if er = 0 then l else []).length ((if er = 0 then l else []).map vb) ∧ Keep noBlk w w' ∧ Fit IsB w' v'
set_option maxHeartbeats 400000 in
theorem out_fit (p : Nat) (w : World) (base : Nat) (v : Value) (l : List UInt8) (e : Int) (h : Wr w base p v l e) (hl : l.length ≤ 65536) :
    Calls Try.prog 40 #[.pointer (some ⟨p, 0, none⟩)] w (OutPostF w l e) := by
  obtain ⟨hp0, hp1, hp2, hf⟩ := h.cells
  by_cases he : e = 0
  · subst he
    have c := clone_fit v l w (Rd.of_owns h.own) (by omega)
    have C := Lib.hid c; clear c
    obtain ⟨a, cp, rfl, -, -⟩ := (Rd.of_owns h.own).form
    clear h
    go_enter Try.func40, Try.ntmps40
    go_wp2_with fail
    refine C.out.mono ?_
    rintro e w1 ⟨v', rfl, hown, hk, hft⟩
    have HO := Lib.hid hown; have HK := Lib.hid hk; have HF := Lib.hid hft
    obtain ⟨a3, c3, rfl, -, -⟩ := (Rd.of_owns hown).form
    clear hown hk hft
    go_wp2_with fail
    go_ret2
    exact ⟨_, rfl, HO.out, HK.out, HF.out⟩
  · have he1 : (e != 0) = true := by simp [he]
    have HE := Lib.hid he; clear he h
    go_enter Try.func40, Try.ntmps40
    go_wp2_with fail
    go_quiet (fail)
    go_wp2_with fail
    go_ret2
    refine ⟨_, rfl, ?_, (Keep.refl _ _).drewN _, Fit.nil _ _⟩
    rw [if_neg HE.out]
    exact World.ownsRow_nil _ _ _ _
end Go.Proofs.Ytdlegbcdmlmbpaa
