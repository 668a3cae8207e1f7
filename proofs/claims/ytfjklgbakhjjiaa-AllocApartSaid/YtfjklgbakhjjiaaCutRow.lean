/-
  Slices of slices: what they read; as an operation of a region that draws its order.
  Conditions: the bounds are within the slice.
-/
import Derived.Test.YtfjklgbakhjjiaaGen
namespace Go.Proofs.Ytfjklgbakhjjiaa
open Go.RowKit
set_option maxRecDepth 100000
set_option linter.unusedVariables false

theorem Rd.cut_to {w : World} {s n c k : Nat} {a : Option Addr} {xs : List Value} (h : Rd w s (.slice a n c) n xs) (hk : k ≤ n) : Rd w s (.slice a k c) k (xs.take (k * s)) := by
  obtain ⟨h0, a', c', hv, h1, h2, h3, h4⟩ := h
  cases hv
  have hks : k * s ≤ n * s := Nat.mul_le_mul_right s hk
  refine ⟨by rw [List.length_take, h0]; omega, a, c, rfl, by omega, h2, h3, fun hp => ?_⟩
  obtain ⟨g, o, rfl, hc⟩ := h4 (by rw [List.length_take] at hp; omega)
  refine ⟨g, o, rfl, fun i u hu => hc i u ?_⟩
  rw [List.getElem?_take] at hu
  split at hu
  · exact hu
  · cases hu
theorem Rd.cut_from {w : World} {s n c k : Nat} {a : Option Addr} {xs : List Value} (h : Rd w s (.slice a n c) n xs) (hk : k ≤ n) : Rd w s (sliced a k n c s) (n - k) (xs.drop (k * s)) := by
  obtain ⟨h0, a', c', hv, h1, h2, h3, h4⟩ := h
  cases hv
  unfold sliced
  refine ⟨by rw [List.length_drop, h0, Nat.sub_mul], _, c - k, rfl, by omega, by omega, ?_, fun hp => ?_⟩
  · intro e
    split at e
    · omega
    · rcases a with _ | a
      · have := h3 rfl; omega
      · cases e
  · rw [List.length_drop, h0] at hp
    have hkn : k < n := by
      rcases Nat.lt_or_ge k n with h | h
      · exact h
      · have : n = k := by omega
        subst this; omega
    obtain ⟨g, o, rfl, hc⟩ := h4 (by rw [h0]; omega)
    rw [if_neg (by omega)]
    refine ⟨g, o + k * s, by simp [add_lit], fun i u hu => ?_⟩
    rw [List.getElem?_drop] at hu
    have := hc _ _ hu
    rwa [← Nat.add_assoc] at this
theorem sliced_form {w : World} {s n c k : Nat} {a : Option Addr} {xs : List Value} (h : Rd w s (sliced a k n c s) (n - k) xs) : ∃ a', sliced a k n c s = .slice a' (n - k) (c - k) := ⟨_, rfl⟩
theorem run_cut_to {P : Program} {t e : TypeId} (ht : P.underlying t = some (.slice e)) (a : Option Addr) (n c k : Nat) (hk : k ≤ c) {s : Nat} (hs : ∀ w, (sizeOf e).run P w = .ok s w) (w : World) :
    (Instr.sliceAt t (.slice a n c) none (some (.int .i64 k)) none).run P w = .ok (.slice a k c) w := by
  have he : P.elem t = e := by simp [Program.elem, ht]
  have ht' : P.underlying t = some (.slice (P.elem t)) := by rw [he]; exact ht
  have : (k : Int) ≤ (c : Int) := by omega
  rw [run_sliceAt_slice w t _ _ _ _ ht', run_slice_h w t a n c ht' .i64 (k : Int) (by omega) this, he, hs]
  simp only [Result.andThen, sliced, Int.toNat_natCast, Nat.zero_mul, Nat.sub_zero]
  congr 2
  split
  · rfl
  · rcases a with _ | a <;> simp [Addr.add]
theorem run_cut_from {P : Program} {t e : TypeId} (ht : P.underlying t = some (.slice e)) (a : Option Addr) (n c k : Nat) (hk : k ≤ n) {s : Nat} (hs : ∀ w, (sizeOf e).run P w = .ok s w) (w : World) :
    (Instr.sliceAt t (.slice a n c) (some (.int .i64 k)) none none).run P w = .ok (sliced a k n c s) w := by
  have he : P.elem t = e := by simp [Program.elem, ht]
  have ht' : P.underlying t = some (.slice (P.elem t)) := by rw [he]; exact ht
  have : (k : Int) ≤ (n : Int) := by omega
  rw [run_sliceAt_slice w t _ _ _ _ ht', run_slice_l w t a n c ht' .i64 (k : Int) (by omega) this, he, hs]
  simp only [Result.andThen, Int.toNat_natCast]
theorem yieldsIf_slice {P : Program} {ops : Array Oper} {S : World → Prop} {op : Oper} {a : Act} {v : Value} (hw : Region.wanted op (yielded ops a.tmps) = true) (t : TypeId) (x : Operand) (lo hi mx : Option Operand) (ho : op.op = .slice t x lo hi mx)
    (xv : Value) (lov hiv mxv : Option Value) (hx : a.eval x = xv) (h1 : lo.map a.eval = lov) (h2 : hi.map a.eval = hiv) (h3 : mx.map a.eval = mxv) (h : ∀ w, (Instr.sliceAt t xv lov hiv mxv).run P w = .ok v w) : YieldsIf P ops S op v a :=
  .inl ⟨hw, fun w _ => by
    unfold execOp
    simp only [ho, hx, h1, h2, h3, Sem.run_bind, h w, Result.andThen_ok, Sem.run_pure]⟩
end Go.Proofs.Ytfjklgbakhjjiaa
