/-
  What comes in: lists of bools, of numbers.
  Conditions: none.
-/
import Derived.Test.YtfjklgbakhjjiaaArgsAddr
namespace Go.Proofs.Ytfjklgbakhjjiaa
open Go.ChangeShapes Go.WideShapes Go.ChangeAt Go.RowKit
set_option maxRecDepth 100000
set_option linter.unusedVariables false

section
variable {H : Type} {enc : TypeId × Value → H} {w : World} {base : Nat} {spare : Nat → Bool} {held : Bool} {fuel : Nat}
theorem ints_of_trod {a : Option Addr} {len cap : Nat} {x : DataW H × List MemPlace} (h : DataW.trod enc Try.prog w base spare held fuel 43 [.slice a len cap] = some x) :
    ∃ l : List Int, l.length = len ∧ (∀ y ∈ l, In64 y) ∧ Rd w 1 (.slice a len cap) len (l.map fun x => .int .i64 x) := by
  obtain ⟨l, h1, h2, h3⟩ := rows_of_trod (f := fun x : Int => [Value.int .i64 x]) Try.underlying43 cellsInt (by decide) (fun y hy => rfl) (fun n cs x hx => int_of_trod hx) h
  refine ⟨l, h1, h2, ?_⟩
  have e : (l.flatMap fun x : Int => [Value.int .i64 x]) = l.map fun x => .int .i64 x := by
    rw [← List.flatMap_singleton' (l.map fun x => Value.int .i64 x), List.flatMap_map]
  rwa [e] at h3
theorem cellsBool : Try.prog.cellsOf 4 = 1 := by kernel_rfl
theorem flat_bool : ∀ l : List Bool, l.flatMap (fun b => [Value.bool b]) = l.map Value.bool
  | [] => rfl
  | b :: l => by rw [List.flatMap_cons, flat_bool l]; rfl
theorem bools_of_trod {a : Option Addr} {len cap : Nat} {x : DataW H × List MemPlace} (h : DataW.trod enc Try.prog w base spare held fuel 39 [.slice a len cap] = some x) :
    ∃ l : List Bool, l.length = len ∧ Rd w 1 (.slice a len cap) len (l.map Value.bool) := by
  obtain ⟨l, h1, -, h3⟩ := rows_of_trod (f := fun b => [Value.bool b]) (ok := fun _ => True) Try.underlying39 cellsBool (by decide) (fun _ _ => rfl) (fun n cs x hx => by
    obtain ⟨b, hb, -⟩ := DataW.trod_bool Try.underlying4 hx
    exact ⟨b, trivial, hb⟩) h
  refine ⟨l, h1, ?_⟩
  rw [← flat_bool]
  exact h3
end
end Go.Proofs.Ytfjklgbakhjjiaa
