/-
  What comes in: lists of bools.
  Conditions: none.
-/
import Derived.Test.YtaiicjhnhbkgmaaGreatDoorArgsRows
namespace Go.Proofs.YtaiicjhnhbkgmaaGreatDoor
open Go.ChangeShapes Go.WideShapes Go.ChangeAt Go.RowKit
set_option maxRecDepth 100000
set_option linter.unusedVariables false

section
variable {H : Type} {enc : TypeId × Value → H} {w : World} {base : Nat} {spare : Nat → Bool} {held : Bool} {fuel : Nat}
theorem cellsBool : Tryz.prog.cellsOf 4 = 1 := by kernel_rfl
theorem flat_bool : ∀ l : List Bool, l.flatMap (fun b => [Value.bool b]) = l.map Value.bool
  | [] => rfl
  | b :: l => by rw [List.flatMap_cons, flat_bool l]; rfl
theorem bools_of_trod {a : Option Addr} {len cap : Nat} {x : DataW H × List MemPlace} (h : DataW.trod enc Tryz.prog w base spare held fuel 29 [.slice a len cap] = some x) :
    ∃ l : List Bool, l.length = len ∧ Rd w 1 (.slice a len cap) len (l.map Value.bool) := by
  obtain ⟨l, h1, -, h3⟩ := rows_of_trod (f := fun b => [Value.bool b]) (ok := fun _ => True) Tryz.underlying29 cellsBool (by decide) (fun _ _ => rfl) (fun n cs x hx => by
    obtain ⟨b, hb, -⟩ := DataW.trod_bool Tryz.underlying4 hx
    exact ⟨b, trivial, hb⟩) h
  refine ⟨l, h1, ?_⟩
  rw [← flat_bool]
  exact h3
end
end Go.Proofs.YtaiicjhnhbkgmaaGreatDoor
