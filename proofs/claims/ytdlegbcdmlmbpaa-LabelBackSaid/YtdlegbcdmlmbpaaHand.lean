/-
  Moves by hand through a region whose order is drawn, S holding all along.
  Conditions: none; plain laws over any program.
-/
import Derived.Test.YtdlegbcdmlmbpaaCopy
namespace Go.Proofs.Ytdlegbcdmlmbpaa
open Go.RowKit

theorem wpAnyH_one {P : Program} {ops : Array Oper} {Q : Exit → Act → World → Prop} {md : Region.Mode} {S : World → Prop} {k : Nat} {o : Oper} {fuel : Nat} {listed : Array Bool} {a : Act} {w : World} (ho : ops[k]? = some o) (hr : Region.ready md ops listed = [k])
    (h : wpList P ops (Exit.then (fun a' w' => S w' ∧ wpAnyH P md ops Q S fuel (listed.setIfInBounds k true) a' w') Q) [o] a w) : wpAnyH P md ops Q S (fuel + 1) listed a w :=
  ⟨fun h1 => (by rw [hr] at h1; cases h1), fun j hj => by
    rw [hr] at hj
    obtain rfl : j = k := by simpa using hj
    exact wpOp_of_list ho h⟩
theorem wpAnyH_two {P : Program} {ops : Array Oper} {Q : Exit → Act → World → Prop} {md : Region.Mode} {S : World → Prop} {k l : Nat} {o o' : Oper} {fuel : Nat} {listed : Array Bool} {a : Act} {w : World} (ho : ops[k]? = some o) (ho' : ops[l]? = some o') (hr : Region.ready md ops listed = [k, l])
    (h : wpList P ops (Exit.then (fun a' w' => S w' ∧ wpAnyH P md ops Q S fuel (listed.setIfInBounds k true) a' w') Q) [o] a w)
    (h' : wpList P ops (Exit.then (fun a' w' => S w' ∧ wpAnyH P md ops Q S fuel (listed.setIfInBounds l true) a' w') Q) [o'] a w) : wpAnyH P md ops Q S (fuel + 1) listed a w :=
  ⟨fun h1 => (by rw [hr] at h1; cases h1), fun j hj => by
    rw [hr] at hj
    have : j = k ∨ j = l := by simpa using hj
    rcases this with rfl | rfl
    · exact wpOp_of_list ho h
    · exact wpOp_of_list ho' h'⟩
end Go.Proofs.Ytdlegbcdmlmbpaa
