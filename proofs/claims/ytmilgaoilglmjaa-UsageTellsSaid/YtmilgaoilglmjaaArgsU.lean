/-
  What comes in: rows of rows of addresses, numbers.
  Conditions: none.
-/
import Derived.Test.YtmilgaoilglmjaaArgsAddr
import Derived.Test.YtmilgaoilglmjaaReadU
namespace Go.Proofs.Ytmilgaoilglmjaa
open Go.ChangeShapes Go.WideShapes Go.ChangeAt Go.RowKit
set_option maxRecDepth 100000
set_option linter.unusedVariables false

theorem cellsLS : Try.prog.cellsOf 30 = 1 := by kernel_rfl
section
variable {H : Type} {enc : TypeId × Value → H} {w : World} {base : Nat} {spare : Nat → Bool} {held : Bool} {fuel : Nat}
theorem ints_of_trod {a : Option Addr} {len cap : Nat} {x : DataW H × List MemPlace} (h : DataW.trod enc Try.prog w base spare held fuel 23 [.slice a len cap] = some x) :
    ∃ l : List Int, l.length = len ∧ (∀ y ∈ l, In64 y) ∧ Rd w 1 (.slice a len cap) len (l.map fun x => .int .i64 x) := by
  obtain ⟨l, h1, h2, h3⟩ := rows_of_trod (f := fun x : Int => [Value.int .i64 x]) Try.underlying23 cellsInt (by decide) (fun y hy => rfl) (fun n cs x hx => int_of_trod hx) h
  refine ⟨l, h1, h2, ?_⟩
  have e : (l.flatMap fun x : Int => [Value.int .i64 x]) = l.map fun x => .int .i64 x := by
    rw [← List.flatMap_singleton' (l.map fun x => Value.int .i64 x), List.flatMap_map]
  rwa [e] at h3
theorem holders_of_trod {a : Option Addr} {len cap : Nat} {x : DataW H × List MemPlace} (h : DataW.trod enc Try.prog w base spare held fuel 22 [.slice a len cap] = some x) :
    ∃ l : List (List Ad), l.length = len ∧ (∀ L ∈ l, AdsOk L) ∧ Rows2 w (.slice a len cap) l := by
  obtain ⟨l, h1, h2, h3⟩ := rows_of_trod (α := Value × List Ad) (f := fun p => [p.1]) (ok := fun p => AdsOk p.2 ∧ Rd w 2 p.1 p.2.length (adCells p.2)) Try.underlying22 cellsLS (by decide) (fun y hy => rfl) (fun n cs x hx => by
    rcases Go.Deep.open_slice Try.underlying30 hx with ⟨hcs, _⟩ | ⟨y, ln, c, m, n', D, Pl, hcs, _⟩
    · exact ⟨(.slice none 0 0, []), ⟨(fun x hx => by cases hx), Rd.nil _ _⟩, hcs⟩
    · subst hcs
      obtain ⟨L, hL, ho, hr⟩ := ads_of_trod hx
      exact ⟨(_, L), ⟨ho, by rw [hL]; exact hr⟩, rfl⟩) h
  have e : (l.flatMap fun p : Value × List Ad => [p.1]) = l.map fun p => p.1 := by
    rw [← List.flatMap_singleton' (l.map fun p => p.1), List.flatMap_map]
  rw [e] at h3
  refine ⟨l.map (·.2), by simpa using h1, fun L hL => ?_, ⟨l.map (·.1), by rw [List.length_map, h1]; exact h3, fun i L hi => ?_⟩⟩
  · obtain ⟨p, hp, rfl⟩ := List.mem_map.1 hL
    exact (h2 p hp).1
  · rw [List.getElem?_map] at hi
    obtain ⟨p, hp, rfl⟩ := Option.map_eq_some_iff.1 hi
    exact ⟨p.1, by rw [List.getElem?_map, hp]; rfl, (h2 p (List.mem_of_getElem? hp)).2⟩
end
end Go.Proofs.Ytmilgaoilglmjaa
