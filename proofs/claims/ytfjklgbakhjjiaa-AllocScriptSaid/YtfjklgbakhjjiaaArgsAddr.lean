/-
  What comes in: addresses, rows of them, numbers.
  Conditions: none.
-/
import Derived.Test.YtfjklgbakhjjiaaSetAddr
import Derived.Test.YtfjklgbakhjjiaaArgsRows0
import Derived.Test.YtfjklgbakhjjiaaRows
import Derived.ProofKit
import Derived.OpenShut
import Derived.ShutString
import Derived.ChangeOld
import Derived.Below
import Derived.Lib.SmallJoins
import Derived.Deep.Slices
namespace Go.Proofs.Ytfjklgbakhjjiaa
open Go.ChangeShapes Go.WideShapes Go.ChangeAt Go.RowKit
set_option maxRecDepth 100000
set_option linter.unusedVariables false

theorem own : ownKnob Try.prog.godebug = none := by kernel_rfl
theorem laidOut : laidOutB Try.prog = true := by kernel_rfl
theorem cellsInt : Try.prog.cellsOf 3 = 1 := by kernel_rfl
theorem cellsAd : Try.prog.cellsOf 50 = 2 := by kernel_rfl

section
variable {H : Type} {enc : TypeId × Value → H} {w : World} {base : Nat} {spare : Nat → Bool} {held : Bool} {fuel : Nat}
theorem int_of_trod {cs : List Value} {x : DataW H × List MemPlace} (h : DataW.trod enc Try.prog w base spare held fuel 3 cs = some x) : ∃ a : Int, In64 a ∧ cs = [.int .i64 a] := by
  obtain ⟨a, e0, -, wa⟩ := DataW.trod_int Try.underlying3 h
  exact ⟨a, bounds_i64 wa, e0⟩
theorem ad_of_trod {cs : List Value} {x : DataW H × List MemPlace} (h : DataW.trod enc Try.prog w base spare held fuel 50 cs = some x) : ∃ a : Ad, AdOk a ∧ cs = adCs a := by
  obtain ⟨xs, m, -, -, hl, hx, hf⟩ := DataW.trod_struct adUnder h
  rw [cellsAd] at hl
  have fld : ∀ (i : Nat) (n : String) (t : TypeId) (o : Nat), (Try.prog.fieldsOf 50).toList.map (fun f => (f.name, f.type, f.offset)) = [("Dev", 3, 0), ("At", 3, 1)] →
      ([("Dev", 3, 0), ("At", 3, 1)] : List (String × TypeId × Nat))[i]? = some (n, t, o) → ∃ y, DataW.trod enc Try.prog w base spare held m t ((cs.drop o).take (Try.prog.cellsOf t)) = some y := by
    intro i n t o h1 h2
    rw [← h1, List.getElem?_map] at h2
    obtain ⟨f, hf1, hf2⟩ := Option.map_eq_some_iff.1 h2
    have h3 := hf i f (by simpa using hf1)
    cases hf2
    have hi : i < xs.length := by
      have := (List.getElem?_eq_some_iff.1 hf1).1
      rw [hx]; simpa using this
    rw [List.getElem?_eq_getElem hi] at h3
    exact ⟨_, h3⟩
  obtain ⟨_, h0⟩ := fld 0 _ _ _ adFields rfl
  obtain ⟨_, h1⟩ := fld 1 _ _ _ adFields rfl
  obtain ⟨a, oa, ea⟩ := int_of_trod h0
  obtain ⟨b, ob, eb⟩ := int_of_trod h1
  rw [cellsInt] at ea eb
  refine ⟨⟨a, b⟩, ⟨oa, ob⟩, ?_⟩
  obtain ⟨p, q, rfl⟩ : ∃ p q, cs = [p, q] := by
    match cs, hl with
    | [p, q], _ => exact ⟨p, q, rfl⟩
  simp at ea eb
  rw [ea, eb]; rfl
theorem ads_of_trod {a : Option Addr} {len cap : Nat} {x : DataW H × List MemPlace} (h : DataW.trod enc Try.prog w base spare held fuel 22 [.slice a len cap] = some x) :
    ∃ l : List Ad, l.length = len ∧ AdsOk l ∧ Rd w 2 (.slice a len cap) len (adCells l) :=
  rows_of_trod (f := adCs) Try.underlying22 cellsAd (by decide) (fun y hy => rfl) (fun n cs x hx => ad_of_trod hx) h
end
end Go.Proofs.Ytfjklgbakhjjiaa
