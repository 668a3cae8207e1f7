/-
  What comes in: calls of a ledger (Act), as a slice of structs.
  Conditions: none.
-/
import Derived.Test.YtfjklgbakhjjiaaArgsA
import Derived.Test.YtfjklgbakhjjiaaPlaceP
namespace Go.Proofs.Ytfjklgbakhjjiaa
open Go.ChangeShapes Go.WideShapes Go.ChangeAt Go.RowKit
set_option maxRecDepth 100000
set_option linter.unusedVariables false

/-- A call, with the values that its lists are. -/
structure ActV where
  kind : Int
  copies : Int
  back : Int
  vt : Value
  th : List Bool
  vl : Value
  l : List Ad
def actCs (x : ActV) : List Value := [.int .i64 x.kind, .int .i64 x.copies, .int .i64 x.back, x.vt, x.vl]
/-- What a call's lists read. -/
def ActOk (w : World) (x : ActV) : Prop := In64 x.kind ∧ In64 x.copies ∧ In64 x.back ∧ Rd w 1 x.vt x.th.length (x.th.map Value.bool) ∧ AdsOk x.l ∧ Rd w 2 x.vl x.l.length (adCells x.l)
theorem ActOk.keep {w w' : World} {x : ActV} (h : ActOk w x) (k : Keep noBlk w w') : ActOk w' x := ⟨h.1, h.2.1, h.2.2.1, h.2.2.2.1.keep k fun _ _ => id, h.2.2.2.2.1, h.2.2.2.2.2.keep k fun _ _ => id⟩
theorem actUnder : Try.prog.underlying 41 = some (.struct (Try.prog.fieldsOf 41)) := by kernel_rfl
theorem actFields : (Try.prog.fieldsOf 41).toList.map (fun f => (f.name, f.type, f.offset)) = [("Kind", 3, 0), ("Copies", 3, 1), ("Back", 3, 2), ("There", 39, 3), ("L", 22, 4)] := by kernel_rfl
theorem cellsAct : Try.prog.cellsOf 41 = 5 := by kernel_rfl
theorem cellsSB : Try.prog.cellsOf 39 = 1 := by kernel_rfl
theorem cellsSA : Try.prog.cellsOf 22 = 1 := by kernel_rfl
section
variable {H : Type} {enc : TypeId × Value → H} {w : World} {base : Nat} {spare : Nat → Bool} {held : Bool} {fuel : Nat}
theorem slb_of_trod {cs : List Value} {x : DataW H × List MemPlace} (h : DataW.trod enc Try.prog w base spare held fuel 39 cs = some x) : ∃ v th, cs = [v] ∧ Rd w 1 v (List.length th) (List.map Value.bool th) := by
  rcases Go.Deep.open_slice Try.underlying39 h with ⟨hcs, _⟩ | ⟨y, ln, c, m, n', D, Pl, hcs, _⟩
  · exact ⟨_, [], hcs, Rd.nil _ _⟩
  · subst hcs
    obtain ⟨l, hl, hr⟩ := bools_of_trod h
    exact ⟨_, l, rfl, by rw [hl]; exact hr⟩
theorem sla_of_trod {cs : List Value} {x : DataW H × List MemPlace} (h : DataW.trod enc Try.prog w base spare held fuel 22 cs = some x) : ∃ v l, cs = [v] ∧ AdsOk l ∧ Rd w 2 v (List.length l) (adCells l) := by
  rcases Go.Deep.open_slice Try.underlying22 h with ⟨hcs, _⟩ | ⟨y, ln, c, m, n', D, Pl, hcs, _⟩
  · exact ⟨_, [], hcs, fun x hx => (by cases hx), Rd.nil _ _⟩
  · subst hcs
    obtain ⟨l, hl, ho, hr⟩ := ads_of_trod h
    exact ⟨_, l, rfl, ho, by rw [hl]; exact hr⟩
theorem act_of_trod {cs : List Value} {x : DataW H × List MemPlace} (h : DataW.trod enc Try.prog w base spare held fuel 41 cs = some x) : ∃ a : ActV, ActOk w a ∧ cs = actCs a := by
  obtain ⟨xs, m, -, -, hl, hx, hf⟩ := DataW.trod_struct actUnder h
  rw [cellsAct] at hl
  have fld : ∀ (i : Nat) (n : String) (t : TypeId) (o : Nat), (Try.prog.fieldsOf 41).toList.map (fun f => (f.name, f.type, f.offset)) = [("Kind", 3, 0), ("Copies", 3, 1), ("Back", 3, 2), ("There", 39, 3), ("L", 22, 4)] →
      ([("Kind", 3, 0), ("Copies", 3, 1), ("Back", 3, 2), ("There", 39, 3), ("L", 22, 4)] : List (String × TypeId × Nat))[i]? = some (n, t, o) → ∃ y, DataW.trod enc Try.prog w base spare held m t ((cs.drop o).take (Try.prog.cellsOf t)) = some y := by
    intro i n t o h1 h2
    rw [← h1, List.getElem?_map] at h2
    obtain ⟨f, hf1, hf2⟩ := Option.map_eq_some_iff.1 h2
    have h3 := hf i f (by simpa using hf1)
    cases hf2
    have hi : i < xs.length := by
      have := (List.getElem?_eq_some_iff.1 hf1).1
      rw [hx]; simpa using this
    rw [List.getElem?_eq_getElem hi] at h3
    exact ⟨_, h3⟩
  obtain ⟨_, h0⟩ := fld 0 _ _ _ actFields rfl
  obtain ⟨_, h1⟩ := fld 1 _ _ _ actFields rfl
  obtain ⟨_, h2⟩ := fld 2 _ _ _ actFields rfl
  obtain ⟨_, h3⟩ := fld 3 _ _ _ actFields rfl
  obtain ⟨_, h4⟩ := fld 4 _ _ _ actFields rfl
  obtain ⟨a, oa, ea⟩ := int_of_trod h0
  obtain ⟨b, ob, eb⟩ := int_of_trod h1
  obtain ⟨c, oc, ec⟩ := int_of_trod h2
  obtain ⟨v, th, ev, rv⟩ := slb_of_trod h3
  obtain ⟨u, l, eu, lo, ru⟩ := sla_of_trod h4
  rw [cellsInt] at ea eb ec
  rw [cellsSB] at ev
  rw [cellsSA] at eu
  refine ⟨⟨a, b, c, v, th, u, l⟩, ⟨oa, ob, oc, rv, lo, ru⟩, ?_⟩
  obtain ⟨p, q, r, s, t, rfl⟩ : ∃ p q r s t, cs = [p, q, r, s, t] := by
    match cs, hl with
    | [p, q, r, s, t], _ => exact ⟨p, q, r, s, t, rfl⟩
  simp at ea eb ec ev eu
  rw [ea, eb, ec, ev, eu]; rfl
def actCells (l : List ActV) : List Value := l.flatMap actCs
theorem acts_of_trod {a : Option Addr} {len cap : Nat} {x : DataW H × List MemPlace} (h : DataW.trod enc Try.prog w base spare held fuel 23 [.slice a len cap] = some x) :
    ∃ l : List ActV, l.length = len ∧ (∀ y ∈ l, ActOk w y) ∧ Rd w 5 (.slice a len cap) len (actCells l) :=
  rows_of_trod (f := actCs) (ok := ActOk w) Try.underlying23 cellsAct (by decide) (fun y hy => rfl) (fun n cs x hx => act_of_trod hx) h
end
theorem rd_act {w : World} {v : Value} {l : List ActV} (h : Rd w 5 v l.length (actCells l)) {k : Nat} {x : ActV} (hk : l[k]? = some x) : ∃ g o cap, v = .slice (some ⟨g, o, none⟩) l.length cap ∧ ∀ j u, (actCs x)[j]? = some u → w.cell? ⟨g, o + k * 5 + j, none⟩ = some u := by
  obtain ⟨h0, a, cap, rfl, h1, h2, h3, h4⟩ := h
  have hlt := (List.getElem?_eq_some_iff.1 hk).1
  obtain ⟨g, o, rfl, hc⟩ := h4 (by rw [h0]; omega)
  refine ⟨g, o, cap, rfl, fun j u hj => ?_⟩
  have hj5 : j < 5 := (List.getElem?_eq_some_iff.1 hj).1
  have h5 := flatMap_get (f := actCs) (k := 5) (l := l) (fun _ _ => rfl) k hk j hj5
  rw [hj] at h5
  have := hc (k * 5 + j) u h5
  rwa [← Nat.add_assoc] at this
end Go.Proofs.Ytfjklgbakhjjiaa
