/-
  Maps whose keys are arrays or structs: the laws on operations in the text's order.
  Conditions: the keys are of a type that the library's KeyLaw serves.
-/
import Derived.Test.YtdlegbcdmlmbpaaMap2
import Derived.Sort.MapsRangeIn
namespace Go.Proofs.Ytdlegbcdmlmbpaa
open Go.RowKit Go.Maps Go.ChangeMaps
set_option linter.unusedVariables false

section
variable {α β : Type} {F : Fence} {n : Nat} {P : Program} {k : TypeId} {ok : α → Prop} {enc : α → Value} {ev : β → Value} {w : World} {b : Nat} {l : List (α × β)}
variable {ops : Array Oper} {rest : List Oper} {o : Oper} {a : Act} {Q : Exit → Act → World → Prop}

theorem wpListIn_range_is (hg : o.guard = none) (m : Operand) (t : TypeId) (hop : o.op = Op.range t m) {k e : TypeId} (ht : P.underlying t = some (.map k e)) (hm : a.eval m = .map (some b)) (h : MapIs ok enc ev w b l)
    (hK : ∀ w', IterIs ok enc ev w' b w.heap.size l l → Keep noBlk w w' → w'.heap.size = w.heap.size + 1 → wpListIn F n P ops Q rest (a.put o.dst (.pointer (some ⟨w.heap.size, 0, none⟩))) w') :
    wpListIn F n P ops Q (o :: rest) a w := by
  refine wpListIn_plain hg fun K' hK' => ?_
  obtain ⟨w', hrun, r1, r2, r3⟩ := h.range ht
  unfold Oper.wpIn
  refine ⟨by simp [Oper.about, hop], ?_⟩
  rw [Oper.semAt_plain F _ _ (by rw [hop]; intro c hc'; cases hc')]
  simp [execOp, hop, hm, hrun, Result.andThen]
  exact hK' _ _ (hK w' r1 r2 r3)

theorem wpListIn_next_is (hg : o.guard = none) (it : Operand) (hop : o.op = Op.next it false) {r : Nat} {left : List (α × β)} (hit : a.eval it = .pointer (some ⟨r, 0, none⟩)) (h : IterIs ok enc ev w b r l left)
    (hDone : left = [] → wpListIn F n P ops Q rest (a.put o.dst (.tuple #[.bool false])) w)
    (hMore : ∀ i x v w', left[i]? = some (x, v) → ok x → IterIs ok enc ev w' b r l (left.eraseIdx i) → Keep (fun k => k = r) w w' → w'.heap.size = w.heap.size → EntryIs enc ev w' b r x v → wpListIn F n P ops Q rest (a.put o.dst (.tuple #[.bool true, enc x, ev v])) w') :
    wpListIn F n P ops Q (o :: rest) a w := by
  refine wpListIn_plain hg fun K' hK' => ?_
  unfold Oper.wpIn
  refine ⟨by simp [Oper.about, hop], ?_⟩
  rw [Oper.semAt_plain F _ _ (by rw [hop]; intro c hc'; cases hc')]
  rcases h.next (P := P) o.type with ⟨h0, hrun⟩ | ⟨i, x, v, w', h1, h2, hrun, h3, h4, h5, h6⟩
  · simp [execOp, hop, hit, hrun, Result.andThen]
    exact hK' _ _ (hDone h0)
  · simp [execOp, hop, hit, hrun, Result.andThen]
    exact hK' _ _ (hMore i x v w' h1 h2 h3 h4 h5 h6)

theorem wpListIn_entry_is (hg : o.guard = none) (it : Operand) (hop : o.op = Op.entry it) {r : Nat} {x : α} {v : β} (hit : a.eval it = .pointer (some ⟨r, 0, none⟩)) (h : EntryIs enc ev w b r x v)
    (hK : wpListIn F n P ops Q rest (a.put o.dst (.tuple #[enc x, ev v])) w) : wpListIn F n P ops Q (o :: rest) a w := by
  refine wpListIn_plain hg fun K' hK' => ?_
  unfold Oper.wpIn
  refine ⟨by simp [Oper.about, hop], ?_⟩
  rw [Oper.semAt_plain F _ _ (by rw [hop]; intro c hc'; cases hc')]
  simp [execOp, hop, hit, h P, Result.andThen]
  exact hK' _ _ hK

/-- The last in a row of entries may be taken in any world. -/
theorem wpList_lookup_is [DecidableEq α] (hg : o.guard = none) (m x : Operand) (t : TypeId) (hop : o.op = Op.lookup t m x false) (K : KeyEnc P k ok enc) {e : TypeId} (ht : P.underlying t = some (.map k e)) {z : β} (hz : (zeroValue e).run P w = .ok (ev z) w)
    (c : α) (hc : ok c) (hm : a.eval m = .map (some b)) (hx : a.eval x = enc c) (h : MapIs ok enc ev w b l) (hK : wpList P ops Q rest (a.put o.dst (ev ((look l c).getD z))) w) : wpList P ops Q (o :: rest) a w := by
  refine wpList_plain hg fun K' hK' => ?_
  have hrun := h.lookup K ht hz c hc false
  unfold Oper.wp
  simp [execOp, hop, hm, hx, hrun, Result.andThen]
  exact hK' _ _ hK

theorem wpList_lookup_ok_is [DecidableEq α] (hg : o.guard = none) (m x : Operand) (t : TypeId) (hop : o.op = Op.lookup t m x true) (K : KeyEnc P k ok enc) {e : TypeId} (ht : P.underlying t = some (.map k e)) {z : β} (hz : (zeroValue e).run P w = .ok (ev z) w)
    (c : α) (hc : ok c) (hm : a.eval m = .map (some b)) (hx : a.eval x = enc c) (h : MapIs ok enc ev w b l) (hK : wpList P ops Q rest (a.put o.dst (.tuple #[ev ((look l c).getD z), .bool (look l c).isSome])) w) : wpList P ops Q (o :: rest) a w := by
  refine wpList_plain hg fun K' hK' => ?_
  have hrun := h.lookup K ht hz c hc true
  unfold Oper.wp
  simp [execOp, hop, hm, hx, hrun, Result.andThen]
  exact hK' _ _ hK

theorem wpList_entryFor_is [DecidableEq α] (hg : o.guard = none) (m x : Operand) (t : TypeId) (hop : o.op = Op.mapEntry t m x) (K : KeyEnc P k ok enc) {e : TypeId} (ht : P.underlying t = some (.map k e)) {z : β} (hz : (zeroValue e).run P w = .ok (ev z) w)
    (c : α) (hc : ok c) (hm : a.eval m = .map (some b)) (hx : a.eval x = enc c) (h : MapIs ok enc ev w b l)
    (hK : ∀ (st : Nat) (w' : World), MapIs ok enc ev w' b (upsert l c ((look l c).getD z)) → Keep (fun i => i = b) w w' → Stamp enc w' b c st → wpList P ops Q rest (a.put o.dst (.tuple #[ev ((look l c).getD z), goInt st])) w') : wpList P ops Q (o :: rest) a w := by
  refine wpList_plain hg fun K' hK' => ?_
  obtain ⟨st, w', hrun, h1, h2, h3⟩ := h.entry K ht hz c hc
  unfold Oper.wp
  simp [execOp, hop, hm, hx, hrun, Result.andThen]
  exact hK' _ _ (hK st w' h1 h2 h3)

theorem wpList_entryStore_is [DecidableEq α] (hg : o.guard = none) (hd : o.dst = none) (m s v : Operand) (t : TypeId) (hop : o.op = Op.entryStore t m s v) (K : KeyEnc P k ok enc)
    (c : α) (hc : ok c) {st : Nat} (u : β) (hm : a.eval m = .map (some b)) (hs : a.eval s = goInt st) (hv : a.eval v = ev u) (h : MapIs ok enc ev w b l) (hst : Stamp enc w b c st)
    (hK : ∀ w' : World, MapIs ok enc ev w' b (upsert l c u) → Keep (fun i => i = b) w w' → wpList P ops Q rest a w') : wpList P ops Q (o :: rest) a w := by
  refine wpList_plain hg fun K' hK' => ?_
  obtain ⟨w', hrun, h1, h2⟩ := h.store K t c hc hst u
  unfold Oper.wp
  simp [execOp, hop, hm, hs, hv, hrun, Result.andThen]
  exact hK' _ _ (by simpa [hd, Act.put] using hK w' h1 h2)

theorem wpList_mapUpdate_is [DecidableEq α] (hg : o.guard = none) (hd : o.dst = none) (m x v : Operand) (t : TypeId) (hop : o.op = Op.mapUpdate t m x v) (K : KeyEnc P k ok enc) {e : TypeId} (ht : P.underlying t = some (.map k e))
    (c : α) (hc : ok c) (u : β) (hm : a.eval m = .map (some b)) (hx : a.eval x = enc c) (hv : a.eval v = ev u) (h : MapIs ok enc ev w b l)
    (hK : ∀ w' : World, MapIs ok enc ev w' b (upsert l c u) → Keep (fun i => i = b) w w' → wpList P ops Q rest a w') : wpList P ops Q (o :: rest) a w := by
  refine wpList_plain hg fun K' hK' => ?_
  obtain ⟨w', hrun, h1, h2⟩ := h.update K ht c hc u
  unfold Oper.wp
  simp [execOp, hop, hm, hx, hv, hrun, Result.andThen]
  exact hK' _ _ (by simpa [hd, Act.put] using hK w' h1 h2)
end
end Go.Proofs.Ytdlegbcdmlmbpaa
