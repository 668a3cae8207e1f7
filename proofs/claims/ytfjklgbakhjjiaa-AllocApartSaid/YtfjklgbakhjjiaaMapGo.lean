/-
  Maps as lists: ranging outside a fence; a delete while the map is gone through.
  Conditions: the keys are of a type that the library's KeyLaw serves.
-/
import Derived.Test.YtfjklgbakhjjiaaGen
namespace Go.Proofs.Ytfjklgbakhjjiaa
open Go.RowKit Go.Maps Go.ChangeMaps
set_option maxRecDepth 100000
set_option linter.unusedVariables false

section
variable {α β : Type} {P : Program} {k : TypeId} {ok : α → Prop} {enc : α → Value} {ev : β → Value} {w : World} {b : Nat} {l : List (α × β)}
variable {ops : Array Oper} {rest : List Oper} {o : Oper} {a : Act} {Q : Exit → Act → World → Prop}

theorem filter_eraseIdx_of_not {γ : Type} (f : γ → Bool) : ∀ (l : List γ) (j : Nat) (x : γ), l[j]? = some x → f x = false → (l.eraseIdx j).filter f = l.filter f
  | [], _, _, h, _ => by simp at h
  | y :: l, 0, x, h, hf => by
    simp only [List.getElem?_cons_zero, Option.some.injEq] at h
    subst h
    simp [hf]
  | y :: l, j + 1, x, h, hf => by
    rw [List.getElem?_cons_succ] at h
    rw [List.eraseIdx_cons_succ, List.filter_cons, List.filter_cons, filter_eraseIdx_of_not f l j x h hf]

theorem IterIs.delete [DecidableEq α] {r : Nat} {left : List (α × β)} (h : IterIs ok enc ev w b r l left) (K : KeyEnc P k ok enc) {t e : TypeId} (ht : P.underlying t = some (.map k e)) (ty : TypeId) (a : α) (ha : ok a) (hna : ∀ p ∈ left, p.1 ≠ a) :
    ∃ w', (Builtin.delete_ #[t, k] ty #[.map (some b), enc a]).run P w = .ok (.tuple #[]) w' ∧ IterIs ok enc ev w' b r (l.filter fun p => !decide (p.1 = a)) left ∧ Keep (fun i => i = b) w w' ∧ w'.heap.size = w.heap.size := by
  have hrb := h.ne
  obtain ⟨es, clock, since, seen, c0, hb, hm, hi, hold, hsc, hcl, hleft, hsub⟩ := h
  obtain ⟨x, hx⟩ := K.key a ha
  have hsub' : ∀ p ∈ left, p ∈ l.filter fun p => !decide (p.1 = a) := fun p hp => List.mem_filter.2 ⟨hsub p hp, by simpa using hna p hp⟩
  rcases hm.find K w a ha with ⟨h1, h2⟩ | ⟨j, u, e0, h1, h2, h3, h4, h5⟩
  · have hl : l.filter (fun p => !decide (p.1 = a)) = l := List.filter_eq_self.2 (fun p hp => by simpa using h2 p hp)
    rw [hl]
    refine ⟨setBlock w b (.map es clock), ?_, ?_, setBlock_keep _ _ _, by simp [setBlock]⟩
    · simp [Builtin.delete_, run_underlying ht, MapKept.run_getObj_map hb, K.law.check w _ hx, h1, MapKept.run_setObj_map _ hb, Result.andThen, setBlock]
    · rw [setBlock_same hb]
      exact ⟨es, clock, since, seen, c0, hb, hm, hi, hold, hsc, hcl, hleft, hsub⟩
  · have hjl := (List.getElem?_eq_some_iff.1 h2).1
    have hjs : j < es.size := by have := (List.getElem?_eq_some_iff.1 h3).1; simpa using this
    have hf : l.filter (fun p => !decide (p.1 = a)) = l.eraseIdx j := by
      refine filter_eq_eraseIdx (fun p : α × β => decide (p.1 = a)) l j (a, u) h2 (by simp) ?_
      refine (List.pairwise_map.1 hm.2.2.2.1).imp fun {p q} hne hpq => ?_
      have h1 := of_decide_eq_true hpq.1
      have h2 := of_decide_eq_true hpq.2
      exact hne (h1.trans h2.symm)
    rw [hf] at hsub' ⊢
    have hk := setBlock_keep w b (.map (es.eraseIdxIfInBounds j) clock)
    have hel : (es.eraseIdxIfInBounds j).toList = es.toList.eraseIdx j := by simp
    have hsubs := List.eraseIdx_sublist es.toList j
    have hsubl := List.eraseIdx_sublist l j
    have hil : r < w.heap.size := (Array.getElem?_eq_some_iff.1 hi).1
    refine ⟨setBlock w b (.map (es.eraseIdxIfInBounds j) clock), ?_, ⟨_, clock, since, seen, c0, setBlock_get hb, ?_, by rw [hk.block r hil hrb]; exact hi, ?_, hsc, hcl, ?_, hsub'⟩, hk, by simp [setBlock]⟩
    · simp [Builtin.delete_, run_underlying ht, MapKept.run_getObj_map hb, K.law.check w _ hx, h1, MapKept.run_setObj_map _ hb, Result.andThen, setBlock]
    · refine ⟨?_, ?_, ?_, ?_, ?_⟩
      · rw [hel, map_eraseIdx, map_eraseIdx, hm.1]
      · rw [hel]; exact (hsubs.map _).nodup hm.2.1
      · intro e he; rw [hel] at he; exact hm.2.2.1 e (hsubs.subset he)
      · exact (hsubl.map _).nodup hm.2.2.2.1
      · intro p hp; exact hm.2.2.2.2 p (hsubl.subset hp)
    · intro e he; rw [hel] at he; exact hold e (hsubs.subset he)
    · rw [← hleft]
      have hL : ∀ es : Array MapEntry, (leftOf es seen).toList = es.toList.filter fun x => !seen.contains x.born := fun es => by simp [leftOf]
      rw [hL, hL, hel]
      refine congrArg _ (filter_eraseIdx_of_not _ _ j e0 h3 ?_)
      cases hc : !seen.contains e0.born
      · rfl
      · exfalso
        have hin : e0 ∈ (leftOf es seen).toList := by rw [hL]; exact List.mem_filter.2 ⟨List.mem_of_getElem? h3, hc⟩
        have : (e0.key, e0.val) ∈ left.map fun p => (enc p.1, ev p.2) := by rw [← hleft]; exact List.mem_map.2 ⟨e0, hin, rfl⟩
        obtain ⟨p, hp, he⟩ := List.mem_map.1 this
        have he1 : enc p.1 = enc a := by rw [← h4]; exact congrArg Prod.fst he
        exact hna p hp (K.inj _ _ (hm.2.2.2.2 p (hsub p hp)) ha he1)

theorem wpList_range_is (hg : o.guard = none) (m : Operand) (t : TypeId) (hop : o.op = Op.range t m) {k e : TypeId} (ht : P.underlying t = some (.map k e)) (hm : a.eval m = .map (some b)) (h : MapIs ok enc ev w b l)
    (hK : ∀ w', IterIs ok enc ev w' b w.heap.size l l → Keep noBlk w w' → w'.heap.size = w.heap.size + 1 → wpList P ops Q rest (a.put o.dst (.pointer (some ⟨w.heap.size, 0, none⟩))) w') : wpList P ops Q (o :: rest) a w := by
  refine wpList_plain hg fun K' hK' => ?_
  obtain ⟨w', hrun, r1, r2, r3⟩ := h.range ht
  unfold Oper.wp
  simp [execOp, hop, hm, hrun, Result.andThen]
  exact hK' _ _ (hK w' r1 r2 r3)
theorem wpList_next_is (hg : o.guard = none) (it : Operand) (hop : o.op = Op.next it false) {r : Nat} {left : List (α × β)} (hit : a.eval it = .pointer (some ⟨r, 0, none⟩)) (h : IterIs ok enc ev w b r l left)
    (hDone : left = [] → wpList P ops Q rest (a.put o.dst (.tuple #[.bool false])) w)
    (hMore : ∀ i x v w', left[i]? = some (x, v) → ok x → IterIs ok enc ev w' b r l (left.eraseIdx i) → Keep (fun k => k = r) w w' → w'.heap.size = w.heap.size → EntryIs enc ev w' b r x v → wpList P ops Q rest (a.put o.dst (.tuple #[.bool true, enc x, ev v])) w') : wpList P ops Q (o :: rest) a w := by
  refine wpList_plain hg fun K' hK' => ?_
  unfold Oper.wp
  rcases h.next (P := P) o.type with ⟨h0, hrun⟩ | ⟨i, x, v, w', h1, h2, hrun, h3, h4, h5, h6⟩
  · simp [execOp, hop, hit, hrun, Result.andThen]
    exact hK' _ _ (hDone h0)
  · simp [execOp, hop, hit, hrun, Result.andThen]
    exact hK' _ _ (hMore i x v w' h1 h2 h3 h4 h5 h6)
theorem wpList_entry_is (hg : o.guard = none) (it : Operand) (hop : o.op = Op.entry it) {r : Nat} {x : α} {v : β} (hit : a.eval it = .pointer (some ⟨r, 0, none⟩)) (h : EntryIs enc ev w b r x v)
    (hK : wpList P ops Q rest (a.put o.dst (.tuple #[enc x, ev v])) w) : wpList P ops Q (o :: rest) a w := by
  refine wpList_plain hg fun K' hK' => ?_
  unfold Oper.wp
  simp [execOp, hop, hit, h P, Result.andThen]
  exact hK' _ _ hK
theorem wpList_delete_is [DecidableEq α] (hg : o.guard = none) (m x : Operand) {t : TypeId} (hop : o.op = .call { callee := .builtin .delete, args := #[m, x], argTypes := #[t, k] }) (K : KeyEnc P k ok enc) {e : TypeId} (ht : P.underlying t = some (.map k e))
    {r : Nat} {left : List (α × β)} (c : α) (hc : ok c) (hm : a.eval m = .map (some b)) (hx : a.eval x = enc c) (h : IterIs ok enc ev w b r l left) (hna : ∀ p ∈ left, p.1 ≠ c)
    (hK : ∀ w', IterIs ok enc ev w' b r (l.filter fun p => !decide (p.1 = c)) left → Keep (fun i => i = b) w w' → w'.heap.size = w.heap.size → wpList P ops Q rest (a.put o.dst (.tuple #[])) w') : wpList P ops Q (o :: rest) a w := by
  refine wpList_plain hg fun K' hK' => ?_
  obtain ⟨w', hrun, h1, h2, h3⟩ := h.delete K ht o.type c hc hna
  unfold Oper.wp
  simp [execOp, hop, resolve, invoke, builtin, hm, hx, hrun, Result.andThen]
  exact hK' _ _ (hK w' h1 h2 h3)
/-- The same address laid in anew while the map is gone through is not served; a store into another map is plain. -/
theorem IterIs.sub {r : Nat} {left : List (α × β)} (h : IterIs ok enc ev w b r l left) : ∀ p ∈ left, p ∈ l := by
  obtain ⟨es, clock, since, seen, c0, hb, hm, hi, hold, hsc, hcl, hleft, hsub⟩ := h
  exact hsub
end
end Go.Proofs.Ytfjklgbakhjjiaa
