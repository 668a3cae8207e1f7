/-
  Maps whose keys are arrays or structs, as lists of keys and values: what is looked up, laid in, taken out.
  Conditions: the keys are of a type that the library's KeyLaw serves.
-/
import Derived.Maps.Keyed
import Derived.Maps.RangeRun
import Derived.Maps.RangeWalk
import Derived.WideKeyEntry
import Derived.DeepKeys5
import Derived.Test.YtdlegbcdmlmbpaaBase
namespace Go.Proofs.Ytdlegbcdmlmbpaa
open Go.RowKit Go.Maps Go.ChangeMaps
set_option linter.unusedVariables false

section
variable {α β : Type} {P : Program} {k : TypeId} {ok : α → Prop} {enc : α → Value} {ev : β → Value} {w : World} {b : Nat} {l : List (α × β)}

/-- How keys stand. -/
structure KeyEnc (P : Program) (k : TypeId) (ok : α → Prop) (enc : α → Value) : Prop where
  law : Keyed P k
  key : ∀ a, ok a → ∃ x, keyOf P k (enc a) = some x
  inj : ∀ a c, ok a → ok c → enc a = enc c → a = c

/-- A map's block holds these keys and values, in the order in which they were laid in. -/
def MapAt (ok : α → Prop) (enc : α → Value) (ev : β → Value) (es : Array MapEntry) (clock : Nat) (l : List (α × β)) : Prop :=
  es.toList.map (fun e => (e.key, e.val)) = l.map (fun p => (enc p.1, ev p.2)) ∧ (es.toList.map (·.born)).Nodup ∧ (∀ e ∈ es.toList, e.born < clock) ∧ (l.map (·.1)).Nodup ∧ ∀ p ∈ l, ok p.1
def MapIs (ok : α → Prop) (enc : α → Value) (ev : β → Value) (w : World) (b : Nat) (l : List (α × β)) : Prop :=
  ∃ es clock, w.heap[b]? = some (.map es clock) ∧ MapAt ok enc ev es clock l

theorem MapIs.keep {w' : World} {S : Nat → Prop} (h : MapIs ok enc ev w b l) (k : Keep S w w') (hS : ¬ S b) : MapIs ok enc ev w' b l := by
  obtain ⟨es, clock, hb, hm⟩ := h
  have hlt : b < w.heap.size := (Array.getElem?_eq_some_iff.1 hb).1
  exact ⟨es, clock, by rw [k.block b hlt hS]; exact hb, hm⟩
theorem MapIs.made (w : World) : MapIs ok enc ev (w.alloc (.map #[] 0)) w.heap.size ([] : List (α × β)) :=
  ⟨#[], 0, heap_alloc_new _ _, by simp [MapAt]⟩

theorem MapAt.get {es : Array MapEntry} {clock : Nat} (h : MapAt ok enc ev es clock l) {j : Nat} {e : MapEntry} (he : es.toList[j]? = some e) : ∃ a v, l[j]? = some (a, v) ∧ e.key = enc a ∧ e.val = ev v ∧ ok a := by
  have h1 := congrArg (fun x => x[j]?) h.1
  simp only [List.getElem?_map, he, Option.map_some] at h1
  rcases hl : l[j]? with _ | ⟨a, v⟩
  · rw [hl] at h1; simp at h1
  · rw [hl] at h1
    simp only [Option.map_some, Option.some.injEq, Prod.mk.injEq] at h1
    exact ⟨a, v, rfl, h1.1, h1.2, h.2.2.2.2 _ (List.mem_of_getElem? hl)⟩
theorem MapAt.len {es : Array MapEntry} {clock : Nat} (h : MapAt ok enc ev es clock l) : es.toList.length = l.length := by
  have := congrArg List.length h.1
  simpa using this

theorem MapAt.find (K : KeyEnc P k ok enc) {es : Array MapEntry} {clock : Nat} (h : MapAt ok enc ev es clock l) (w : World) (a : α) (ha : ok a) :
    ((Instr.findKey k (enc a) es.toList).run P w = .ok none w ∧ ∀ p ∈ l, p.1 ≠ a) ∨
    ∃ j v e, (Instr.findKey k (enc a) es.toList).run P w = .ok (some (j, ev v)) w ∧ l[j]? = some (a, v) ∧ es.toList[j]? = some e ∧ e.key = enc a ∧ e.val = ev v := by
  obtain ⟨x, hx⟩ := K.key a ha
  have hall : ∀ e ∈ es.toList, ∃ y, keyOf P k e.key = some y := fun e he => by
    obtain ⟨j, hj⟩ := List.getElem?_of_mem he
    obtain ⟨a', v, -, h2, -, h4⟩ := h.get hj
    rw [h2]; exact K.key a' h4
  rcases K.law.find w hx es.toList hall with ⟨h1, h2⟩ | ⟨j, e, h1, h2, h3⟩
  · refine .inl ⟨h1, fun p hp hpa => ?_⟩
    obtain ⟨j, hj⟩ := List.getElem?_of_mem hp
    have hjl := (List.getElem?_eq_some_iff.1 hj).1
    have hje : j < es.toList.length := by rw [h.len]; exact hjl
    obtain ⟨a', v, g1, g2, -, -⟩ := h.get (List.getElem?_eq_getElem hje)
    rw [g1] at hj
    cases hj
    exact h2 _ (List.getElem_mem hje) (by rw [g2, ← hpa])
  · obtain ⟨a', v, g1, g2, g3, g4⟩ := h.get h2
    have : a' = a := K.inj a' a g4 ha (by rw [← g2, h3])
    subst this
    exact .inr ⟨j, v, e, by rw [h1, g3], g1, h2, h3, g3⟩

/-- The value of a key. -/
def look [DecidableEq α] (l : List (α × β)) (a : α) : Option β := (l.find? fun p => decide (p.1 = a)).map (·.2)
theorem look_none [DecidableEq α] {a : α} (h : ∀ p ∈ l, p.1 ≠ a) : look l a = none := by
  unfold look
  rw [List.find?_eq_none.2 (fun p hp => by simpa using h p hp)]; rfl
theorem look_at [DecidableEq α] {a : α} {v : β} (hn : (l.map (·.1)).Nodup) {j : Nat} (h : l[j]? = some (a, v)) : look l a = some v := by
  induction l generalizing j with
  | nil => simp at h
  | cons p l ih =>
    rw [List.map_cons, List.nodup_cons] at hn
    cases j with
    | zero =>
      simp only [List.getElem?_cons_zero, Option.some.injEq] at h
      subst h
      simp [look]
    | succ j =>
      rw [List.getElem?_cons_succ] at h
      have hm : a ∈ l.map (·.1) := List.mem_map.2 ⟨_, List.mem_of_getElem? h, rfl⟩
      have hne : p.1 ≠ a := fun e => hn.1 (e ▸ hm)
      have := ih hn.2 h
      simpa [look, hne] using this

/-- The list behind a store. -/
def upsert [DecidableEq α] (l : List (α × β)) (a : α) (v : β) : List (α × β) :=
  if l.any (fun p => decide (p.1 = a)) then l.map (fun p => if p.1 = a then (a, v) else p) else l ++ [(a, v)]
theorem upsert_none [DecidableEq α] {a : α} (h : ∀ p ∈ l, p.1 ≠ a) (v : β) : upsert l a v = l ++ [(a, v)] := by
  unfold upsert
  rw [if_neg]
  simp only [List.any_eq_true, not_exists, not_and]
  intro p hp
  simpa using h p hp
theorem upsert_at [DecidableEq α] {a : α} {u : β} (hn : (l.map (·.1)).Nodup) {j : Nat} (h : l[j]? = some (a, u)) (v : β) : upsert l a v = l.set j (a, v) := by
  unfold upsert
  rw [if_pos (by simp only [List.any_eq_true]; exact ⟨_, List.mem_of_getElem? h, by simp⟩)]
  apply List.ext_getElem?
  intro i
  rw [List.getElem?_map, List.getElem?_set]
  have hj := (List.getElem?_eq_some_iff.1 h).1
  by_cases hij : j = i
  · subst hij
    rw [if_pos rfl, if_pos hj, h]; simp
  · rw [if_neg hij]
    rcases hi : l[i]? with _ | p
    · rfl
    · have hne : p.1 ≠ a := by
        intro e
        apply hij
        have h1 : (l.map (·.1))[j]? = some a := by rw [List.getElem?_map, h]; rfl
        have h2 : (l.map (·.1))[i]? = some a := by rw [List.getElem?_map, hi, Option.map_some, e]
        obtain ⟨hjl, e1⟩ := List.getElem?_eq_some_iff.1 h1
        obtain ⟨hil, e2⟩ := List.getElem?_eq_some_iff.1 h2
        have hp := List.pairwise_iff_getElem.1 hn
        rcases Nat.lt_trichotomy j i with g | g | g
        · exact absurd (e1.trans e2.symm) (hp j i hjl hil g)
        · exact g
        · exact absurd (e2.trans e1.symm) (hp i j hil hjl g)
      simp [hne]

theorem MapIs.lookup [DecidableEq α] (h : MapIs ok enc ev w b l) (K : KeyEnc P k ok enc) {t e : TypeId} (ht : P.underlying t = some (.map k e)) {z : β} (hz : (zeroValue e).run P w = .ok (ev z) w) (a : α) (ha : ok a) (c : Bool) :
    (Instr.lookup t (.map (some b)) (enc a) c).run P w = .ok (if c then .tuple #[ev ((look l a).getD z), .bool (look l a).isSome] else ev ((look l a).getD z)) w := by
  obtain ⟨es, clock, hb, hm⟩ := h
  obtain ⟨x, hx⟩ := K.key a ha
  rcases hm.find K w a ha with ⟨h1, h2⟩ | ⟨j, v, e, h1, h2, h3, h4, h5⟩
  · rw [look_none h2]
    simp [Instr.lookup, run_underlying ht, MapKept.run_getObj_map hb, K.law.check w _ hx, h1, hz, Result.andThen]
  · rw [look_at hm.2.2.2.1 h2]
    simp [Instr.lookup, run_underlying ht, MapKept.run_getObj_map hb, K.law.check w _ hx, h1, Result.andThen]

theorem modify_last' {γ : Type} (f : γ → γ) (a : γ) : ∀ l : List γ, (l ++ [a]).modify l.length f = l ++ [f a]
  | [] => rfl
  | x :: l => by simp [modify_last' f a l]
theorem setBlock_keep (w : World) (b : Nat) (o : Obj) : Keep (fun i => i = b) w (setBlock w b o) := by
  refine ⟨rfl, rfl, rfl, by simp [setBlock], fun i hi hne => ?_⟩
  simp only [setBlock]
  rw [Array.getElem?_setIfInBounds_ne (fun e => hne e.symm)]
theorem setBlock_get {w : World} {b : Nat} {o o' : Obj} (h : w.heap[b]? = some o') : (setBlock w b o).heap[b]? = some o := by
  have := (Array.getElem?_eq_some_iff.1 h).1
  simp only [setBlock]
  rw [Array.getElem?_setIfInBounds_self_of_lt this]
theorem setBlock_same {w : World} {b : Nat} {o : Obj} (h : w.heap[b]? = some o) : setBlock w b o = w := by
  have hlt := (Array.getElem?_eq_some_iff.1 h).1
  have : w.heap.setIfInBounds b o = w.heap := by
    apply Array.ext_getElem?
    intro i
    by_cases hi : i = b
    · subst hi; rw [Array.getElem?_setIfInBounds_self_of_lt hlt, h]
    · rw [Array.getElem?_setIfInBounds_ne (fun e => hi e.symm)]
  unfold setBlock
  rw [this]

/-- The stamp of a key's entry. -/
def Stamp (enc : α → Value) (w : World) (b : Nat) (a : α) (st : Nat) : Prop := ∃ es clock e, w.heap[b]? = some (.map es clock) ∧ e ∈ es.toList ∧ e.key = enc a ∧ e.born = st
theorem Stamp.keep {w' : World} {S : Nat → Prop} {a : α} {st : Nat} (h : Stamp enc w b a st) (k : Keep S w w') (hS : ¬ S b) : Stamp enc w' b a st := by
  obtain ⟨es, clock, e, hb, h1, h2, h3⟩ := h
  have hlt : b < w.heap.size := (Array.getElem?_eq_some_iff.1 hb).1
  exact ⟨es, clock, e, by rw [k.block b hlt hS]; exact hb, h1, h2, h3⟩

/-- A key's entry is made ready: its value, or a nought that is laid in. -/
theorem MapIs.entry [DecidableEq α] (h : MapIs ok enc ev w b l) (K : KeyEnc P k ok enc) {t e : TypeId} (ht : P.underlying t = some (.map k e)) {z : β} (hz : (zeroValue e).run P w = .ok (ev z) w) (a : α) (ha : ok a) :
    ∃ (st : Nat) (w' : World), (Instr.mapEntry t (.map (some b)) (enc a)).run P w = .ok (.tuple #[ev ((look l a).getD z), goInt st]) w' ∧ MapIs ok enc ev w' b (upsert l a ((look l a).getD z)) ∧ Keep (fun i => i = b) w w' ∧ Stamp enc w' b a st := by
  obtain ⟨es, clock, hb, hm⟩ := h
  obtain ⟨x, hx⟩ := K.key a ha
  rcases hm.find K w a ha with ⟨h1, h2⟩ | ⟨j, v, e0, h1, h2, h3, h4, h5⟩
  · rw [look_none h2, upsert_none h2]
    refine ⟨clock, setBlock w b (.map (es.push ⟨enc a, ev z, clock⟩) (clock + 1)), ?_, ⟨_, _, setBlock_get hb, ?_, ?_, ?_, ?_, ?_⟩, setBlock_keep _ _ _, ⟨_, _, ⟨enc a, ev z, clock⟩, setBlock_get hb, by simp, rfl, rfl⟩⟩
    · simp [Instr.mapEntry, run_underlying ht, MapKept.run_getObj_map hb, K.law.check w false hx, h1, hz, MapKept.run_setObj_map _ hb, Result.andThen, setBlock]
    · simp [hm.1]
    · simp only [Array.toList_push, List.map_append, List.map_cons, List.map_nil]
      refine List.nodup_append.2 ⟨hm.2.1, by simp, fun p hp c hc e1 => ?_⟩
      simp only [List.mem_singleton] at hc
      obtain ⟨y, hy, rfl⟩ := List.mem_map.1 hp
      have := hm.2.2.1 y hy
      omega
    · intro y hy
      simp only [Array.toList_push, List.mem_append, List.mem_singleton] at hy
      rcases hy with hy | rfl
      · have := hm.2.2.1 y hy; omega
      · exact Nat.lt_succ_self _
    · rw [List.map_append]
      refine List.nodup_append.2 ⟨hm.2.2.2.1, by simp, fun p hp c hc e1 => ?_⟩
      obtain ⟨y, hy, rfl⟩ := List.mem_map.1 hp
      simp at hc
      subst hc
      exact h2 y hy e1
    · intro p hp
      rcases List.mem_append.1 hp with hp | hp
      · exact hm.2.2.2.2 p hp
      · simp at hp; subst hp; exact ha
  · rw [look_at hm.2.2.2.1 h2, Option.getD_some, upsert_at hm.2.2.2.1 h2]
    have hset : l.set j (a, v) = l := by
      apply List.ext_getElem?
      intro i
      rw [List.getElem?_set]
      by_cases hij : j = i
      · subst hij; rw [if_pos rfl, if_pos (List.getElem?_eq_some_iff.1 h2).1, h2]
      · rw [if_neg hij]
    have hj : es[j]? = some e0 := by simpa using h3
    have hsame : es.modify j (fun e => { e with key := enc a }) = es := by
      apply Array.ext'
      rw [Array.toList_modify, modify_eq_set _ _ _ _ h3]
      have : ({ e0 with key := enc a } : MapEntry) = e0 := by rw [← h4]
      rw [this]
      apply List.ext_getElem?
      intro i
      rw [List.getElem?_set]
      by_cases hij : j = i
      · subst hij; rw [if_pos rfl, if_pos (List.getElem?_eq_some_iff.1 h3).1, h3]
      · rw [if_neg hij]
    rw [hset]
    refine ⟨e0.born, w, ?_, ⟨es, clock, hb, hm⟩, Keep.refl _ _, ⟨es, clock, e0, hb, List.mem_of_getElem? h3, h4, rfl⟩⟩
    have hs := setBlock_same hb
    unfold setBlock at hs
    simp [Instr.mapEntry, run_underlying ht, MapKept.run_getObj_map hb, K.law.check w false hx, h1, hj, h4, K.law.stays w hx, hsame, MapKept.run_setObj_map _ hb, Result.andThen, hs]
end
end Go.Proofs.Ytdlegbcdmlmbpaa
