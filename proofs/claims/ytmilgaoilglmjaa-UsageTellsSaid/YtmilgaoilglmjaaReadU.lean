/-
  The ledger of holders, in plain Lean and in memory.
  Conditions: at most 64 holders.
-/
import Derived.Test.YtmilgaoilglmjaaBitsV
import Derived.Test.YtmilgaoilglmjaaApartAddr
import Derived.Test.YtmilgaoilglmjaaMapGo
namespace Go.Proofs.Ytmilgaoilglmjaa
open Go.RowKit Go.Maps Go.ChangeMaps
set_option maxRecDepth 100000
set_option linter.unusedVariables false

/-- Holders: rows of addresses, each in memory of its own. -/
structure Rows2 (w : World) (v : Value) (hs : List (List Ad)) : Prop where
  rows : ∃ vs : List Value, Rd w 1 v hs.length vs ∧ ∀ (i : Nat) (L : List Ad), hs[i]? = some L → ∃ u, vs[i]? = some u ∧ Rd w 2 u L.length (adCells L)
theorem Rows2.keep {w w' : World} {v : Value} {hs : List (List Ad)} (h : Rows2 w v hs) (k : Keep noBlk w w') : Rows2 w' v hs := by
  obtain ⟨vs, h1, h2⟩ := h.rows
  refine ⟨vs, h1.keep k fun _ _ => id, fun i L hi => ?_⟩
  obtain ⟨u, h3, h4⟩ := h2 i L hi
  exact ⟨u, h3, h4.keep k fun _ _ => id⟩
theorem Rows2.at {w : World} {v : Value} {hs : List (List Ad)} (h : Rows2 w v hs) {i : Nat} {L : List Ad} (hi : hs[i]? = some L) :
    ∃ g o cap a c, v = .slice (some ⟨g, o, none⟩) hs.length cap ∧ w.cell? ⟨g, o + i, none⟩ = some (.slice a L.length c) ∧ Rd w 2 (.slice a L.length c) L.length (adCells L) := by
  obtain ⟨vs, h1, h2⟩ := h.rows
  obtain ⟨u, h3, h4⟩ := h2 i L hi
  obtain ⟨a, c, rfl, -, -⟩ := h4.form
  obtain ⟨h0, b, cap, rfl, -, -, -, h5⟩ := h1
  obtain ⟨g, o, rfl, hc⟩ := h5 (by have := (List.getElem?_eq_some_iff.1 h3).1; omega)
  exact ⟨g, o, cap, a, c, rfl, hc i _ h3, h4⟩
theorem Rows2.form {w : World} {v : Value} {hs : List (List Ad)} (h : Rows2 w v hs) : ∃ a c, v = .slice a hs.length c ∧ hs.length ≤ maxLen := by
  obtain ⟨vs, h1, h2⟩ := h.rows
  obtain ⟨_, a, c, rfl, h3, h4, -⟩ := h1
  exact ⟨a, c, rfl, by omega⟩

/-- Who holds an address, as a word. -/
def hw (hs : List (List Ad)) (a : Ad) : BitVec 64 := wordOf hs.length (((List.range hs.length).filter fun i => decide (a ∈ hs.getD i [])).map fun (i : Nat) => (i : Int))
theorem hw_bit (hs : List (List Ad)) (h64 : hs.length ≤ 64) (a : Ad) (j : Nat) (hj : j < 64) : (hw hs a).getLsbD j = true ↔ ∃ L, hs[j]? = some L ∧ a ∈ L := by
  unfold hw
  rw [wordOf_bit _ h64 _ _ hj]
  constructor
  · rintro ⟨h1, h2⟩
    obtain ⟨i, hi, he⟩ := List.mem_map.1 h2
    obtain ⟨h3, h4⟩ := List.mem_filter.1 hi
    have e : i = j := by omega
    subst e
    have hg : hs[i]? = some (hs[i]'h1) := List.getElem?_eq_getElem h1
    refine ⟨_, hg, ?_⟩
    have := of_decide_eq_true h4
    rwa [List.getD_eq_getElem?_getD, hg] at this
  · rintro ⟨L, hL, ha⟩
    have hlt := (List.getElem?_eq_some_iff.1 hL).1
    refine ⟨hlt, List.mem_map.2 ⟨j, List.mem_filter.2 ⟨List.mem_range.2 hlt, decide_eq_true ?_⟩, rfl⟩⟩
    rw [List.getD_eq_getElem?_getD, hL]
    exact ha
theorem hw_ext {hs hs' : List (List Ad)} (h : hs.length ≤ 64) (h' : hs'.length ≤ 64) {a : Ad} (he : ∀ j : Nat, (∃ L : List Ad, hs[j]? = some L ∧ a ∈ L) ↔ ∃ L : List Ad, hs'[j]? = some L ∧ a ∈ L) : hw hs a = hw hs' a := by
  apply BitVec.eq_of_getLsbD_eq
  intro j hj
  rw [Bool.eq_iff_iff, hw_bit _ h _ _ hj, hw_bit _ h' _ _ hj]
  exact he j
/-- What was gone through: some holders whole, of the next one a part. -/
def upTo (hs : List (List Ad)) (i : Nat) (L : List Ad) : List (List Ad) := hs.take i ++ [L]
theorem upTo_at (hs : List (List Ad)) (i : Nat) (hi : i < hs.length) (L : List Ad) (j : Nat) : (upTo hs i L)[j]? = if j < i then hs[j]? else if j = i then some L else none := by
  unfold upTo
  have hl : (hs.take i).length = i := by rw [List.length_take]; omega
  by_cases h1 : j < i
  · rw [if_pos h1, List.getElem?_append_left (by omega), List.getElem?_take, if_pos h1]
  · rw [if_neg h1, List.getElem?_append_right (by omega), hl]
    by_cases h2 : j = i
    · subst h2; simp
    · rw [if_neg h2, List.getElem?_eq_none (by simp; omega)]
theorem upTo_len (hs : List (List Ad)) (i : Nat) (hi : i < hs.length) (L : List Ad) : (upTo hs i L).length = i + 1 := by
  unfold upTo
  rw [List.length_append, List.length_take]
  simp
  omega
theorem hw_step {hs : List (List Ad)} (h64 : hs.length ≤ 64) {i : Nat} (hi : i < hs.length) (L : List Ad) (x : Ad) : hw (upTo hs i (L ++ [x])) x = hw (upTo hs i L) x ||| BitVec.twoPow 64 i := by
  apply BitVec.eq_of_getLsbD_eq
  intro j hj
  rw [set_bit _ _ _ (by omega), Bool.eq_iff_iff, Bool.or_eq_true, decide_eq_true_iff, hw_bit _ (by rw [upTo_len hs i hi]; omega) _ _ hj, hw_bit _ (by rw [upTo_len hs i hi]; omega) _ _ hj, upTo_at hs i hi, upTo_at hs i hi]
  by_cases h1 : j < i
  · rw [if_pos h1, if_pos h1]
    exact ⟨.inl, fun h => h.resolve_right (by omega)⟩
  · rw [if_neg h1, if_neg h1]
    by_cases h2 : j = i
    · subst h2
      rw [if_pos rfl, if_pos rfl]
      exact ⟨fun _ => .inr rfl, fun _ => ⟨_, rfl, by simp⟩⟩
    · rw [if_neg h2, if_neg h2]
      constructor
      · rintro ⟨L, h, -⟩; cases h
      · rintro (⟨L, h, -⟩ | h)
        · cases h
        · exact absurd h.symm h2
theorem hw_other {hs : List (List Ad)} (h64 : hs.length ≤ 64) {i : Nat} (hi : i < hs.length) (L : List Ad) {x a : Ad} (hne : a ≠ x) : hw (upTo hs i (L ++ [x])) a = hw (upTo hs i L) a := by
  refine hw_ext (by rw [upTo_len hs i hi]; omega) (by rw [upTo_len hs i hi]; omega) fun j => ?_
  rw [upTo_at hs i hi, upTo_at hs i hi]
  by_cases h1 : j < i
  · rw [if_pos h1, if_pos h1]
  · rw [if_neg h1, if_neg h1]
    by_cases h2 : j = i
    · rw [if_pos h2, if_pos h2]
      simp [hne]
    · rw [if_neg h2, if_neg h2]
theorem hw_next {hs : List (List Ad)} (h64 : hs.length ≤ 64) {i : Nat} {L : List Ad} (hL : hs[i]? = some L) (a : Ad) : hw (upTo hs i L) a = hw (hs.take (i + 1)) a := by
  have : upTo hs i L = hs.take (i + 1) := by rw [List.take_add_one, hL]; rfl
  rw [this]
theorem hw_begin {hs : List (List Ad)} (h64 : hs.length ≤ 64) {i : Nat} (hi : i < hs.length) (a : Ad) : hw (upTo hs i []) a = hw (hs.take i) a := by
  refine hw_ext (by rw [upTo_len hs i hi]; omega) (by rw [List.length_take]; omega) fun j => ?_
  rw [upTo_at hs i hi, List.getElem?_take]
  by_cases h1 : j < i
  · rw [if_pos h1, if_pos h1]
  · rw [if_neg h1, if_neg h1]
    by_cases h2 : j = i
    · rw [if_pos h2]; simp
    · rw [if_neg h2]

/-- A word's slice as a map's value. -/
def bV : Option Nat → Value
  | none => .slice none 0 0
  | some g => .slice (some ⟨g, 0, none⟩) 1 1
/-- A ledger in memory: of each address a word of its own. -/
structure Led (w : World) (b base : Nat) (lst : List (Ad × Option Nat)) (f : Ad → BitVec 64) : Prop where
  map : MapIs AdOk adV bV w b lst
  word : ∀ p ∈ lst, ∃ g, p.2 = some g ∧ Bt w g (f p.1) ∧ base ≤ g ∧ g ≠ b
  apart : (lst.map (·.2)).Nodup
theorem Led.keep {w w' : World} {b base : Nat} {lst : List (Ad × Option Nat)} {f : Ad → BitVec 64} (h : Led w b base lst f) (k : Keep noBlk w w') : Led w' b base lst f :=
  ⟨h.map.keep k id, fun p hp => by obtain ⟨g, h1, h2, h3⟩ := h.word p hp; exact ⟨g, h1, k.blk h2 id, h3⟩, h.apart⟩
theorem Led.congr {w : World} {b base : Nat} {lst : List (Ad × Option Nat)} {f f' : Ad → BitVec 64} (h : Led w b base lst f) (he : ∀ a, f a = f' a) : Led w b base lst f' :=
  ⟨h.map, fun p hp => by rw [← he]; exact h.word p hp, h.apart⟩
theorem look_some {α β : Type} [DecidableEq α] {l : List (α × β)} {a : α} {v : β} (h : look l a = some v) : (a, v) ∈ l := by
  unfold look at h
  obtain ⟨p, hp, rfl⟩ := Option.map_eq_some_iff.1 h
  have h1 := List.find?_some hp
  have h2 := List.mem_of_find?_eq_some hp
  have : p.1 = a := by simpa using h1
  subst this
  exact h2
theorem look_nn {α β : Type} [DecidableEq α] {l : List (α × β)} {a : α} (h : look l a = none) : ∀ p ∈ l, p.1 ≠ a := by
  unfold look at h
  rw [Option.map_eq_none_iff, List.find?_eq_none] at h
  intro p hp e
  have := h p hp
  simp [e] at this
theorem key_unique {α β : Type} {l : List (α × β)} (h : (l.map (·.1)).Nodup) {p q : α × β} (hp : p ∈ l) (hq : q ∈ l) (e : p.1 = q.1) : p = q := by
  obtain ⟨i, hi⟩ := List.getElem?_of_mem hp
  obtain ⟨j, hj⟩ := List.getElem?_of_mem hq
  have h1 : (l.map (·.1))[i]? = some p.1 := by rw [List.getElem?_map, hi]; rfl
  have h2 : (l.map (·.1))[j]? = some p.1 := by rw [List.getElem?_map, hj, e]; rfl
  obtain ⟨il, e1⟩ := List.getElem?_eq_some_iff.1 h1
  obtain ⟨jl, e2⟩ := List.getElem?_eq_some_iff.1 h2
  have hp := List.pairwise_iff_getElem.1 h
  rcases Nat.lt_trichotomy i j with g | g | g
  · exact absurd (e1.trans e2.symm) (hp i j il jl g)
  · subst g; rw [hi] at hj; exact Option.some.inj hj
  · exact absurd (e2.trans e1.symm) (hp j i jl il g)
theorem val_unique {α β : Type} {l : List (α × β)} (h : (l.map (·.2)).Nodup) {p q : α × β} (hp : p ∈ l) (hq : q ∈ l) (e : p.2 = q.2) : p = q := by
  obtain ⟨i, hi⟩ := List.getElem?_of_mem hp
  obtain ⟨j, hj⟩ := List.getElem?_of_mem hq
  have h1 : (l.map (·.2))[i]? = some p.2 := by rw [List.getElem?_map, hi]; rfl
  have h2 : (l.map (·.2))[j]? = some p.2 := by rw [List.getElem?_map, hj, e]; rfl
  obtain ⟨il, e1⟩ := List.getElem?_eq_some_iff.1 h1
  obtain ⟨jl, e2⟩ := List.getElem?_eq_some_iff.1 h2
  have hp := List.pairwise_iff_getElem.1 h
  rcases Nat.lt_trichotomy i j with g | g | g
  · exact absurd (e1.trans e2.symm) (hp i j il jl g)
  · subst g; rw [hi] at hj; exact Option.some.inj hj
  · exact absurd (e2.trans e1.symm) (hp j i jl il g)
/-- A word is turned: the ledger's own. -/
theorem Led.turn {w w' : World} {b base : Nat} {lst : List (Ad × Option Nat)} {f f' : Ad → BitVec 64} (h : Led w b base lst f) {x : Ad} {g : Nat} (hx : (x, some g) ∈ lst) (hb : Bt w' g (f' x)) (k : Keep (fun j => j = g) w w') (ho : ∀ a, a ≠ x → f' a = f a) (hbg : b ≠ g) : Led w' b base lst f' := by
  have hkeys : (lst.map (·.1)).Nodup := by obtain ⟨es, clock, -, hm⟩ := h.map; exact hm.2.2.2.1
  refine ⟨h.map.keep k hbg, fun p hp => ?_, h.apart⟩
  obtain ⟨g', h1, h2, h3⟩ := h.word p hp
  by_cases e : p.1 = x
  · have : p = (x, some g) := key_unique hkeys hp hx e
    subst this
    cases h1
    exact ⟨g, rfl, hb, h3⟩
  · refine ⟨g', h1, ?_, h3⟩
    rw [ho _ e]
    refine k.blk h2 fun e' => e ?_
    subst e'
    rw [val_unique h.apart hp hx h1]
/-- A new address, its word nought. -/
theorem Led.add {w w' : World} {b base : Nat} {lst : List (Ad × Option Nat)} {f : Ad → BitVec 64} (h : Led w b base lst f) {x : Ad} {g : Nat} (hn : ∀ p ∈ lst, p.1 ≠ x) (hm : MapIs AdOk adV bV w' b (upsert lst x (some g))) (hb : Bt w g (f x)) (k : Keep (fun j => j = b) w w') (hg : base ≤ g) (hgb : g ≠ b) (hnew : ∀ p ∈ lst, p.2 ≠ some g) : Led w' b base (upsert lst x (some g)) f := by
  have e := upsert_none hn (some g)
  rw [e] at hm ⊢
  refine ⟨hm, fun p hp => ?_, ?_⟩
  · rcases List.mem_append.1 hp with hp | hp
    · obtain ⟨g', h1, h2, h3, h4⟩ := h.word p hp
      exact ⟨g', h1, k.blk h2 h4, h3, h4⟩
    · obtain rfl := List.mem_singleton.1 hp
      exact ⟨g, rfl, k.blk hb hgb, hg, hgb⟩
  · rw [List.map_append, List.nodup_append]
    refine ⟨h.apart, by simp, fun a ha c hc e => ?_⟩
    simp only [List.map_cons, List.map_nil, List.mem_singleton] at hc
    subst hc
    subst e
    obtain ⟨p, hp, he⟩ := List.mem_map.1 ha
    exact hnew p hp he
theorem keys_upsert {β : Type} (l : List (Ad × β)) (a x : Ad) (v : β) : x ∈ (upsert l a v).map (·.1) ↔ x ∈ l.map (·.1) ∨ x = a := by
  unfold upsert
  split
  · rename_i h
    have hk : (l.map fun p => if p.1 = a then (a, v) else p).map (·.1) = l.map (·.1) := by
      rw [List.map_map]
      apply List.map_congr_left
      intro p _
      simp only [Function.comp]
      split
      · rename_i e; exact e.symm
      · rfl
    rw [hk]
    constructor
    · exact fun h => .inl h
    · rintro (h' | rfl)
      · exact h'
      · obtain ⟨p, hp, he⟩ := List.any_eq_true.1 h
        exact List.mem_map.2 ⟨p, hp, of_decide_eq_true he⟩
  · simp

end Go.Proofs.Ytmilgaoilglmjaa
