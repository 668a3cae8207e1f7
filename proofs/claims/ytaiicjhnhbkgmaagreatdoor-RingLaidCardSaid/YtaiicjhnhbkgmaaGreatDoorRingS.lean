/-
  Commits laid each in its slot (plain, and in memory).
  Conditions: none.
-/
import Derived.Test.YtaiicjhnhbkgmaaGreatDoorRingR
namespace Go.Proofs.YtaiicjhnhbkgmaaGreatDoor
open Go.RowKit Go.Maps Go.ChangeMaps
set_option maxRecDepth 100000
set_option linter.unusedVariables false


/-- What the slots have, commits f, f + 1, .. laid each in its own. -/
def laidF (f : Int) : Nat → Nat → List UInt8
  | 0, _ => []
  | i + 1, s => if (f + (i : Int)) % 4 = (s : Int) then packU (ofUb (f + (i : Int))) else laidF f i s
theorem laid_char (f : Int) : ∀ (i s : Nat), (laidF f i s = [] ∧ ∀ j : Nat, j < i → (f + (j : Int)) % 4 ≠ (s : Int)) ∨ ∃ j : Nat, j < i ∧ (f + (j : Int)) % 4 = (s : Int) ∧ laidF f i s = packU (ofUb (f + (j : Int))) ∧ i ≤ j + 4
  | 0, s => .inl ⟨rfl, fun j h => absurd h (Nat.not_lt_zero _)⟩
  | i + 1, s => by
    unfold laidF
    by_cases h : (f + (i : Int)) % 4 = (s : Int)
    · rw [if_pos h]
      exact .inr ⟨i, by omega, h, rfl, by omega⟩
    · rw [if_neg h]
      rcases laid_char f i s with ⟨h1, h2⟩ | ⟨j, h1, h2, h3, h4⟩
      · refine .inl ⟨h1, fun j hj => ?_⟩
        rcases Nat.lt_or_ge j i with h3 | h3
        · exact h2 j h3
        · obtain rfl : j = i := by omega
          exact h
      · refine .inr ⟨j, by omega, h2, h3, ?_⟩
        rcases Nat.lt_or_ge (j + 4) (i + 1) with h5 | h5
        · exfalso
          have e : i = j + 4 := by omega
          subst e
          apply h
          omega
        · exact h5
def laidL (f : Int) (i : Nat) : List (List UInt8) := [laidF f i 0, laidF f i 1, laidF f i 2, laidF f i 3]
theorem laidL_get (f : Int) (i s : Nat) (h : s < 4) : (laidL f i)[s]? = some (laidF f i s) := by
  match s, h with
  | 0, _ => rfl
  | 1, _ => rfl
  | 2, _ => rfl
  | 3, _ => rfl
theorem found_nil (pool : List UInt8) (i : Nat) : foundL pool i [] = [] := by
  unfold foundL; rw [if_neg]; rintro ⟨h, -⟩; revert h; decide
theorem laid_found {f : Int} {i s : Nat} (h1 : 1 ≤ f) (h2 : f + (i : Int) ≤ 2147483648) (hs : s < 4) (u : Ub) : u ∈ foundAt (laidL f i) zeros32 s ↔ ∃ j : Nat, j < i ∧ i ≤ j + 4 ∧ (f + (j : Int)) % 4 = (s : Int) ∧ u = ofUb (f + (j : Int)) := by
  unfold foundAt
  rw [laidL_get f i s hs]
  show u ∈ foundL zeros32 s (laidF f i s) ↔ _
  rcases laid_char f i s with ⟨h3, h4⟩ | ⟨j, h3, h4, h5, h6⟩
  · rw [h3, found_nil]
    constructor
    · intro h; cases h
    · rintro ⟨j, hj, -, h, -⟩; exact absurd h (h4 j hj)
  · rw [h5, found_of (by omega) (by omega), if_pos ⟨rfl, by rw [(slot_in (by omega) (by omega)).2]; omega⟩]
    constructor
    · intro h
      exact ⟨j, h3, h6, h4, by simpa using h⟩
    · rintro ⟨j2, a, b, c, rfl⟩
      have e : j2 = j := by omega
      subst e
      exact List.mem_singleton.2 rfl
def lastL (f : Int) (i : Nat) : List Ub := (List.range (min i 4)).map fun (j : Nat) => ofUb (f + (i : Int) - 1 - (j : Int))
theorem laid_best {f : Int} {i : Nat} (h1 : 1 ≤ f) (h2 : f + (i : Int) ≤ 2147483648) : IsBest ((List.range 4).flatMap (foundAt (laidL f i) zeros32)) (lastL f i) := by
  refine ⟨?_, fun u => ?_⟩
  · unfold lastL
    rw [List.pairwise_map]
    refine List.Pairwise.imp ?_ (List.pairwise_lt_range)
    intro a b hab
    rw [ltU_iff]
    exact .inl (by show f + (i : Int) - 1 - (b : Int) < f + (i : Int) - 1 - (a : Int); omega)
  · unfold lastL
    rw [List.mem_map, List.mem_flatMap]
    constructor
    · rintro ⟨j, hj, rfl⟩
      rw [List.mem_range] at hj
      have hj1 : j < i ∧ j < 4 := by omega
      obtain ⟨s, hs⟩ : ∃ s : Nat, (f + (i : Int) - 1 - (j : Int)) % 4 = (s : Int) := ⟨((f + (i : Int) - 1 - (j : Int)) % 4).toNat, by omega⟩
      refine ⟨⟨s, List.mem_range.2 (by omega), (laid_found h1 h2 (by omega) _).2 ⟨i - 1 - j, by omega, by omega, ?_, ?_⟩⟩, may_of (by omega) (by omega)⟩
      · rw [← hs]; congr 1; omega
      · congr 1; omega
    · rintro ⟨⟨s, hs, hu⟩, -⟩
      rw [List.mem_range] at hs
      obtain ⟨j, a, b, c, rfl⟩ := (laid_found h1 h2 hs u).1 hu
      exact ⟨i - 1 - j, List.mem_range.2 (by omega), by congr 1; omega⟩
def hasF (f : Int) : Nat → Nat → Bool
  | 0, _ => false
  | i + 1, s => decide ((f + (i : Int)) % 4 = (s : Int)) || hasF f i s
theorem used_laid {f : Int} (h1 : 1 ≤ f) : ∀ (i : Nat), f + (i : Int) ≤ 2147483648 → ∀ s, usedB (laidF f i s) = hasF f i s
  | 0, _, s => rfl
  | i + 1, h2, s => by
    unfold laidF hasF
    by_cases h : (f + (i : Int)) % 4 = (s : Int)
    · rw [if_pos h, decide_eq_true h, usedB_of (by omega) (by omega)]; rfl
    · rw [if_neg h, decide_eq_false h, used_laid h1 i (by omega) s]; rfl
theorem has_all (f : Int) : ∀ (i s : Nat), 4 ≤ i → s < 4 → hasF f i s = true
  | i + 1, s, h, hs => by
    unfold hasF
    rcases Nat.lt_or_ge 3 i with h3 | h3
    · rw [has_all f i s (by omega) hs, Bool.or_true]
    · obtain rfl : i = 3 := by omega
      show (decide ((f + 3) % 4 = (s : Int)) || (decide ((f + 2) % 4 = (s : Int)) || (decide ((f + 1) % 4 = (s : Int)) || (decide ((f + 0) % 4 = (s : Int)) || false)))) = true
      simp only [Bool.or_eq_true, decide_eq_true_eq, Bool.false_eq_true, or_false]
      omega
theorem has_count (f : Int) (i : Nat) : (if hasF f i 0 = true then 1 else 0) + ((if hasF f i 1 = true then 1 else 0) + ((if hasF f i 2 = true then 1 else 0) + (if hasF f i 3 = true then 1 else 0))) = min i 4 := by
  rcases Nat.lt_or_ge i 4 with h | h
  · have hr : f % 4 = 0 ∨ f % 4 = 1 ∨ f % 4 = 2 ∨ f % 4 = 3 := by omega
    have e : i = 0 ∨ i = 1 ∨ i = 2 ∨ i = 3 := by omega
    rcases e with rfl | rfl | rfl | rfl
    · rfl
    all_goals
      rcases hr with hr | hr | hr | hr
      all_goals
        simp only [hasF, Bool.or_false, Bool.or_eq_true, decide_eq_true_eq]
        have a0 := hr
        repeat' split
        all_goals omega
  · rw [has_all f i 0 h (by decide), has_all f i 1 h (by decide), has_all f i 2 h (by decide), has_all f i 3 h (by decide)]
    simp only [if_true]; omega
theorem usedN_four (a b c d : List UInt8) : usedN [a, b, c, d] = (if usedB a = true then 1 else 0) + ((if usedB b = true then 1 else 0) + ((if usedB c = true then 1 else 0) + (if usedB d = true then 1 else 0))) := by
  unfold usedN
  simp only [List.filter_cons, List.filter_nil]
  cases usedB a <;> cases usedB b <;> cases usedB c <;> cases usedB d <;> rfl
theorem usedN_laid {f : Int} {i : Nat} (h1 : 1 ≤ f) (h2 : f + (i : Int) ≤ 2147483648) : usedN (laidL f i) = min i 4 := by
  unfold laidL
  rw [usedN_four, used_laid h1 i h2, used_laid h1 i h2, used_laid h1 i h2, used_laid h1 i h2, has_count]
theorem laidF_len (f : Int) : ∀ (i s : Nat), (laidF f i s).length ≤ 256
  | 0, _ => Nat.zero_le _
  | i + 1, s => by
    unfold laidF
    split
    · exact len_of _
    · exact laidF_len f i s
theorem laidL_len (f : Int) (i : Nat) : ∀ L ∈ laidL f i, L.length ≤ 600 := fun L hL => by
  have h0 := laidF_len f i 0; have h1 := laidF_len f i 1; have h2 := laidF_len f i 2; have h3 := laidF_len f i 3
  unfold laidL at hL
  simp only [List.mem_cons, List.not_mem_nil, or_false] at hL
  rcases hL with rfl | rfl | rfl | rfl <;> omega
def strayL (t : Int) (p : Nat) : List (List UInt8) := ([[], [], [], []] : List (List UInt8)).set p (packU (ofUb t))
theorem stray_found {t : Int} {p : Nat} (h1 : 1 ≤ t) (h2 : t ≤ 2147483648) (hp : p < 4) (hne : t % 4 ≠ (p : Int)) : foundA (strayL t p) zeros32 = ([], 0) := by
  have hw : foundL zeros32 p (packU (ofUb t)) = [] := (found_of h1 h2 _ _).trans (if_neg (by rintro ⟨-, h⟩; rw [(slot_in h1 h2).2] at h; omega))
  have hz : ∀ s, s < 4 → foundAt (strayL t p) zeros32 s = [] := fun s hs => by
    unfold foundAt strayL
    rw [List.getElem?_set]
    by_cases e : p = s
    · subst e
      rw [if_pos rfl, if_pos (by simpa using hp)]
      exact hw
    · rw [if_neg e]
      match s, hs with
      | 0, _ => exact found_nil _ _
      | 1, _ => exact found_nil _ _
      | 2, _ => exact found_nil _ _
      | 3, _ => exact found_nil _ _
  unfold foundA
  rw [if_pos (by unfold strayL; simp), flat4, hz 0 (by decide), hz 1 (by decide), hz 2 (by decide), hz 3 (by decide)]; rfl
theorem stray_len (t : Int) (p : Nat) : ∀ L ∈ strayL t p, L.length ≤ 65536 := fun L hL => by
  rcases List.mem_or_eq_of_mem_set hL with h | h
  · simp only [List.mem_cons, List.not_mem_nil, or_false, or_self] at h
    subst h; exact Nat.zero_le _
  · rw [h]; have := len_of t; omega
/-! ### Slots in memory -/
structure SlotsIs (w : World) (sb : Nat) (hs : List (List UInt8)) (vs : List Value) : Prop where
  len : vs.length = 4
  blk : w.heap[sb]? = some (.cells vs.toArray 51 (0, 0))
  at_ : ∀ (s : Nat) (L : List UInt8), hs[s]? = some L → ∃ a n c, vs[s]? = some (.slice a n c) ∧ Rd w 1 (.slice a n c) L.length (L.map vb)
  all : hs.length = 4
theorem SlotsIs.rows {w : World} {sb : Nat} {hs : List (List UInt8)} {vs : List Value} (h : SlotsIs w sb hs vs) : RowsB w (.slice (some ⟨sb, 0, none⟩) 4 4) hs :=
  rows_of_cells h.blk h.len (by decide) h.all fun i L hi => by obtain ⟨a, n, c, h1, h2⟩ := h.at_ i L hi; exact ⟨_, h1, h2⟩
theorem SlotsIs.keep {w w' : World} {sb : Nat} {hs : List (List UInt8)} {vs : List Value} (h : SlotsIs w sb hs vs) (k : Keep noBlk w w') : SlotsIs w' sb hs vs :=
  ⟨h.len, k.blk h.blk id, fun s L hL => by obtain ⟨a, n, c, h1, h2⟩ := h.at_ s L hL; exact ⟨a, n, c, h1, h2.keep k fun _ _ => id⟩, h.all⟩
theorem SlotsIs.set {w : World} {sb s n c : Nat} {a : Option Addr} {hs : List (List UInt8)} {vs : List Value} {L : List UInt8} (h : SlotsIs w sb hs vs) (hs4 : s < 4) (hr : Rd w 1 (.slice a n c) L.length (L.map vb)) :
    SlotsIs (w.setCell ⟨sb, s, none⟩ (.slice a n c)) sb (hs.set s L) (vs.set s (.slice a n c)) := by
  obtain ⟨u0, hu0⟩ : ∃ u, vs[s]? = some u := ⟨vs[s]'(by rw [h.len]; exact hs4), List.getElem?_eq_getElem _⟩
  obtain ⟨L0, hL0⟩ : ∃ L, hs[s]? = some L := ⟨hs[s]'(by rw [h.all]; exact hs4), List.getElem?_eq_getElem _⟩
  obtain ⟨a0, n0, c0, h1, -⟩ := h.at_ s L0 hL0
  have hold : w.cell? ⟨sb, s, none⟩ = some (.slice a0 n0 c0) := blk_cell h.blk (by rw [List.getElem?_toArray]; exact h1)
  have hne : ∀ l : List UInt8, Value.slice a0 n0 c0 ∉ l.map vb := fun l hm => by
    obtain ⟨b, -, hb⟩ := List.mem_map.1 hm
    cases hb
  refine ⟨by rw [List.length_set]; exact h.len, ?_, fun i M hM => ?_, by rw [List.length_set]; exact h.all⟩
  · have := set_blk h.blk s (.slice a n c)
    rw [this, List.setIfInBounds_toArray]
  · rw [List.getElem?_set] at hM ⊢
    by_cases e : s = i
    · subst e
      rw [if_pos rfl, if_pos (by rw [h.all]; exact hs4)] at hM
      cases hM
      rw [if_pos rfl, if_pos (by rw [h.len]; exact hs4)]
      exact ⟨a, n, c, rfl, hr.setCell hold (hne _) _⟩
    · rw [if_neg e] at hM ⊢
      obtain ⟨a1, n1, c1, h2, h3⟩ := h.at_ i M hM
      exact ⟨a1, n1, c1, h2, h3.setCell hold (hne _) _⟩
theorem laidL_step (f : Int) (i s : Nat) (hs : (f + (i : Int)) % 4 = (s : Int)) (h4 : s < 4) : (laidL f i).set s (packU (ofUb (f + (i : Int)))) = laidL f (i + 1) := by
  unfold laidL
  match s, h4, hs with
  | 0, _, hs => simp only [laidF]; rw [if_pos hs, if_neg (by omega), if_neg (by omega), if_neg (by omega)]; rfl
  | 1, _, hs => simp only [laidF]; rw [if_neg (by omega), if_pos hs, if_neg (by omega), if_neg (by omega)]; rfl
  | 2, _, hs => simp only [laidF]; rw [if_neg (by omega), if_neg (by omega), if_pos hs, if_neg (by omega)]; rfl
  | 3, _, hs => simp only [laidF]; rw [if_neg (by omega), if_neg (by omega), if_neg (by omega), if_pos hs]; rfl
theorem slots_nil {w : World} {sb : Nat} (h : w.heap[sb]? = some (.cells #[.slice none 0 0, .slice none 0 0, .slice none 0 0, .slice none 0 0] 51 (0, 0))) : SlotsIs w sb [[], [], [], []] [.slice none 0 0, .slice none 0 0, .slice none 0 0, .slice none 0 0] :=
  ⟨rfl, h, fun s L hL => by
    match s, hL with
    | 0, hL => cases hL; exact ⟨none, 0, 0, rfl, Rd.nil _ _⟩
    | 1, hL => cases hL; exact ⟨none, 0, 0, rfl, Rd.nil _ _⟩
    | 2, hL => cases hL; exact ⟨none, 0, 0, rfl, Rd.nil _ _⟩
    | 3, hL => cases hL; exact ⟨none, 0, 0, rfl, Rd.nil _ _⟩
    | s + 4, hL => simp at hL, rfl⟩


end Go.Proofs.YtaiicjhnhbkgmaaGreatDoor
