/-
  A heap kept in a list (container/heap's down, Init and the taking of the first): what it computes, and that what is taken rises (plain laws).
  Conditions: none; no program is in sight.
-/
import Derived.Test.YtaiicjhnhbkgmaaGreatDoorUbP
import Derived.Lib.BytesEntry
namespace Go.Proofs.YtaiicjhnhbkgmaaGreatDoor
set_option linter.unusedVariables false

theorem less_irr {α : Type} (less : α → α → Bool) (has : ∀ x y, less x y = true → less y x = false) (x : α) : less x x = false := by
  cases h : less x x
  · rfl
  · have := has x x h; rw [h] at this; cases this
section
variable {α : Type} [Inhabited α]
abbrev gD (q : List α) (i : Nat) : α := q.getD i default
def swapL (q : List α) (i j : Nat) : List α := (q.set i (gD q j)).set j (gD q i)
theorem swapL_len (q : List α) (i j : Nat) : (swapL q i j).length = q.length := by simp [swapL]
theorem gD_some {q : List α} {i : Nat} {x : α} (h : q[i]? = some x) : gD q i = x := by rw [gD, List.getD_eq_getElem?_getD, h]; rfl
theorem gD_get {q : List α} {i : Nat} (h : i < q.length) : q[i]? = some (gD q i) := by rw [gD, List.getD_eq_getElem?_getD, List.getElem?_eq_getElem h]; rfl
theorem swapL_get? {q : List α} {i j : Nat} (hi : i < q.length) (hj : j < q.length) (k : Nat) : (swapL q i j)[k]? = if k = j then some (gD q i) else if k = i then some (gD q j) else q[k]? := by
  unfold swapL
  rw [List.getElem?_set, List.getElem?_set]
  simp only [List.length_set]
  by_cases h1 : k = j
  · subst h1
    rw [if_pos rfl, if_pos rfl, if_pos hj]
  · rw [if_neg (show ¬ j = k from fun h => h1 h.symm), if_neg h1]
    by_cases h2 : k = i
    · subst h2
      rw [if_pos rfl, if_pos rfl, if_pos hi]
    · rw [if_neg (show ¬ i = k from fun h => h2 h.symm), if_neg h2]
theorem swapL_get {q : List α} {i j : Nat} (hi : i < q.length) (hj : j < q.length) (k : Nat) : gD (swapL q i j) k = if k = j then gD q i else if k = i then gD q j else gD q k := by
  rw [gD, List.getD_eq_getElem?_getD, swapL_get? hi hj]
  by_cases h1 : k = j
  · rw [if_pos h1, if_pos h1]; rfl
  · rw [if_neg h1, if_neg h1]
    by_cases h2 : k = i
    · rw [if_pos h2, if_pos h2]; rfl
    · rw [if_neg h2, if_neg h2, gD, List.getD_eq_getElem?_getD]
theorem swapL_perm {q : List α} {i j : Nat} (hi : i < q.length) (hj : j < q.length) : (swapL q i j).Perm q := by
  have h : swapL q i j = (q.toArray.swap i j (by simpa using hi) (by simpa using hj)).toList := by
    apply List.ext_getElem?
    intro k
    have e := Array.getElem?_swap (xs := q.toArray) (i := i) (j := j) (by simpa using hi) (by simpa using hj) (k := k)
    have e2 : (q.toArray.swap i j (by simpa using hi) (by simpa using hj)).toList[k]? = (q.toArray.swap i j (by simpa using hi) (by simpa using hj))[k]? := Array.getElem?_toList
    rw [e2, e, swapL_get? hi hj]
    by_cases h1 : k = j
    · subst h1
      rw [if_pos rfl, if_pos rfl]
      simp [gD, hi]
    · rw [if_neg h1, if_neg (show ¬ j = k from fun h => h1 h.symm)]
      by_cases h2 : k = i
      · subst h2
        rw [if_pos rfl, if_pos rfl]
        simp [gD, hj]
      · rw [if_neg h2, if_neg (show ¬ i = k from fun h => h2 h.symm)]
        simp
  rw [h]
  exact Array.perm_iff_toList_perm.1 (Array.swap_perm _ _)

variable (less : α → α → Bool)
/-- The lesser child. -/
def kidF (q : List α) (j n : Nat) : Nat := if (decide (j + 1 < n) && less (gD q (j + 1)) (gD q j)) = true then j + 1 else j
def downF : Nat → List α → Nat → Nat → List α × Nat
  | 0, q, i, n => (q, i)
  | f + 1, q, i, n => if 2 * i + 1 < n then (if less (gD q (kidF less q (2 * i + 1) n)) (gD q i) = true then downF f (swapL q i (kidF less q (2 * i + 1) n)) (kidF less q (2 * i + 1) n) n else (q, i)) else (q, i)
theorem kidF_le (q : List α) (j n : Nat) (h : j < n) : j ≤ kidF less q j n ∧ kidF less q j n ≤ j + 1 ∧ kidF less q j n < n := by
  unfold kidF
  split
  · rename_i h'
    simp only [Bool.and_eq_true, decide_eq_true_eq] at h'
    omega
  · omega
/-- Parents from k on are not behind their children. -/
def HeapL (q : List α) (n k : Nat) : Prop := ∀ j, 1 ≤ j → j < n → k ≤ (j - 1) / 2 → less (gD q j) (gD q ((j - 1) / 2)) = false
/-- .. but for i, whose children are not ahead of its parent. -/
def HoleL (q : List α) (n k i : Nat) : Prop := (∀ j, 1 ≤ j → j < n → k ≤ (j - 1) / 2 → (j - 1) / 2 ≠ i → less (gD q j) (gD q ((j - 1) / 2)) = false) ∧
  ∀ j, 1 ≤ j → j < n → (j - 1) / 2 = i → 1 ≤ i → k ≤ (i - 1) / 2 → less (gD q j) (gD q ((i - 1) / 2)) = false
theorem downF_perm : ∀ (f : Nat) (q : List α) (i n : Nat), n ≤ q.length → (downF less f q i n).1.Perm q
  | 0, q, i, n, _ => List.Perm.refl _
  | f + 1, q, i, n, h => by
    unfold downF
    split
    · rename_i h1
      have hk := kidF_le less q (2 * i + 1) n h1
      split
      · exact (downF_perm f _ _ n (by rw [swapL_len]; exact h)).trans (swapL_perm (by omega) (by omega))
      · exact List.Perm.refl _
    · exact List.Perm.refl _
variable (htr : ∀ x y z, less y x = false → less z y = false → less z x = false) (has : ∀ x y, less x y = true → less y x = false)
include has in
theorem kid_min (q : List α) (i n c : Nat) (hc : c < n) (h1 : 1 ≤ c) (hp : (c - 1) / 2 = i) : less (gD q c) (gD q (kidF less q (2 * i + 1) n)) = false := by
  have hcc : c = 2 * i + 1 ∨ c = 2 * i + 2 := by omega
  unfold kidF
  split
  · rename_i h'
    simp only [Bool.and_eq_true, decide_eq_true_eq] at h'
    rcases hcc with rfl | rfl
    · exact has _ _ h'.2
    · exact less_irr less has _
  · rename_i h'
    simp only [Bool.and_eq_true, decide_eq_true_eq, not_and, Bool.not_eq_true] at h'
    rcases hcc with rfl | rfl
    · exact less_irr less has _
    · exact h' (by omega)
include htr has in
theorem downF_heap : ∀ (f : Nat) (q : List α) (i n k : Nat), n - i ≤ f → n ≤ q.length → k ≤ i → HoleL less q n k i → HeapL less (downF less f q i n).1 n k
  | 0, q, i, n, k, hf, hl, hk, hh => fun j h1 h2 h3 => hh.1 j h1 h2 h3 (by omega)
  | f + 1, q, i, n, k, hf, hl, hk, hh => by
    unfold downF
    split
    · rename_i h1
      have hkl := kidF_le less q (2 * i + 1) n h1
      have hmin := fun c hc h1 hp => kid_min less has q i n c hc h1 hp
      generalize kidF less q (2 * i + 1) n = j at *
      split
      · rename_i h2
        have hg := fun c => swapL_get (q := q) (i := i) (j := j) (by omega) (by omega) c
        refine downF_heap f _ j n k (by omega) (by rw [swapL_len]; exact hl) (by omega) ⟨fun c c1 c2 c3 c4 => ?_, fun c c1 c2 c3 c4 c5 => ?_⟩
        · rw [hg, hg]
          by_cases hp : (c - 1) / 2 = i
          · rw [hp, if_neg (by omega : ¬ i = j), if_pos rfl]
            by_cases e : c = j
            · rw [if_pos e]; exact has _ _ h2
            · rw [if_neg e, if_neg (by omega)]; exact hmin c c2 c1 hp
          · rw [if_neg (by omega : ¬ c = j), if_neg (by omega : ¬ (c - 1) / 2 = j), if_neg hp]
            by_cases e : c = i
            · subst e
              rw [if_pos rfl]
              exact hh.2 j (by omega) (by omega) (by omega) c1 c3
            · rw [if_neg e]
              exact hh.1 c c1 c2 c3 hp
        · have e : (j - 1) / 2 = i := by omega
          rw [hg, hg, e, if_neg (by omega : ¬ c = j), if_neg (by omega : ¬ c = i), if_neg (by omega : ¬ i = j), if_pos rfl, ← c3]
          exact hh.1 c c1 c2 (by omega) (by omega)
      · rename_i h2
        simp only [Bool.not_eq_true] at h2
        intro c c1 c2 c3
        by_cases hp : (c - 1) / 2 = i
        · rw [hp]
          exact htr _ _ _ h2 (hmin c c2 c1 hp)
        · exact hh.1 c c1 c2 c3 hp
    · intro c c1 c2 c3
      exact hh.1 c c1 c2 c3 (by omega)
/-- heap.Init, the parents ahead of k still to do. -/
def initF : List α → Nat → List α
  | q, 0 => q
  | q, k + 1 => initF (downF less q.length q k q.length).1 k
theorem initF_perm : ∀ (k : Nat) (q : List α), (initF less q k).Perm q
  | 0, q => List.Perm.refl _
  | k + 1, q => (initF_perm k _).trans (downF_perm less _ _ _ _ (Nat.le_refl _))
include htr has in
theorem initF_heap : ∀ (k : Nat) (q : List α), HeapL less q q.length k → HeapL less (initF less q k) q.length 0
  | 0, q, h => h
  | k + 1, q, h => by
    have hp := downF_perm less q.length q k q.length (Nat.le_refl _)
    have hd := downF_heap less htr has q.length q k q.length k (by omega) (Nat.le_refl _) (Nat.le_refl _) ⟨fun j h1 h2 h3 h4 => h j h1 h2 (by omega), fun j h1 h2 h3 h4 h5 => by omega⟩
    have := initF_heap k (downF less q.length q k q.length).1 (by rw [hp.length_eq]; exact hd)
    rw [hp.length_eq] at this
    exact this
def heapF (q : List α) : List α := initF less q (q.length / 2)
theorem heapF_perm (q : List α) : (heapF less q).Perm q := initF_perm less _ q
include htr has in
theorem heapF_heap (q : List α) : HeapL less (heapF less q) q.length 0 := initF_heap less htr has _ q fun j h1 h2 h3 => by omega
include htr has in
theorem root_min {q : List α} {n : Nat} (h : HeapL less q n 0) : ∀ j, j < n → less (gD q j) (gD q 0) = false := by
  intro j
  induction j using Nat.strongRecOn with
  | _ j ih =>
    intro hj
    rcases Nat.eq_zero_or_pos j with h0 | h0
    · subst h0; exact less_irr less has _
    · exact htr _ _ _ (ih ((j - 1) / 2) (by omega) (by omega)) (h j h0 hj (Nat.zero_le _))
/-- The last one laid at the head; the rest as it was but for the last. -/
def cutF (q : List α) : List α := (q.set 0 (gD q (q.length - 1))).take (q.length - 1)
def nextF (q : List α) : List α := if 0 < q.length - 1 then (downF less (q.length - 1) (cutF q) 0 (q.length - 1)).1 else cutF q
theorem cutF_len (q : List α) : (cutF q).length = q.length - 1 := by unfold cutF; rw [List.length_take, List.length_set]; omega
theorem cutF_perm {x : α} {t : List α} : (cutF (x :: t)).Perm t := by
  unfold cutF
  rw [List.set_cons_zero, List.length_cons, Nat.add_sub_cancel]
  cases ht : t.reverse with
  | nil =>
    have : t = [] := by simpa using ht
    subst this
    exact List.Perm.refl _
  | cons y r =>
    have e : t = r.reverse ++ [y] := by rw [← List.reverse_reverse t, ht, List.reverse_cons]
    subst e
    rw [List.length_append, List.length_singleton, List.length_reverse]
    have hg : gD (x :: (r.reverse ++ [y])) (r.length + 1) = y := by
      apply gD_some
      rw [List.getElem?_cons_succ, List.getElem?_append_right (by simp)]
      simp
    rw [hg, List.take_succ_cons, List.take_append_of_le_length (by simp), List.take_of_length_le (by simp)]
    exact (List.perm_append_comm (l₁ := [y]) (l₂ := r.reverse))
theorem nextF_perm {x : α} {t : List α} : (nextF less (x :: t)).Perm t := by
  unfold nextF
  split
  · exact (downF_perm less _ _ _ _ (by rw [cutF_len]; exact Nat.le_refl _)).trans cutF_perm
  · exact cutF_perm
theorem cutF_get {q : List α} {j : Nat} (h1 : 1 ≤ j) (h2 : j < q.length - 1) : gD (cutF q) j = gD q j := by
  unfold cutF
  rw [gD, List.getD_eq_getElem?_getD, List.getElem?_take, if_pos h2, List.getElem?_set, if_neg (by omega)]
  exact (List.getD_eq_getElem?_getD ..).symm
include htr has in
theorem nextF_heap {q : List α} (h : HeapL less q q.length 0) : HeapL less (nextF less q) (q.length - 1) 0 := by
  unfold nextF
  split
  · refine downF_heap less htr has _ _ 0 _ 0 (by omega) (by rw [cutF_len]; exact Nat.le_refl _) (Nat.le_refl _) ⟨fun j h1 h2 h3 h4 => ?_, fun j h1 h2 h3 h4 h5 => by omega⟩
    rw [cutF_get h1 h2, cutF_get (by omega) (by omega)]
    exact h j h1 (by omega) (Nat.zero_le _)
  · intro j h1 h2 h3; omega
/-- All of them, one behind the other. -/
def drainF : Nat → List α → List α
  | 0, _ => []
  | k + 1, q => gD q 0 :: drainF k (nextF less q)
theorem drainF_perm : ∀ (k : Nat) (q : List α), q.length = k → (drainF less k q).Perm q
  | 0, q, h => by rw [List.eq_nil_of_length_eq_zero h]; exact List.Perm.refl _
  | k + 1, x :: t, h => by
    have hp := nextF_perm less (x := x) (t := t)
    exact List.Perm.cons _ ((drainF_perm k _ (by rw [hp.length_eq]; simpa using h)).trans hp)
include htr has in
theorem drainF_rises : ∀ (k : Nat) (q : List α), q.length = k → HeapL less q k 0 → (drainF less k q).Pairwise fun x y => less y x = false
  | 0, q, _, _ => List.Pairwise.nil
  | k + 1, x :: t, h, hh => by
    have hp := nextF_perm less (x := x) (t := t)
    have hl : (nextF less (x :: t)).length = k := by rw [hp.length_eq]; simpa using h
    have hn := nextF_heap less htr has (q := x :: t) (by rw [h]; exact hh)
    rw [h, Nat.add_sub_cancel] at hn
    refine List.Pairwise.cons (fun y hy => ?_) (drainF_rises k _ hl hn)
    have hy2 : y ∈ x :: t := List.mem_cons_of_mem _ (hp.mem_iff.1 ((drainF_perm less k _ hl).mem_iff.1 hy))
    obtain ⟨j, hj, e⟩ := List.getElem_of_mem hy2
    have := root_min less htr has hh j (by rw [h] at hj; exact hj)
    rw [gD_some (List.getElem?_eq_some_iff.2 ⟨hj, e⟩)] at this
    exact this
end
section
variable {α β : Type} [DecidableEq β] (sec : α → β)
/-- Each but once, where like ones stand beside each other. -/
def onceF : β → List α → List α
  | _, [] => []
  | was, x :: l => if sec x = was then onceF was l else x :: onceF (sec x) l
theorem onceF_snoc (was : β) : ∀ (l : List α) (x : α), onceF sec was (l ++ [x]) = onceF sec was l ++ (if sec x = ((l.getLast?.map sec).getD was) then [] else [x])
  | [], x => by
    show (if sec x = was then [] else [x]) = [] ++ (if sec x = was then [] else [x])
    rw [List.nil_append]
  | y :: l, x => by
    rw [List.cons_append]
    have hg : (((y :: l).getLast?.map sec).getD was) = ((l.getLast?.map sec).getD (sec y)) := by
      cases l with
      | nil => rfl
      | cons z t => rw [List.getLast?_cons_cons, List.getLast?_cons]; rfl
    show (if sec y = was then onceF sec was (l ++ [x]) else y :: onceF sec (sec y) (l ++ [x])) = (if sec y = was then onceF sec was l else y :: onceF sec (sec y) l) ++ _
    rw [hg]
    by_cases h : sec y = was
    · rw [if_pos h, if_pos h, onceF_snoc was l x, h]
    · rw [if_neg h, if_neg h, onceF_snoc (sec y) l x]; rfl
theorem onceF_sub (was : β) : ∀ l : List α, (onceF sec was l).Sublist l
  | [] => List.Sublist.refl _
  | x :: l => by
    unfold onceF
    split
    · exact (onceF_sub was l).cons x
    · exact (onceF_sub (sec x) l).cons_cons x
theorem onceF_all (was : β) : ∀ (l : List α) (x : α), x ∈ l → sec x = was ∨ ∃ y ∈ onceF sec was l, sec y = sec x
  | y :: l, x, h => by
    unfold onceF
    rcases List.mem_cons.1 h with rfl | h
    · split
      · exact .inl (by assumption)
      · exact .inr ⟨x, List.mem_cons_self .., rfl⟩
    · split
      · exact onceF_all was l x h
      · rcases onceF_all (sec y) l x h with e | ⟨z, hz, e⟩
        · exact .inr ⟨y, List.mem_cons_self .., e.symm⟩
        · exact .inr ⟨z, List.mem_cons_of_mem _ hz, e⟩
/-- What is left of a rising list rises strictly. -/
theorem onceF_strict {R : α → α → Prop} {lt : α → α → Prop} (hlt : ∀ x y, R x y → sec x ≠ sec y → lt x y) (hRt : ∀ x y z, R x y → R y z → R x z) (hsame : ∀ x y z, R x y → R y z → sec x = sec z → sec x = sec y) :
    ∀ (was : β) (l : List α), l.Pairwise R → (∀ x ∈ onceF sec was l, True) → (onceF sec was l).Pairwise lt
  | _, [], _, _ => List.Pairwise.nil
  | was, x :: l, h, _ => by
    unfold onceF
    have h1 := List.pairwise_cons.1 h
    split
    · exact onceF_strict hlt hRt hsame was l h1.2 (fun _ _ => trivial)
    · refine List.Pairwise.cons (fun y hy => ?_) (onceF_strict hlt hRt hsame (sec x) l h1.2 (fun _ _ => trivial))
      refine hlt x y (h1.1 y ((onceF_sub sec _ l).subset hy)) fun e => ?_
      have key : ∀ (m : List α), m.Pairwise R → (∀ z ∈ m, R x z) → ∀ y ∈ onceF sec (sec x) m, sec x ≠ sec y := by
        intro m
        induction m with
        | nil => intro _ _ y hy; cases hy
        | cons z m ih =>
          intro hm hx y hy
          have h2 := List.pairwise_cons.1 hm
          unfold onceF at hy
          split at hy
          · exact ih h2.2 (fun z hz => hx z (List.mem_cons_of_mem _ hz)) y hy
          · rename_i hne
            rcases List.mem_cons.1 hy with rfl | hy
            · exact fun e => hne e.symm
            · intro e
              have hym := (onceF_sub sec _ m).subset hy
              exact hne (hsame x z y (hx z (List.mem_cons_self ..)) (h2.1 y hym) e).symm
      exact key l h1.2 h1.1 y hy e
end
/-- Of lists that rise strictly only one has these members. -/
theorem strict_unique {α : Type} {lt : α → α → Prop} (hir : ∀ x, ¬ lt x x) (htr : ∀ x y z, lt x y → lt y z → lt x z) : ∀ {l m : List α}, l.Pairwise lt → m.Pairwise lt → (∀ x, x ∈ l ↔ x ∈ m) → l = m
  | [], [], _, _, _ => rfl
  | [], y :: m, _, _, h => absurd ((h y).2 (List.mem_cons_self ..)) (by simp)
  | x :: l, [], _, _, h => absurd ((h x).1 (List.mem_cons_self ..)) (by simp)
  | x :: l, y :: m, hl, hm, h => by
    have a := List.pairwise_cons.1 hl
    have b := List.pairwise_cons.1 hm
    have e : x = y := by
      rcases List.mem_cons.1 ((h x).1 (List.mem_cons_self ..)) with e | e
      · exact e
      · rcases List.mem_cons.1 ((h y).2 (List.mem_cons_self ..)) with e' | e'
        · exact e'.symm
        · exact absurd (htr _ _ _ (a.1 y e') (b.1 x e)) (hir x)
    subst e
    refine congrArg _ (strict_unique hir htr a.2 b.2 fun z => ⟨fun hz => ?_, fun hz => ?_⟩)
    · rcases List.mem_cons.1 ((h z).1 (List.mem_cons_of_mem _ hz)) with e | e
      · subst e; exact absurd (a.1 z hz) (hir z)
      · exact e
    · rcases List.mem_cons.1 ((h z).2 (List.mem_cons_of_mem _ hz)) with e | e
      · subst e; exact absurd (b.1 z hz) (hir z)
      · exact e
end Go.Proofs.YtaiicjhnhbkgmaaGreatDoor

/-
  Which uberblocks come first: the order, and the one list that rises so (plain laws).
  Conditions: those told.
-/
namespace Go.Proofs.YtaiicjhnhbkgmaaGreatDoor
open Go.RowKit
set_option maxRecDepth 100000
set_option linter.unusedVariables false

/-! ### The order of bytes -/
theorem cmp_reflU : ∀ a : List UInt8, Lib.compareBytes a a = 0
  | [] => rfl
  | x :: a => by simp [Lib.compareBytes, cmp_reflU a]
theorem cmp_eq0U : ∀ {a b : List UInt8}, Lib.compareBytes a b = 0 → a = b
  | [], [], _ => rfl
  | [], _ :: _, h => by simp [Lib.compareBytes] at h
  | _ :: _, [], h => by simp [Lib.compareBytes] at h
  | x :: a, y :: b, h => by
    unfold Lib.compareBytes at h
    by_cases h1 : x < y
    · rw [if_pos h1] at h; cases h
    · by_cases h2 : y < x
      · rw [if_neg h1, if_pos h2] at h; cases h
      · rw [if_neg h1, if_neg h2] at h
        rw [cmp_eq0U h, UInt8.le_antisymm (UInt8.not_lt.1 h2) (UInt8.not_lt.1 h1)]
theorem cmp_swapU : ∀ a b : List UInt8, Lib.compareBytes b a = - Lib.compareBytes a b
  | [], [] => rfl
  | [], _ :: _ => rfl
  | _ :: _, [] => rfl
  | x :: a, y :: b => by
    unfold Lib.compareBytes
    by_cases h1 : x < y
    · have h2 : ¬ y < x := fun h => UInt8.lt_irrefl _ (UInt8.lt_trans h1 h)
      rw [if_pos h1, if_neg h2, if_pos h1]; rfl
    · by_cases h2 : y < x
      · rw [if_pos h2, if_neg h1, if_pos h2]
      · rw [if_neg h1, if_neg h2, if_neg h1, if_neg h2, cmp_swapU a b]
theorem cmp_transU : ∀ {a b c : List UInt8}, Lib.compareBytes a b < 0 → Lib.compareBytes b c < 0 → Lib.compareBytes a c < 0
  | [], [], _, h, _ => by simp [Lib.compareBytes] at h
  | [], _ :: _, [], _, h => by simp [Lib.compareBytes] at h
  | [], _ :: _, _ :: _, _, _ => by simp [Lib.compareBytes]
  | _ :: _, [], _, h, _ => by simp [Lib.compareBytes] at h
  | _ :: _, _ :: _, [], _, h => by simp [Lib.compareBytes] at h
  | x :: a, y :: b, z :: c, h, k => by
    unfold Lib.compareBytes at h k ⊢
    by_cases h1 : x < y
    · by_cases k1 : y < z
      · rw [if_pos (UInt8.lt_trans h1 k1)]; decide
      · by_cases k2 : z < y
        · rw [if_neg k1, if_pos k2] at k; cases k
        · have e := UInt8.le_antisymm (UInt8.not_lt.1 k2) (UInt8.not_lt.1 k1)
          subst e; rw [if_pos h1]; decide
    · by_cases h2 : y < x
      · rw [if_neg h1, if_pos h2] at h; cases h
      · have e := UInt8.le_antisymm (UInt8.not_lt.1 h2) (UInt8.not_lt.1 h1)
        subst e
        rw [if_neg h1, if_neg h2] at h
        by_cases k1 : x < z
        · rw [if_pos k1]; decide
        · by_cases k2 : z < x
          · rw [if_neg k1, if_pos k2] at k; cases k
          · rw [if_neg k1, if_neg k2] at k ⊢
            exact cmp_transU h k

/-- Is a list of bytes ahead of another one? -/
def byLt (a b : List UInt8) : Bool := decide (Lib.compareBytes a b < 0)
theorem byLt_irrefl (a : List UInt8) : byLt a a = false := by simp [byLt, cmp_reflU]
theorem byLt_trans {a b c : List UInt8} (h : byLt a b = true) (k : byLt b c = true) : byLt a c = true := by
  unfold byLt at *
  exact decide_eq_true (cmp_transU (of_decide_eq_true h) (of_decide_eq_true k))
theorem byLt_total {a b : List UInt8} (h : byLt a b = false) (k : byLt b a = false) : a = b := by
  unfold byLt at *
  have h1 := of_decide_eq_false h
  have h2 := of_decide_eq_false k
  rw [cmp_swapU a b] at h2
  exact cmp_eq0U (by omega)
theorem byLt_asym {a b : List UInt8} (h : byLt a b = true) : byLt b a = false := by
  unfold byLt at *
  have h1 := of_decide_eq_true h
  rw [cmp_swapU a b]
  exact decide_eq_false (by omega)

/-- Is an uberblock ahead of another one? -/
def ltU (a b : Ub) : Bool := decide (b.txg < a.txg) || (a.txg == b.txg && byLt (packU a) (packU b))
theorem ltU_iff (a b : Ub) : ltU a b = true ↔ b.txg < a.txg ∨ (a.txg = b.txg ∧ byLt (packU a) (packU b) = true) := by simp [ltU]
theorem ltU_irr (a : Ub) : ¬ ltU a a = true := by rw [ltU_iff, byLt_irrefl]; simp
theorem ltU_trans (a b c : Ub) (h : ltU a b = true) (k : ltU b c = true) : ltU a c = true := by
  rw [ltU_iff] at *
  rcases h with h | ⟨h, h'⟩ <;> rcases k with k | ⟨k, k'⟩
  · exact .inl (by omega)
  · exact .inl (by omega)
  · exact .inl (by omega)
  · exact .inr ⟨by omega, byLt_trans h' k'⟩
theorem ltU_asym (a b : Ub) (h : ltU a b = true) : ltU b a = false := by
  cases e : ltU b a
  · rfl
  · exact absurd (ltU_trans a b a h e) (ltU_irr a)
theorem ltU_total {a b : Ub} (h : ltU a b = false) (k : ltU b a = false) : a.txg = b.txg ∧ packU a = packU b := by
  rw [Bool.eq_false_iff, ne_eq, ltU_iff] at h k
  have e : a.txg = b.txg := by omega
  refine ⟨e, byLt_total ?_ ?_⟩
  · cases x : byLt (packU a) (packU b)
    · rfl
    · exact absurd (.inr ⟨e, x⟩) h
  · cases x : byLt (packU b) (packU a)
    · rfl
    · exact absurd (.inr ⟨e.symm, x⟩) k
theorem ltU_of {a b : Ub} (h : ltU b a = false) (hne : packU a ≠ packU b) : ltU a b = true := by
  cases e : ltU a b
  · exact absurd (ltU_total e h).2 hne
  · rfl
theorem leU_trans (x y z : Ub) (h : ltU y x = false) (k : ltU z y = false) : ltU z x = false := by
  cases e : ltU z x
  · rfl
  · by_cases hp : packU x = packU y ∧ x.txg = y.txg
    · rw [ltU_iff, hp.1, hp.2, ← ltU_iff] at e
      rw [e] at k; cases k
    · have h1 : ltU x y = true := by
        cases e2 : ltU x y
        · have := ltU_total e2 h
          exact absurd ⟨this.2, this.1⟩ hp
        · rfl
      have := ltU_trans z x y e h1
      rw [this] at k; cases k
/-- An uberblock that may be, its digests of the right length. -/
def UbFit (u : Ub) : Prop := u.pool.length = 32 ∧ u.root.sum.length = 32 ∧ u.may = true
theorem packU_inj {u v : Ub} (hu : UbFit u) (hv : UbFit v) (h : packU u = packU v) : u = v := by
  have := ubOf_back hu.1 hu.2.1 hu.2.2
  rw [h, ubOf_back hv.1 hv.2.1 hv.2.2] at this
  exact this.symm
/-- What Best tells of some: those that may be, rising strictly. -/
def IsBest (l out : List Ub) : Prop := out.Pairwise (fun a b => ltU a b = true) ∧ ∀ u, u ∈ out ↔ u ∈ l ∧ u.may = true
theorem IsBest.unique {l a b : List Ub} (ha : IsBest l a) (hb : IsBest l b) : a = b := strict_unique ltU_irr ltU_trans ha.1 hb.1 fun x => (ha.2 x).trans (hb.2 x).symm
theorem IsBest.of_mem {l m a : List Ub} (ha : IsBest l a) (h : ∀ u, u ∈ l ↔ u ∈ m) : IsBest m a := ⟨ha.1, fun u => by rw [ha.2 u, h u]⟩
/-- An uberblock with the value of its slice of addresses, in the order of the heap. -/
def lessE (x y : Value × Ub) : Bool := ltU x.2 y.2
def secE (x : Value × Ub) : List UInt8 := packU x.2
theorem packU_ne {u : Ub} (h : UbFit u) : packU u ≠ [] := fun e => by
  have := packU_len h.1 h.2.1 h.2.2
  rw [e] at this
  cases this
instance : Inhabited (Value × Ub) := ⟨(.slice none 0 0, zUb)⟩
theorem lessE_tr (x y z : Value × Ub) (h : lessE y x = false) (k : lessE z y = false) : lessE z x = false := leU_trans x.2 y.2 z.2 h k
theorem lessE_as (x y : Value × Ub) (h : lessE x y = true) : lessE y x = false := ltU_asym x.2 y.2 h
/-- All of a heap, one behind the other. -/
def allE (es : List (Value × Ub)) : List (Value × Ub) := drainF lessE es.length (heapF lessE es)
theorem allE_perm (es : List (Value × Ub)) : (allE es).Perm es := (drainF_perm lessE _ _ (heapF_perm lessE es).length_eq).trans (heapF_perm lessE es)
theorem drain_best {es : List (Value × Ub)} (hf : ∀ e ∈ es, UbFit e.2) : IsBest (es.map (·.2)) ((onceF secE [] (allE es)).map (·.2)) := by
  have hD := drainF_rises lessE lessE_tr lessE_as es.length (heapF lessE es) (heapF_perm lessE es).length_eq (heapF_heap lessE lessE_tr lessE_as es)
  have hfD : ∀ e ∈ allE es, UbFit e.2 := fun e he => hf e ((allE_perm es).mem_iff.1 he)
  have hR : (allE es).Pairwise fun x y => UbFit x.2 ∧ UbFit y.2 ∧ ltU y.2 x.2 = false := List.Pairwise.imp_of_mem (fun ha hb h => ⟨hfD _ ha, hfD _ hb, h⟩) hD
  have hs := onceF_strict secE (lt := fun x y => ltU x.2 y.2 = true) (fun x y h hne => ltU_of h.2.2 hne) (fun x y z h k => ⟨h.1, k.2.1, leU_trans _ _ _ h.2.2 k.2.2⟩)
    (fun x y z h k e => by
      have exz : x.2 = z.2 := packU_inj h.1 k.2.1 e
      have k2 := k.2.2
      rw [← exz] at k2
      exact (ltU_total k2 h.2.2).2) [] (allE es) hR (fun _ _ => trivial)
  refine ⟨List.pairwise_map.2 hs, fun u => ⟨fun h => ?_, fun h => ?_⟩⟩
  · obtain ⟨e, he, rfl⟩ := List.mem_map.1 h
    have h1 := (onceF_sub secE [] (allE es)).subset he
    exact ⟨List.mem_map.2 ⟨e, (allE_perm es).mem_iff.1 h1, rfl⟩, (hfD e h1).2.2⟩
  · obtain ⟨e, he, rfl⟩ := List.mem_map.1 h.1
    have h1 := (allE_perm es).mem_iff.2 he
    rcases onceF_all secE [] (allE es) e h1 with h2 | ⟨y, hy, h2⟩
    · exact absurd h2 (packU_ne (hf e he))
    · exact List.mem_map.2 ⟨y, hy, packU_inj (hfD y ((onceF_sub secE [] (allE es)).subset hy)) (hf e he) h2⟩
end Go.Proofs.YtaiicjhnhbkgmaaGreatDoor
