/-
  Who holds what, counted both ways; what is freed and what is left: in plain Lean.
  Conditions: at most 20 holders.
-/
import Derived.Test.YtmilgaoilglmjaaHoldU
namespace Go.Proofs.Ytmilgaoilglmjaa
open Go.RowKit Go.Maps Go.ChangeMaps
set_option maxRecDepth 100000
set_option linter.unusedVariables false

theorem told_of {P : Program} {f : FuncId} {args : Array Value} {w : World} {l l' : List Ad} (h : Calls P f args w (ListPost w l)) (hl : l = l') : Calls P f args w (ListPost w l') := hl ▸ h
theorem canon_filter (l : List Ad) (p : Ad → Bool) : canon (l.filter p) = (canon l).filter p :=
  (canon_eq (List.Pairwise.filter p (canon_rises l)) fun x => by rw [List.mem_filter, mem_canon, List.mem_filter]).symm
theorem canon_self (l : List Ad) : canon (canon l) = canon l := canon_congr fun x => mem_canon
theorem sum_add {α : Type} (f g : α → Nat) : ∀ l : List α, (l.map fun x => f x + g x).sum = (l.map f).sum + (l.map g).sum
  | [] => rfl
  | x :: l => by
    have := sum_add f g l
    simp only [List.map_cons, List.sum_cons]
    omega
theorem sum_ite {α : Type} (p : α → Bool) : ∀ l : List α, (l.map fun x => if p x then 1 else 0).sum = l.countP p
  | [] => rfl
  | x :: l => by
    have := sum_ite p l
    simp only [List.map_cons, List.sum_cons, List.countP_cons]
    omega
theorem count_both {α : Type} (p : Nat → α → Bool) (A : List α) : ∀ n : Nat, ((List.range n).map fun i => A.countP (p i)).sum = (A.map fun a => (List.range n).countP fun i => p i a).sum
  | 0 => by
    have : ∀ l : List α, (l.map fun _ => 0).sum = 0 := fun l => by induction l with | nil => rfl | cons x l ih => simpa using ih
    simpa using (this A).symm
  | n + 1 => by
    have ih := count_both p A n
    have e : ∀ a, (List.range (n + 1)).countP (fun i => p i a) = (List.range n).countP (fun i => p i a) + if p n a then 1 else 0 := fun a => by
      rw [List.range_succ, List.countP_append, List.countP_singleton]
    simp only [e]
    rw [sum_add, sum_ite, ← ih, List.range_succ, List.map_append, List.sum_append]
    simp
/-- How many hold an address. -/
def cnt (hs : List (List Ad)) (a : Ad) : Nat := (hoL hs a hs.length).length
theorem cnt_eq (hs : List (List Ad)) (a : Ad) : cnt hs a = (List.range hs.length).countP fun i => decide (a ∈ hs.getD i []) := by
  unfold cnt hoL
  rw [List.length_map, List.countP_eq_length_filter]
theorem getD_at {hs : List (List Ad)} {j : Nat} {L : List Ad} (h : hs[j]? = some L) : hs.getD j [] = L := by rw [List.getD_eq_getElem?_getD, h]; rfl
theorem at_getD {hs : List (List Ad)} {j : Nat} (h : j < hs.length) : hs[j]? = some (hs.getD j []) := by rw [List.getD_eq_getElem?_getD, List.getElem?_eq_getElem h]; rfl
theorem cnt_pos {hs : List (List Ad)} {a : Ad} (h : a ∈ canon hs.flatten) : 0 < cnt hs a := by
  obtain ⟨j, L, hj, ha⟩ := flat_at.1 (mem_canon.1 h)
  rw [cnt_eq, List.countP_pos_iff]
  exact ⟨j, List.mem_range.2 (at_lt hj), decide_eq_true (by rw [getD_at hj]; exact ha)⟩
/-- How many addresses the k-th has; how many it has alone. -/
def refN (hs : List (List Ad)) (k : Nat) : Nat := (canon (hs.flatten.filter fun a => refB hs.length (k : Int) (hw hs a))).length
def unqN (hs : List (List Ad)) (k : Nat) : Nat := (canon (hs.flatten.filter fun a => subB (hw hs a) (wordOf hs.length [(k : Int)]))).length
theorem refN_eq {hs : List (List Ad)} (h64 : hs.length ≤ 64) {k : Nat} (hk : k < hs.length) : refN hs k = (canon hs.flatten).countP fun a => decide (a ∈ hs.getD k []) := by
  unfold refN
  rw [canon_filter, ← List.countP_eq_length_filter]
  refine List.countP_congr fun a ha => ?_
  have e : refB hs.length (k : Int) (hw hs a) = decide (a ∈ hs.getD k []) := by
    unfold refB
    rw [show ((k : Int).toNat) = k from rfl, hw_dec h64 a hk, decide_eq_true (by omega : 0 ≤ (k : Int) ∧ (k : Int) < (hs.length : Int)), Bool.true_and]
  rw [e]
theorem unqN_eq {hs : List (List Ad)} (h64 : hs.length ≤ 64) {k : Nat} (hk : k < hs.length) : unqN hs k = (canon hs.flatten).countP fun a => decide (a ∈ hs.getD k []) && decide (cnt hs a = 1) := by
  unfold unqN
  rw [canon_filter, ← List.countP_eq_length_filter]
  refine List.countP_congr fun a ha => ?_
  rw [sub_word h64, Bool.and_eq_true, decide_eq_true_eq, decide_eq_true_eq]
  have hp := cnt_pos ha
  rw [cnt_eq] at hp ⊢
  rw [List.countP_eq_length_filter] at hp ⊢
  have hm : ∀ j, j ∈ (List.range hs.length).filter (fun i => decide (a ∈ hs.getD i [])) ↔ j < hs.length ∧ a ∈ hs.getD j [] := fun j => by rw [List.mem_filter, List.mem_range, decide_eq_true_eq]
  have hnd : ((List.range hs.length).filter (fun i => decide (a ∈ hs.getD i []))).Nodup := List.Nodup.sublist List.filter_sublist List.nodup_range
  generalize (List.range hs.length).filter (fun i => decide (a ∈ hs.getD i [])) = W at *
  constructor
  · intro h
    have hall : ∀ j ∈ W, j = k := fun j hj => by
      obtain ⟨h1, h2⟩ := (hm j).1 hj
      have := h j _ (at_getD h1) h2
      rw [List.mem_singleton] at this
      omega
    rcases W with _ | ⟨x, _ | ⟨y, W⟩⟩
    · simp at hp
    · have e := hall x (List.mem_cons_self ..)
      subst e
      exact ⟨((hm x).1 (List.mem_cons_self ..)).2, rfl⟩
    · have e1 := hall x (by simp)
      have e2 := hall y (by simp)
      rw [e1, e2] at hnd
      simp at hnd
  · rintro ⟨h1, h2⟩ j L hj hL
    rcases W with _ | ⟨x, _ | ⟨y, W⟩⟩
    · simp at h2
    · have e1 := (hm j).2 ⟨at_lt hj, by rw [getD_at hj]; exact hL⟩
      have e2 := (hm k).2 ⟨hk, h1⟩
      rw [List.mem_singleton] at e1 e2
      rw [List.mem_singleton, e1, e2]
    · simp at h2
def refS (hs : List (List Ad)) (k : Nat) : Nat := ((List.range k).map (refN hs)).sum
def unqS (hs : List (List Ad)) (k : Nat) : Nat := ((List.range k).map (unqN hs)).sum
theorem refS_succ (hs : List (List Ad)) (k : Nat) : refS hs (k + 1) = refS hs k + refN hs k := by unfold refS; rw [List.range_succ, List.map_append, List.sum_append]; simp
theorem unqS_succ (hs : List (List Ad)) (k : Nat) : unqS hs (k + 1) = unqS hs k + unqN hs k := by unfold unqS; rw [List.range_succ, List.map_append, List.sum_append]; simp
def heldS (hs : List (List Ad)) (l : List Ad) : Nat := (l.map (cnt hs)).sum
def oneS (hs : List (List Ad)) (l : List Ad) : Nat := l.countP fun a => decide (cnt hs a = 1)
theorem heldS_snoc (hs : List (List Ad)) (l : List Ad) (a : Ad) : heldS hs (l ++ [a]) = heldS hs l + cnt hs a := by unfold heldS; rw [List.map_append, List.sum_append]; simp
theorem oneS_snoc (hs : List (List Ad)) (l : List Ad) (a : Ad) : oneS hs (l ++ [a]) = oneS hs l + if cnt hs a = 1 then 1 else 0 := by unfold oneS; rw [List.countP_append, List.countP_singleton]; simp only [decide_eq_true_eq]
theorem refS_held {hs : List (List Ad)} (h64 : hs.length ≤ 64) : refS hs hs.length = heldS hs (canon hs.flatten) := by
  unfold refS heldS
  rw [show (List.range hs.length).map (refN hs) = (List.range hs.length).map (fun i => (canon hs.flatten).countP ((fun i a => decide (a ∈ hs.getD i [])) i)) from List.map_congr_left fun i hi => refN_eq h64 (List.mem_range.1 hi), count_both]
  exact congrArg List.sum (List.map_congr_left fun a _ => (cnt_eq hs a).symm)
theorem unqS_one {hs : List (List Ad)} (h64 : hs.length ≤ 64) : unqS hs hs.length = oneS hs (canon hs.flatten) := by
  unfold unqS oneS
  rw [show (List.range hs.length).map (unqN hs) = (List.range hs.length).map (fun i => (canon hs.flatten).countP ((fun i a => decide (a ∈ hs.getD i []) && decide (cnt hs a = 1)) i)) from List.map_congr_left fun i hi => unqN_eq h64 (List.mem_range.1 hi), count_both, ← sum_ite]
  refine congrArg List.sum (List.map_congr_left fun a _ => ?_)
  by_cases h : cnt hs a = 1
  · simp only [h, decide_true, Bool.and_true, if_true]
    rw [← cnt_eq, h]
  · simp only [h, decide_false, Bool.and_false]
    simp
theorem unqN_le {hs : List (List Ad)} (k : Nat) : unqN hs k ≤ hs.flatten.length := Nat.le_trans (canon_len _) (List.length_filter_le _ _)
theorem refN_le {hs : List (List Ad)} (k : Nat) : refN hs k ≤ hs.flatten.length := Nat.le_trans (canon_len _) (List.length_filter_le _ _)
theorem unqS_le (hs : List (List Ad)) : ∀ k, unqS hs k ≤ k * hs.flatten.length
  | 0 => by simp [unqS]
  | k + 1 => by rw [unqS_succ, Nat.succ_mul]; have := unqS_le hs k; have := unqN_le (hs := hs) k; omega
theorem refS_le (hs : List (List Ad)) : ∀ k, refS hs k ≤ k * hs.flatten.length
  | 0 => by simp [refS]
  | k + 1 => by rw [refS_succ, Nat.succ_mul]; have := refS_le hs k; have := refN_le (hs := hs) k; omega
theorem cnt_le (hs : List (List Ad)) (a : Ad) : cnt hs a ≤ hs.length := hoL_len hs a hs.length
theorem shared_has {hs : List (List Ad)} (h64 : hs.length ≤ 64) {dr : List Int} {x : Ad} (hx : x ∈ canon (hs.flatten.filter fun a => (someB (wordOf hs.length dr) && subB (wordOf hs.length dr) (hw hs a)))) {d : Nat} {L : List Ad} (hd : (d : Int) ∈ dr) (hL : hs[d]? = some L) : x ∈ L := by
  have h1 := (List.mem_filter.1 (mem_canon.1 hx)).2
  rw [Bool.and_eq_true] at h1
  exact (word_sub h64 dr x).1 h1.2 d L hL hd

/-- The holders of which some have nothing any more (the first k of them). -/
def woL (hs : List (List Ad)) (dr : List Int) (k : Nat) : List (List Ad) := (List.range k).map fun (i : Nat) => if (i : Int) ∈ dr then [] else hs.getD i []
theorem woL_succ (hs : List (List Ad)) (dr : List Int) (k : Nat) : woL hs dr (k + 1) = woL hs dr k ++ [if (k : Int) ∈ dr then [] else hs.getD k []] := by unfold woL; rw [List.range_succ, List.map_append]; rfl
theorem woL_len (hs : List (List Ad)) (dr : List Int) (k : Nat) : (woL hs dr k).length = k := by simp [woL]
theorem woL_at {hs : List (List Ad)} {dr : List Int} {j : Nat} {L : List Ad} : (woL hs dr hs.length)[j]? = some L ↔ j < hs.length ∧ L = if (j : Int) ∈ dr then [] else hs.getD j [] := by
  unfold woL
  rw [List.getElem?_map]
  by_cases h : j < hs.length
  · rw [List.getElem?_range h]
    simp only [Option.map_some, Option.some.injEq, h, true_and]
    exact eq_comm
  · rw [List.getElem?_eq_none (by simpa using h)]
    simp [h]
theorem woL_ok {hs : List (List Ad)} (ho : ∀ L ∈ hs, AdsOk L) (dr : List Int) : ∀ L ∈ woL hs dr hs.length, AdsOk L := by
  intro L hL
  obtain ⟨j, hj⟩ := List.getElem?_of_mem hL
  obtain ⟨h1, h2⟩ := woL_at.1 hj
  split at h2
  · subst h2
    intro x hx
    cases hx
  · subst h2
    exact ho _ (List.mem_of_getElem? (at_getD h1))
theorem woL_flat {hs : List (List Ad)} {dr : List Int} {a : Ad} : a ∈ (woL hs dr hs.length).flatten ↔ ∃ (j : Nat) (L : List Ad), hs[j]? = some L ∧ (j : Int) ∉ dr ∧ a ∈ L := by
  rw [flat_at]
  constructor
  · rintro ⟨j, L, hj, ha⟩
    obtain ⟨h1, h2⟩ := woL_at.1 hj
    split at h2
    · subst h2
      cases ha
    · rename_i h3
      subst h2
      exact ⟨j, _, at_getD h1, h3, ha⟩
  · rintro ⟨j, L, hj, hd, ha⟩
    exact ⟨j, L, woL_at.2 ⟨at_lt hj, by rw [if_neg hd, getD_at hj]⟩, ha⟩
theorem woL_flen {hs : List (List Ad)} (h100 : ∀ L ∈ hs, L.length ≤ 100) (dr : List Int) : ∀ L ∈ woL hs dr hs.length, L.length ≤ 100 := by
  intro L hL
  obtain ⟨j, hj⟩ := List.getElem?_of_mem hL
  obtain ⟨h1, h2⟩ := woL_at.1 hj
  split at h2
  · subst h2
    exact Nat.zero_le _
  · subst h2
    exact h100 _ (List.mem_of_getElem? (at_getD h1))
/-- What is freed. -/
def frL (hs : List (List Ad)) (dr : List Int) : List Ad := canon (hs.flatten.filter fun a => subB (hw hs a) (wordOf hs.length dr))
theorem mem_frL {hs : List (List Ad)} (h64 : hs.length ≤ 64) {dr : List Int} {a : Ad} : a ∈ frL hs dr ↔ (∃ (j : Nat) (L : List Ad), hs[j]? = some L ∧ a ∈ L) ∧ ∀ (j : Nat) (L : List Ad), hs[j]? = some L → a ∈ L → (j : Int) ∈ dr := by
  unfold frL
  rw [mem_canon, List.mem_filter, flat_at, sub_word h64]
theorem mem_frW {hs : List (List Ad)} (h64 : hs.length ≤ 64) {dr mo : List Int} {a : Ad} : a ∈ frL (woL hs dr hs.length) mo ↔ (∃ (j : Nat) (L : List Ad), hs[j]? = some L ∧ (j : Int) ∉ dr ∧ a ∈ L) ∧ ∀ (j : Nat) (L : List Ad), hs[j]? = some L → (j : Int) ∉ dr → a ∈ L → (j : Int) ∈ mo := by
  rw [mem_frL (by rw [woL_len]; exact h64), ← flat_at, woL_flat]
  refine and_congr Iff.rfl ⟨fun h j L hj hd ha => h j L (woL_at.2 ⟨at_lt hj, by rw [if_neg hd, getD_at hj]⟩) ha, fun h j L hj ha => ?_⟩
  obtain ⟨h1, h2⟩ := woL_at.1 hj
  split at h2
  · subst h2
    cases ha
  · rename_i h3
    subst h2
    exact h j _ (at_getD h1) h3 ha
theorem nil_of {l : List Ad} (h : ∀ x, x ∉ l) : canon l = [] := by
  rw [List.eq_nil_iff_forall_not_mem.2 h]; exact canon_nil
structure PartsU (hs : List (List Ad)) (dr mo : List Int) : Prop where
  p1 : canon ((frL hs dr).filter fun x => decide (x ∈ canon (woL hs dr hs.length).flatten)) = []
  p2 : canon (frL hs dr ++ canon (woL hs dr hs.length).flatten) = canon hs.flatten
  p3 : canon (frL hs dr ++ frL (woL hs dr hs.length) mo) = frL hs (dr ++ mo)
  p4 : canon ((frL hs dr).filter fun x => decide (x ∈ frL (woL hs dr hs.length) mo)) = []
theorem parts_u {hs : List (List Ad)} (h64 : hs.length ≤ 64) (dr mo : List Int) : PartsU hs dr mo := by
  refine ⟨nil_of fun x hx => ?_, canon_congr fun x => ?_, ?_, nil_of fun x hx => ?_⟩
  · obtain ⟨h1, h2⟩ := List.mem_filter.1 hx
    obtain ⟨j, L, hj, hd, ha⟩ := woL_flat.1 (mem_canon.1 (of_decide_eq_true h2))
    exact hd (((mem_frL h64).1 h1).2 j L hj ha)
  · rw [List.mem_append, mem_frL h64, mem_canon, woL_flat, flat_at]
    constructor
    · rintro (h | ⟨j, L, hj, -, ha⟩)
      · exact h.1
      · exact ⟨j, L, hj, ha⟩
    · intro h
      by_cases hc : ∃ (j : Nat) (L : List Ad), hs[j]? = some L ∧ (j : Int) ∉ dr ∧ x ∈ L
      · exact .inr hc
      · exact .inl ⟨h, fun j L hj ha => Classical.byContradiction fun hd => hc ⟨j, L, hj, hd, ha⟩⟩
  · refine (canon_eq (canon_rises _) fun x => ?_).symm
    show x ∈ frL hs (dr ++ mo) ↔ _
    rw [List.mem_append, mem_frL h64, mem_frL h64, mem_frW h64]
    constructor
    · rintro ⟨h1, h2⟩
      by_cases hc : ∃ (j : Nat) (L : List Ad), hs[j]? = some L ∧ (j : Int) ∉ dr ∧ x ∈ L
      · exact .inr ⟨hc, fun j L hj hd ha => (List.mem_append.1 (h2 j L hj ha)).resolve_left hd⟩
      · exact .inl ⟨h1, fun j L hj ha => Classical.byContradiction fun hd => hc ⟨j, L, hj, hd, ha⟩⟩
    · rintro (⟨h1, h2⟩ | ⟨⟨j, L, hj, hd, ha⟩, h2⟩)
      · exact ⟨h1, fun j L hj ha => List.mem_append.2 (.inl (h2 j L hj ha))⟩
      · refine ⟨⟨j, L, hj, ha⟩, fun i M hi hm => List.mem_append.2 ?_⟩
        by_cases hd' : (i : Int) ∈ dr
        · exact .inl hd'
        · exact .inr (h2 i M hi hd' hm)
  · obtain ⟨h1, h2⟩ := List.mem_filter.1 hx
    obtain ⟨⟨j, L, hj, hd, ha⟩, -⟩ := (mem_frW h64).1 (of_decide_eq_true h2)
    exact hd (((mem_frL h64).1 h1).2 j L hj ha)
theorem frL_ok {hs : List (List Ad)} (ho : ∀ L ∈ hs, AdsOk L) (dr : List Int) : AdsOk (frL hs dr) := adsOk_canon fun x hx => by
  obtain ⟨L, hL, h⟩ := List.mem_flatten.1 (List.mem_filter.1 hx).1
  exact ho L hL x h
theorem all_ok {hs : List (List Ad)} (ho : ∀ L ∈ hs, AdsOk L) : AdsOk (canon hs.flatten) := adsOk_canon fun x hx => by
  obtain ⟨L, hL, h⟩ := List.mem_flatten.1 hx
  exact ho L hL x h
theorem frL_len (hs : List (List Ad)) (dr : List Int) : (frL hs dr).length ≤ hs.flatten.length := Nat.le_trans (canon_len _) (List.length_filter_le _ _)
end Go.Proofs.Ytmilgaoilglmjaa
