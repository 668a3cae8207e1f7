/-
  On which devices a block's copies are laid, in plain Lean: who can take one, in which order, how often there is room.
  Conditions: none.
-/
import Derived.Test.YtfjklgbakhjjiaaBase
namespace Go.Proofs.Ytfjklgbakhjjiaa
set_option maxRecDepth 100000
set_option linter.unusedVariables false

/-- Device i can take one. -/
def canTake (fr : List Int) (th : List Bool) (i : Nat) : Bool := th.getD i false && decide (0 < fr.getD i 0)
def ableTo (fr : List Int) (th : List Bool) (k : Nat) : List Nat := (List.range k).filter (canTake fr th)
theorem ableTo_succ (fr : List Int) (th : List Bool) (k : Nat) : ableTo fr th (k + 1) = ableTo fr th k ++ if canTake fr th k then [k] else [] := by
  unfold ableTo
  rw [List.range_succ, List.filter_append]
  congr 1
  cases h : canTake fr th k <;> simp [h]
theorem mem_ableTo {fr : List Int} {th : List Bool} {k i : Nat} : i ∈ ableTo fr th k ↔ i < k ∧ canTake fr th i = true := by unfold ableTo; rw [List.mem_filter, List.mem_range]
theorem ableTo_len (fr : List Int) (th : List Bool) (k : Nat) : (ableTo fr th k).length ≤ k := by
  unfold ableTo
  have := List.length_filter_le (canTake fr th) (List.range k)
  rwa [List.length_range] at this
theorem ableTo_nodup (fr : List Int) (th : List Bool) (k : Nat) : (ableTo fr th k).Nodup := List.Nodup.sublist List.filter_sublist List.nodup_range
/-- i is ahead of j. -/
def aheadB (fr : List Int) (i j : Nat) : Bool := decide (fr.getD j 0 < fr.getD i 0) || (decide (fr.getD i 0 = fr.getD j 0) && decide (i < j))
theorem aheadB_iff (fr : List Int) (i j : Nat) : aheadB fr i j = true ↔ fr.getD j 0 < fr.getD i 0 ∨ (fr.getD i 0 = fr.getD j 0 ∧ i < j) := by simp [aheadB]
theorem aheadB_false (fr : List Int) (i j : Nat) : aheadB fr i j = false ↔ ¬ (fr.getD j 0 < fr.getD i 0 ∨ (fr.getD i 0 = fr.getD j 0 ∧ i < j)) := by rw [← aheadB_iff]; simp
theorem ahead_trans {fr : List Int} {i j k : Nat} (h : aheadB fr i j = true) (h' : aheadB fr j k = true) : aheadB fr i k = true := by rw [aheadB_iff] at *; omega
theorem ahead_tot {fr : List Int} {i j : Nat} (h : i ≠ j) (h' : aheadB fr i j = false) : aheadB fr j i = true := by rw [aheadB_false] at h'; rw [aheadB_iff]; omega
theorem ahead_irrefl {fr : List Int} {i j : Nat} (h : aheadB fr i j = true) : aheadB fr j i = false := by rw [aheadB_iff] at h; rw [aheadB_false]; omega
def Ranks (fr : List Int) (l : List Nat) : Prop := l.Pairwise fun i j => aheadB fr i j = true
def rankL (fr : List Int) (th : List Bool) : List Nat := (ableTo fr th fr.length).mergeSort fun i j => !aheadB fr j i
theorem rank_perm (fr : List Int) (th : List Bool) : (rankL fr th).Perm (ableTo fr th fr.length) := List.mergeSort_perm _ _
theorem rank_ranks (fr : List Int) (th : List Bool) : Ranks fr (rankL fr th) := by
  have h1 : (rankL fr th).Pairwise fun i j => (!aheadB fr j i) = true := List.pairwise_mergeSort (le := fun i j => !aheadB fr j i) (fun a b c => by
    simp only [Bool.not_eq_true', aheadB_false]; omega) (fun a b => by
    cases h : aheadB fr b a
    · rfl
    · rw [ahead_irrefl h]; rfl) _
  have h2 : (rankL fr th).Nodup := (rank_perm fr th).nodup_iff.2 (ableTo_nodup _ _ _)
  refine (List.Pairwise.and h1 h2).imp fun {x y} ⟨p, q⟩ => ?_
  simp only [Bool.not_eq_true'] at p
  exact ahead_tot (fun e => q e.symm) p
theorem rank_unique {fr : List Int} {th : List Bool} {l : List Nat} (h : l.Perm (ableTo fr th fr.length)) (hr : Ranks fr l) : l = rankL fr th := by
  refine List.Perm.eq_of_pairwise (le := fun i j => aheadB fr i j = true) ?_ hr (rank_ranks fr th) (h.trans (rank_perm fr th).symm)
  intro x y _ _ h k
  rw [ahead_irrefl h] at k
  cases k
theorem rank_len (fr : List Int) (th : List Bool) : (rankL fr th).length = (ableTo fr th fr.length).length := (rank_perm fr th).length_eq
def upN (th : List Bool) : Nat := th.countP id
def wantN (th : List Bool) (cp : Nat) : Nat := min cp (upN th)
/-- The devices that are chosen, if there is room. -/
def chooseL (fr : List Int) (th : List Bool) (cp : Nat) : Option (List Nat) :=
  if ableTo fr th fr.length = [] ∨ (ableTo fr th fr.length).length < wantN th cp then none else some ((rankL fr th).take (wantN th cp))
theorem mem_rank {fr : List Int} {th : List Bool} {i : Nat} : i ∈ rankL fr th ↔ i < fr.length ∧ canTake fr th i = true := by rw [(rank_perm fr th).mem_iff, mem_ableTo]
theorem choose_some {fr : List Int} {th : List Bool} {cp : Nat} {l : List Nat} (h : chooseL fr th cp = some l) : l = (rankL fr th).take (wantN th cp) ∧ l.length = wantN th cp ∧ 0 < upN th ∧ l.Nodup ∧ ∀ i ∈ l, i < fr.length ∧ canTake fr th i = true := by
  unfold chooseL at h
  split at h
  · cases h
  · rename_i hn
    have e := Option.some.inj h
    subst e
    have hl : wantN th cp ≤ (rankL fr th).length := by rw [rank_len]; omega
    refine ⟨rfl, by rw [List.length_take]; omega, ?_, List.Nodup.sublist (List.take_sublist _ _) ((rank_perm fr th).nodup_iff.2 (ableTo_nodup _ _ _)), fun i hi => mem_rank.1 (List.mem_of_mem_take hi)⟩
    have hne : ableTo fr th fr.length ≠ [] := fun e => hn (.inl e)
    obtain ⟨i, hi⟩ := List.exists_mem_of_ne_nil _ hne
    have hc := (mem_ableTo.1 hi).2
    unfold canTake at hc
    rw [Bool.and_eq_true] at hc
    unfold upN
    rw [List.countP_pos_iff]
    refine ⟨true, ?_, rfl⟩
    rw [List.getD_eq_getElem?_getD] at hc
    cases e : th[i]? with
    | none => rw [e] at hc; simp at hc
    | some b =>
      rw [e] at hc
      have : b = true := by simpa using hc.1
      subst this
      exact List.mem_of_getElem? e
/-- The next one is the first of those that are left. -/
theorem rank_next {fr : List Int} {th : List Bool} {k m : Nat} (hm : (rankL fr th)[k]? = some m) : (m < fr.length ∧ canTake fr th m = true ∧ m ∉ (rankL fr th).take k) ∧ ∀ j, j < fr.length → canTake fr th j = true → j ∉ (rankL fr th).take k → j = m ∨ aheadB fr m j = true := by
  have hk := (List.getElem?_eq_some_iff.1 hm).1
  have hnd : (rankL fr th).Nodup := (rank_perm fr th).nodup_iff.2 (ableTo_nodup _ _ _)
  have hsp : rankL fr th = (rankL fr th).take k ++ m :: (rankL fr th).drop (k + 1) := by
    conv => lhs; rw [← List.take_append_drop k (rankL fr th)]
    rw [List.drop_eq_getElem_cons hk]
    congr 2
    rw [List.getElem?_eq_getElem hk] at hm
    exact Option.some.inj hm
  have h1 := mem_rank.1 (List.mem_of_getElem? hm)
  have hr := rank_ranks fr th
  refine ⟨⟨h1.1, h1.2, ?_⟩, fun j hj hc hn => ?_⟩
  · rw [hsp] at hnd
    intro hx
    exact (List.nodup_append.1 hnd).2.2 m hx m (List.mem_cons_self ..) rfl
  · have hjm : j ∈ rankL fr th := mem_rank.2 ⟨hj, hc⟩
    rw [hsp] at hjm
    rcases List.mem_append.1 hjm with h | h
    · exact absurd h hn
    · rcases List.mem_cons.1 h with rfl | h
      · exact .inl rfl
      · unfold Ranks at hr
        rw [hsp, List.pairwise_append] at hr
        exact .inr ((List.pairwise_cons.1 hr.2.1).1 j h)
theorem rank_over {fr : List Int} {th : List Bool} {k : Nat} (hk : (rankL fr th).length ≤ k) {j : Nat} (hj : j < fr.length) (hc : canTake fr th j = true) : j ∈ (rankL fr th).take k := by
  rw [List.take_of_length_le hk]
  exact mem_rank.2 ⟨hj, hc⟩
/-- One is taken of each. -/
def decL (fr : List Int) (l : List Nat) : List Int := l.foldl (fun f i => f.set i (f.getD i 0 - 1)) fr
theorem decL_len (l : List Nat) : ∀ fr : List Int, (decL fr l).length = fr.length := by
  induction l with
  | nil => intro fr; rfl
  | cons i l ih => intro fr; exact (ih _).trans (List.length_set ..)
theorem decL_snoc (fr : List Int) (l : List Nat) (i : Nat) : decL fr (l ++ [i]) = (decL fr l).set i ((decL fr l).getD i 0 - 1) := by simp [decL, List.foldl_append]
theorem decL_get (l : List Nat) : ∀ (fr : List Int), l.Nodup → (∀ i ∈ l, i < fr.length) → ∀ j, (decL fr l).getD j 0 = fr.getD j 0 - if j ∈ l then 1 else 0 := by
  induction l with
  | nil => intro fr _ _ j; simp [decL]
  | cons i l ih =>
    intro fr hn hb j
    have hi := hb i (List.mem_cons_self ..)
    have h1 := ih (fr.set i (fr.getD i 0 - 1)) (List.nodup_cons.1 hn).2 (fun k hk => by rw [List.length_set]; exact hb k (List.mem_cons_of_mem _ hk)) j
    have h2 : decL fr (i :: l) = decL (fr.set i (fr.getD i 0 - 1)) l := rfl
    rw [h2, h1]
    have hni := (List.nodup_cons.1 hn).1
    by_cases e : i = j
    · subst e
      rw [if_neg hni, if_pos (List.mem_cons_self ..), List.getD_eq_getElem?_getD, List.getElem?_set, if_pos rfl, if_pos hi]
      simp
    · have e1 : (fr.set i (fr.getD i 0 - 1)).getD j 0 = fr.getD j 0 := by
        rw [List.getD_eq_getElem?_getD, List.getElem?_set, if_neg e, ← List.getD_eq_getElem?_getD]
      rw [e1]
      by_cases h3 : j ∈ l
      · rw [if_pos h3, if_pos (List.mem_cons_of_mem _ h3)]
      · rw [if_neg h3, if_neg (fun h => (List.mem_cons.1 h).elim (fun h => e h.symm) h3)]
/-- So often there is room. -/
inductive Rooms (th : List Bool) (cp : Nat) : List Int → Nat → Prop
  | none {fr : List Int} : chooseL fr th cp = none → Rooms th cp fr 0
  | more {fr : List Int} {l : List Nat} {n : Nat} : chooseL fr th cp = some l → Rooms th cp (decL fr l) n → Rooms th cp fr (n + 1)
theorem Rooms.unique {th : List Bool} {cp : Nat} {fr : List Int} {n m : Nat} (h : Rooms th cp fr n) : Rooms th cp fr m → n = m := by
  induction h generalizing m with
  | none h =>
    intro h'
    cases h' with
    | none _ => rfl
    | more h2 _ => rw [h] at h2; cases h2
  | more h _ ih =>
    intro h'
    cases h' with
    | none h2 => rw [h] at h2; cases h2
    | more h2 h3 =>
      rw [h] at h2
      cases h2
      rw [ih h3]
/-- How much room there is in all. -/
def sumN (fr : List Int) : Nat := (fr.map Int.toNat).sum
theorem sum_set : ∀ (fr : List Int) (i : Nat), i < fr.length → 0 < fr.getD i 0 → ((fr.set i (fr.getD i 0 - 1)).map Int.toNat).sum + 1 = (fr.map Int.toNat).sum
  | [], i, h, _ => by simp at h
  | x :: fr, 0, _, hp => by
    have hp' : 0 < x := by simpa using hp
    simp only [List.set_cons_zero, List.map_cons, List.sum_cons, List.getD_cons_zero]
    omega
  | x :: fr, i + 1, h, hp => by
    have ih := sum_set fr i (by simpa using h) (by simpa using hp)
    simp only [List.set_cons_succ, List.map_cons, List.sum_cons, List.getD_cons_succ] at ih ⊢
    omega
theorem sum_dec (l : List Nat) : ∀ fr : List Int, l.Nodup → (∀ i ∈ l, i < fr.length ∧ 0 < fr.getD i 0) → sumN (decL fr l) + l.length = sumN fr := by
  induction l with
  | nil => intro fr _ _; rfl
  | cons i l ih =>
    intro fr hn hb
    obtain ⟨hi, hp⟩ := hb i (List.mem_cons_self ..)
    have hni := (List.nodup_cons.1 hn).1
    have h1 := ih (fr.set i (fr.getD i 0 - 1)) (List.nodup_cons.1 hn).2 (fun k hk => by
      obtain ⟨h2, h3⟩ := hb k (List.mem_cons_of_mem _ hk)
      refine ⟨by rw [List.length_set]; exact h2, ?_⟩
      have hne : i ≠ k := fun e => hni (by rw [e]; exact hk)
      rw [List.getD_eq_getElem?_getD, List.getElem?_set, if_neg hne, ← List.getD_eq_getElem?_getD]
      exact h3)
    have h2 : decL fr (i :: l) = decL (fr.set i (fr.getD i 0 - 1)) l := rfl
    have h3 := sum_set fr i hi hp
    rw [h2, List.length_cons]
    unfold sumN at h1 ⊢
    omega
theorem choose_dec {fr : List Int} {th : List Bool} {cp : Nat} {l : List Nat} (h : chooseL fr th cp = some l) (hc : 0 < cp) : sumN (decL fr l) < sumN fr := by
  obtain ⟨-, h2, h3, h4, h5⟩ := choose_some h
  have := sum_dec l fr h4 fun i hi => ⟨(h5 i hi).1, by have := (h5 i hi).2; unfold canTake at this; rw [Bool.and_eq_true] at this; exact of_decide_eq_true this.2⟩
  have h6 : 0 < l.length := by rw [h2]; unfold wantN; omega
  omega
end Go.Proofs.Ytfjklgbakhjjiaa
