/-
  What the acts on a ledger leave, in plain Lean.
  Conditions: none but those told.
-/
import Derived.Test.YtfjklgbakhjjiaaRoomL
namespace Go.Proofs.Ytfjklgbakhjjiaa
open Go.RowKit Go.Maps Go.ChangeMaps
set_option maxRecDepth 100000
set_option linter.unusedVariables false

theorem sum_addN {α : Type} (f g : α → Nat) : ∀ l : List α, (l.map fun x => f x + g x).sum = (l.map f).sum + (l.map g).sum
  | [] => rfl
  | x :: l => by
    have := sum_addN f g l
    simp only [List.map_cons, List.sum_cons]
    omega
theorem ind_sum (e : Nat) : ∀ D : Nat, ((List.range D).map fun d => if e = d then 1 else 0).sum = if e < D then 1 else 0
  | 0 => by simp
  | D + 1 => by
    rw [List.range_succ, List.map_append, List.sum_append, ind_sum e D]
    simp only [List.map_cons, List.map_nil, List.sum_cons, List.sum_nil]
    by_cases h1 : e < D
    · have h2 : ¬ e = D := by omega
      have h3 : e < D + 1 := by omega
      simp [h1, h2, h3]
    · by_cases h2 : e = D
      · have h3 : e < D + 1 := by omega
        simp only [h2, if_true]
        simp
      · have h3 : ¬ e < D + 1 := by omega
        simp [h1, h2, h3]
theorem filt_sum (D : Nat) : ∀ (C : List Ad), (∀ x ∈ C, ∃ d : Nat, d < D ∧ x.dev = (d : Int)) → ((List.range D).map fun (d : Nat) => (C.filter fun x => decide (x.dev = (d : Int))).length).sum = C.length
  | [], _ => by
    have : ∀ l : List Nat, (l.map fun _ => 0).sum = 0 := fun l => by induction l with | nil => rfl | cons x l ih => simpa using ih
    simpa using this (List.range D)
  | x :: C, h => by
    obtain ⟨e, he, hx⟩ := h x (List.mem_cons_self ..)
    have ih := filt_sum D C fun y hy => h y (List.mem_cons_of_mem _ hy)
    have hs : ∀ d : Nat, ((x :: C).filter fun y => decide (y.dev = (d : Int))).length = (if e = d then 1 else 0) + (C.filter fun y => decide (y.dev = (d : Int))).length := fun d => by
      rw [List.filter_cons]
      by_cases h1 : e = d
      · subst h1
        rw [if_pos (decide_eq_true hx), if_pos rfl, List.length_cons]
        omega
      · rw [if_neg (by rw [decide_eq_true_eq, hx]; omega), if_neg h1]
        omega
    simp only [hs]
    rw [sum_addN, ih, ind_sum, if_pos he, List.length_cons]
    omega
/-- All places are used or free. -/
theorem sum_free {C : List Ad} (hC : C.Nodup) {D Z : Nat} (hp : ∀ x ∈ C, PlaceIn x D Z) (hZ : 5 ≤ Z) : ((List.range D).map fun d => (freeTo C d Z).length).sum + C.length = D * (Z - 5) := by
  have h1 := filt_sum D C fun x hx => by
    obtain ⟨p1, p2, -, -⟩ := hp x hx
    exact ⟨x.1.toNat, by omega, by show x.1 = _; omega⟩
  rw [← h1, ← sum_addN]
  have h2 : ((List.range D).map fun (d : Nat) => (freeTo C d Z).length + (C.filter fun x => decide (x.dev = (d : Int))).length) = (List.range D).map fun _ => Z - 5 := List.map_congr_left fun d _ => by
    have h3 := on_free hC (d := d) hp hZ
    have h4 : (canon (C.filter fun x => decide (x.dev = (d : Int)))).length = (C.filter fun x => decide (x.dev = (d : Int))).length :=
      ((List.perm_ext_iff_of_nodup ((canon_rises _).imp fun h => adLt_ne h) (List.Nodup.sublist List.filter_sublist hC)).2 fun x => mem_canon).length_eq
    omega
  rw [h2]
  clear h1 h2 hp hC
  induction D with
  | zero => simp
  | succ D ih =>
    rw [List.range_succ, List.map_append, List.sum_append, ih, Nat.succ_mul]
    simp
theorem rises_nodup' {l : List Ad} (h : Rises l) : l.Nodup := h.imp fun h => adLt_ne h
theorem canon_of_rises {l : List Ad} (h : Rises l) : canon l = l := (canon_eq h fun x => Iff.rfl).symm
theorem taken_apart {M : List Ad} {D Z cp : Nat} {th : List Bool} {l : List Nat} (hc : chooseL (freeN M D Z) th cp = some l) : ((takenL M Z l).map (·.dev)).Nodup := by
  unfold takenL
  rw [List.map_map, List.Nodup, List.pairwise_map]
  refine List.Pairwise.imp ?_ (choose_some hc).2.2.2.1
  intro d e hde h
  have h' : (d : Int) = (e : Int) := h
  omega
theorem taken_none {M : List Ad} {D Z cp : Nat} {th : List Bool} {l : List Nat} (hb : 2 ≤ D ∧ D ≤ 8 ∧ 8 ≤ Z ∧ Z ≤ 4096) (hc : chooseL (freeN M D Z) th cp = some l) : canon ((takenL M Z l).filter fun x => decide (x ∈ M)) = [] := by
  have : (takenL M Z l).filter (fun x => decide (x ∈ M)) = [] := by
    rw [List.filter_eq_nil_iff]
    intro x hx
    rw [decide_eq_true_eq]
    exact (taken_new hb hc hx).2.1
  rw [this]
  exact canon_nil
theorem taken_there {M : List Ad} {D Z cp : Nat} {th : List Bool} {l : List Nat} (hc : chooseL (freeN M D Z) th cp = some l) {d : Nat} (hd : d ∈ l) : th.getD d false = true := by
  have h1 := ((choose_some hc).2.2.2.2 d hd).2
  unfold canTake at h1
  rw [Bool.and_eq_true] at h1
  exact h1.1
theorem taken_some {M : List Ad} {D Z cp : Nat} {th : List Bool} {l : List Nat} (hc : chooseL (freeN M D Z) th cp = some l) (h1 : 0 < cp) : 0 < l.length := by
  have h := choose_some hc
  rw [h.2.1]
  have := h.2.2.1
  unfold wantN
  omega
/-- What Take leaves, in one form. -/
theorem take_sum {w w' : World} {lo a b D Z : Nat} {c : Nat → Option Nat} {C : List Ad} {th : List Bool} {cp : Int} {e : Ending} (hb : 2 ≤ D ∧ D ≤ 8 ∧ 8 ≤ Z ∧ Z ≤ 4096) (h : LedIs w lo a b c D Z C) (hp : TakePost w lo a b c D Z C th cp e w') :
    ∃ (v : Value) (gg : List Ad) (g : Int), e = .returned (.tuple #[v, .int .i64 g]) ∧ LedIs w' lo a b c D Z (C ++ gg) ∧ w'.ownsRow w.heap.size 50 2 v gg.length (adCells gg) ∧ Keep (Own a b c D) w w' ∧ gg.length ≤ 8 ∧
      (gg.map (·.dev)).Nodup ∧ canon (gg.filter fun x => decide (x ∈ C)) = [] ∧ (∃ bb : Bool, (g == 0) = bb ∧ decide (0 < gg.length) = bb) ∧
      ∀ x ∈ gg, mayB x D Z = true ∧ ∃ d t : Nat, x = ⟨(d : Int), (t : Int)⟩ ∧ d < D ∧ d < th.length ∧ th.getD d false = true := by
  have none : ∀ g : Int, (g == 0) = false → Keep noBlk w w' → e = .returned (.tuple #[.slice none 0 0, .int .i64 g]) → ∃ (v : Value) (gg : List Ad) (g : Int), e = .returned (.tuple #[v, .int .i64 g]) ∧ LedIs w' lo a b c D Z (C ++ gg) ∧ w'.ownsRow w.heap.size 50 2 v gg.length (adCells gg) ∧ Keep (Own a b c D) w w' ∧ gg.length ≤ 8 ∧
      (gg.map (·.dev)).Nodup ∧ canon (gg.filter fun x => decide (x ∈ C)) = [] ∧ (∃ bb : Bool, (g == 0) = bb ∧ decide (0 < gg.length) = bb) ∧
      ∀ x ∈ gg, mayB x D Z = true ∧ ∃ d t : Nat, x = ⟨(d : Int), (t : Int)⟩ ∧ d < D ∧ d < th.length ∧ th.getD d false = true := fun g hg k he =>
    ⟨_, [], g, he, by rw [List.append_nil]; exact h.keep0 k, World.ownsRow_nil _ _ _ _, k.mono (fun _ _ h => h.elim), Nat.zero_le _, List.nodup_nil, canon_nil, ⟨false, hg, rfl⟩, fun x hx => (by cases hx)⟩
  unfold TakePost at hp
  split at hp
  · rename_i hck
    split at hp
    · exact none 15 rfl hp.2 hp.1
    · rename_i l hl
      obtain ⟨v, rfl, h1, h2, h3⟩ := hp
      have hcs := choose_some hl
      have hth : th.length = D ∧ 1 ≤ cp := by
        unfold checkB at hck
        rw [freeN_len] at hck
        simp only [Bool.and_eq_true, decide_eq_true_eq] at hck
        omega
      have h8 : l.length ≤ 8 := by
        have h1 : l.length ≤ (List.range D).length := List.Nodup.length_le_of_subset hcs.2.2.2.1 fun d hd => List.mem_range.2 (choose_head hl hd).1
        rw [List.length_range] at h1
        omega
      have h0 := taken_some hl (by omega)
      refine ⟨v, takenL C Z l, 0, rfl, h1, by rw [takenL_len]; exact h2, h3, by rw [takenL_len]; exact h8, taken_apart hl, taken_none hb hl, ⟨true, rfl, by rw [takenL_len]; exact decide_eq_true h0⟩, fun x hx => ?_⟩
      obtain ⟨i1, -, d, t, rfl, i2, -⟩ := taken_new hb hl hx
      have i3 := (choose_head hl i2).1
      exact ⟨i1, d, t, rfl, i3, by omega, taken_there hl i2⟩
  · exact none 2 rfl hp.2 hp.1
end Go.Proofs.Ytfjklgbakhjjiaa
