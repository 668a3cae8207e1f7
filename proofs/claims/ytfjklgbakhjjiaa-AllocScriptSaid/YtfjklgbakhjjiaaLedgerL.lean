/-
  A ledger of sectors, in plain Lean: which places are used, which are free.
  Conditions: none.
-/
import Derived.Test.YtfjklgbakhjjiaaPlaceL
import Derived.Test.YtfjklgbakhjjiaaCanonAddr
namespace Go.Proofs.Ytfjklgbakhjjiaa
set_option maxRecDepth 100000
set_option linter.unusedVariables false

/-- Sector s of device d is used. -/
def usedB (L : List Ad) (d s : Nat) : Bool := decide ((⟨(d : Int), (s : Int)⟩ : Ad) ∈ L)
def isFree (L : List Ad) (d s : Nat) : Bool := decide (5 ≤ s) && !usedB L d s
def freeTo (L : List Ad) (d k : Nat) : List Int := ((List.range k).filter (isFree L d)).map fun (s : Nat) => (s : Int)
theorem freeTo_zero (L : List Ad) (d : Nat) : freeTo L d 0 = [] := rfl
theorem freeTo_succ (L : List Ad) (d k : Nat) : freeTo L d (k + 1) = freeTo L d k ++ if isFree L d k then [(k : Int)] else [] := by
  unfold freeTo
  rw [List.range_succ, List.filter_append, List.map_append]
  congr 1
  cases h : isFree L d k <;> simp [h]
theorem freeTo_five (L : List Ad) (d : Nat) : freeTo L d 5 = [] := by
  unfold freeTo
  have : (List.range 5).filter (isFree L d) = [] := by
    rw [List.filter_eq_nil_iff]
    intro s hs
    have := List.mem_range.1 hs
    unfold isFree
    rw [decide_eq_false (by omega : ¬ 5 ≤ s)]
    simp
  rw [this]
  rfl
theorem mem_freeTo {L : List Ad} {d k : Nat} {x : Int} : x ∈ freeTo L d k ↔ ∃ s : Nat, x = (s : Int) ∧ s < k ∧ 5 ≤ s ∧ usedB L d s = false := by
  unfold freeTo
  rw [List.mem_map]
  constructor
  · rintro ⟨s, hs, rfl⟩
    obtain ⟨h1, h2⟩ := List.mem_filter.1 hs
    unfold isFree at h2
    rw [Bool.and_eq_true] at h2
    exact ⟨s, rfl, List.mem_range.1 h1, of_decide_eq_true h2.1, by simpa using h2.2⟩
  · rintro ⟨s, rfl, h1, h2, h3⟩
    refine ⟨s, List.mem_filter.2 ⟨List.mem_range.2 h1, ?_⟩, rfl⟩
    unfold isFree
    rw [decide_eq_true h2, h3]
    rfl
theorem freeTo_rises (L : List Ad) (d k : Nat) : (freeTo L d k).Pairwise (· < ·) := by
  unfold freeTo
  rw [List.pairwise_map]
  refine (List.Pairwise.filter _ List.pairwise_lt_range).imp ?_
  intro a b h
  exact Int.ofNat_lt.2 h
theorem freeTo_len (L : List Ad) (d k : Nat) : (freeTo L d k).length ≤ k - 5 := by
  induction k with
  | zero => simp [freeTo]
  | succ k ih =>
    rw [freeTo_succ, List.length_append]
    cases h : isFree L d k
    · simp only [Bool.false_eq_true, if_false, List.length_nil]; omega
    · unfold isFree at h
      rw [Bool.and_eq_true] at h
      have := of_decide_eq_true h.1
      simp only [if_true, List.length_singleton]
      omega
theorem freeTo_congr {L M : List Ad} {d k : Nat} (h : ∀ s, s < k → 5 ≤ s → usedB L d s = usedB M d s) : freeTo L d k = freeTo M d k := by
  unfold freeTo
  rw [List.filter_congr]
  intro s hs
  unfold isFree
  by_cases h5 : 5 ≤ s
  · rw [h s (List.mem_range.1 hs) h5]
  · rw [decide_eq_false h5]; rfl
theorem usedB_congr {L M : List Ad} (h : ∀ x, x ∈ L ↔ x ∈ M) (d s : Nat) : usedB L d s = usedB M d s := by
  unfold usedB
  rw [decide_eq_decide]
  exact h _
theorem usedB_snoc (L : List Ad) (e t d s : Nat) : usedB (L ++ [⟨(e : Int), (t : Int)⟩]) d s = (usedB L d s || (decide (d = e) && decide (s = t))) := by
  unfold usedB
  rw [Bool.eq_iff_iff]
  simp only [List.mem_append, List.mem_singleton, decide_eq_true_eq, Bool.or_eq_true, Bool.and_eq_true, Ad.mk.injEq]
  constructor
  · rintro (h | ⟨h1, h2⟩)
    · exact .inl h
    · exact .inr ⟨by omega, by omega⟩
  · rintro (h | ⟨h1, h2⟩)
    · exact .inl h
    · exact .inr ⟨by omega, by omega⟩
/-- What the next one that is taken leaves. -/
theorem freeTo_take {L : List Ad} {d S : Nat} {x : Int} {r : List Int} (h : freeTo L d S = x :: r) : ∃ t : Nat, x = (t : Int) ∧ t < S ∧ 5 ≤ t ∧ usedB L d t = false ∧ (∀ s, 5 ≤ s → s < t → usedB L d s = true) ∧ freeTo (L ++ [⟨(d : Int), x⟩]) d S = r := by
  have hm : x ∈ freeTo L d S := by rw [h]; exact List.mem_cons_self ..
  obtain ⟨t, rfl, h1, h2, h3⟩ := mem_freeTo.1 hm
  have hr := freeTo_rises L d S
  rw [h, List.pairwise_cons] at hr
  refine ⟨t, rfl, h1, h2, h3, fun s hs1 hs2 => ?_, ?_⟩
  · cases hu : usedB L d s with
    | true => rfl
    | false =>
      have : (s : Int) ∈ freeTo L d S := mem_freeTo.2 ⟨s, rfl, by omega, hs1, hu⟩
      rw [h] at this
      rcases List.mem_cons.1 this with e | e
      · omega
      · have := hr.1 _ e
        omega
  · have e : freeTo (L ++ [⟨(d : Int), (t : Int)⟩]) d S = (freeTo L d S).filter fun y => !decide (y = (t : Int)) := by
      unfold freeTo
      rw [List.filter_map, List.filter_filter]
      congr 1
      refine List.filter_congr fun s hs => ?_
      unfold isFree
      rw [usedB_snoc]
      simp only [Function.comp, decide_true, Bool.true_and]
      by_cases e : s = t
      · subst e; simp
      · have : ¬ (s : Int) = (t : Int) := by omega
        simp [e, this]
    rw [e, h, List.filter_cons]
    rw [if_neg (by simp)]
    refine List.filter_eq_self.2 fun y hy => ?_
    have := hr.1 y hy
    have hne : ¬ y = (t : Int) := by omega
    simp [hne]
theorem freeTo_other {L : List Ad} {d e t S : Nat} (h : d ≠ e) : freeTo (L ++ [⟨(e : Int), (t : Int)⟩]) d S = freeTo L d S := freeTo_congr fun s _ _ => by
  rw [usedB_snoc, decide_eq_false h]
  simp
/-- A place of a ledger. -/
def PlaceIn (x : Ad) (D S : Nat) : Prop := 0 ≤ x.1 ∧ x.1 < (D : Int) ∧ 5 ≤ x.2 ∧ x.2 < (S : Int)
def freeN (L : List Ad) (D S : Nat) : List Int := (List.range D).map fun d => ((freeTo L d S).length : Int)
theorem freeN_len (L : List Ad) (D S : Nat) : (freeN L D S).length = D := by simp [freeN]
theorem freeN_get (L : List Ad) {D S d : Nat} (h : d < D) : (freeN L D S).getD d 0 = ((freeTo L d S).length : Int) := by
  unfold freeN
  rw [List.getD_eq_getElem?_getD, List.getElem?_map, List.getElem?_range h]
  rfl
/-- How many of a device are used, and how many are free. -/
theorem on_free {L : List Ad} (hL : L.Nodup) {D S d : Nat} (hp : ∀ x ∈ L, PlaceIn x D S) (hS : 5 ≤ S) : (canon (L.filter fun x => decide (x.dev = (d : Int)))).length + (freeTo L d S).length = S - 5 := by
  have hnd : (L.filter fun x => decide (x.dev = (d : Int))).Nodup := List.Nodup.sublist List.filter_sublist hL
  have h1 : (canon (L.filter fun x => decide (x.dev = (d : Int)))).length = (L.filter fun x => decide (x.dev = (d : Int))).length :=
    ((List.perm_ext_iff_of_nodup ((canon_rises _).imp fun h => adLt_ne h) hnd).2 fun x => mem_canon).length_eq
  have h2 : (L.filter fun x => decide (x.dev = (d : Int))).length = ((List.range S).filter fun s => decide (5 ≤ s) && usedB L d s).length := by
    have e : (((List.range S).filter fun s => decide (5 ≤ s) && usedB L d s).map fun (s : Nat) => (⟨(d : Int), (s : Int)⟩ : Ad)).Perm (L.filter fun x => decide (x.dev = (d : Int))) := by
      refine (List.perm_ext_iff_of_nodup ?_ hnd).2 fun x => ?_
      · rw [List.Nodup, List.pairwise_map]
        refine (List.Nodup.sublist List.filter_sublist List.nodup_range).imp ?_
        intro a b hab e
        injection e with _ e
        exact hab (by omega)
      · rw [List.mem_map, List.mem_filter]
        constructor
        · rintro ⟨s, hs, rfl⟩
          obtain ⟨-, h4⟩ := List.mem_filter.1 hs
          rw [Bool.and_eq_true] at h4
          exact ⟨of_decide_eq_true h4.2, decide_eq_true rfl⟩
        · rintro ⟨hx, hd⟩
          obtain ⟨xd, xs⟩ := x
          obtain ⟨p1, p2, p3, p4⟩ := hp _ hx
          have hdd : xd = (d : Int) := of_decide_eq_true hd
          clear hd
          simp only at p1 p2 p3 p4
          obtain ⟨s, rfl⟩ : ∃ s : Nat, xs = (s : Int) := ⟨xs.toNat, by omega⟩
          subst hdd
          exact ⟨s, List.mem_filter.2 ⟨List.mem_range.2 (by omega), by rw [decide_eq_true (by omega : 5 ≤ s)]; exact decide_eq_true hx⟩, rfl⟩
    rw [← e.length_eq, List.length_map]
  have h3 : (freeTo L d S).length = ((List.range S).filter fun s => decide (5 ≤ s) && !usedB L d s).length := by unfold freeTo isFree; rw [List.length_map]
  rw [h1, h2, h3]
  clear h1 h2 h3 hnd hp hL
  induction S with
  | zero => omega
  | succ S ih =>
    rcases Nat.lt_or_ge S 5 with h | h
    · have e : S = 4 := by omega
      subst e
      have z : ∀ p : Nat → Bool, ((List.range (4 + 1)).filter fun s => decide (5 ≤ s) && p s) = [] := fun p => by
        rw [List.filter_eq_nil_iff]
        intro s hs
        have := List.mem_range.1 hs
        rw [decide_eq_false (by omega : ¬ 5 ≤ s)]
        simp
      rw [z, z]
      rfl
    · have ih := ih h
      rw [List.range_succ, List.filter_append, List.filter_append, List.length_append, List.length_append]
      cases hu : usedB L d S <;> simp [hu, h] <;> omega
end Go.Proofs.Ytfjklgbakhjjiaa
