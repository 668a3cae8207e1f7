/-
  Rising lists of addresses, in plain Lean: there is just one with given members; insertion.
  Conditions: none.
-/
import Derived.Test.YtfjklgbakhjjiaaSetAddr
namespace Go.Proofs.Ytfjklgbakhjjiaa
open Go.RowKit Go.Maps Go.ChangeMaps
set_option maxRecDepth 100000
set_option linter.unusedVariables false

def Rises (l : List Ad) : Prop := l.Pairwise fun x y => adLt x y = true
theorem adLt_asymm {x y : Ad} (h : adLt x y = true) : adLt y x = false := by rw [adLt_iff] at h; rw [adLt_false]; omega
theorem adLt_ne {x y : Ad} (h : adLt x y = true) : x ≠ y := by
  intro e
  subst e
  rw [adLt_irrefl] at h
  cases h
theorem rises_ext : ∀ {l m : List Ad}, Rises l → Rises m → (∀ x, x ∈ l ↔ x ∈ m) → l = m
  | [], [], _, _, _ => rfl
  | [], y :: m, _, _, h => absurd ((h y).2 (by simp)) (by simp)
  | x :: l, [], _, _, h => absurd ((h x).1 (by simp)) (by simp)
  | x :: l, y :: m, hl, hm, h => by
    unfold Rises at hl hm
    rw [List.pairwise_cons] at hl hm
    have hxy : x = y := by
      have h1 : x = y ∨ x ∈ m := by simpa using (h x).1 (by simp)
      have h2 : y = x ∨ y ∈ l := by simpa using (h y).2 (by simp)
      rcases h1 with h1 | h1
      · exact h1
      · rcases h2 with h2 | h2
        · exact h2.symm
        · have a := hm.1 x h1
          rw [adLt_asymm (hl.1 y h2)] at a
          cases a
    subst hxy
    have : l = m := rises_ext hl.2 hm.2 fun z => by
      constructor
      · intro hz
        have : z = x ∨ z ∈ m := by simpa using (h z).1 (by simp [hz])
        exact this.resolve_left fun e => adLt_ne (hl.1 z hz) e.symm
      · intro hz
        have : z = x ∨ z ∈ l := by simpa using (h z).2 (by simp [hz])
        exact this.resolve_left fun e => adLt_ne (hm.1 z hz) e.symm
    rw [this]

theorem mem_keys_upsert (l : List (Ad × Nix)) (a x : Ad) (v : Nix) : x ∈ keysA (upsert l a v) ↔ x ∈ keysA l ∨ x = a := by
  unfold upsert keysA
  split
  · rename_i h
    have hk : (l.map fun p => if p.1 = a then (a, v) else p).map (·.1) = l.map (·.1) := by
      rw [List.map_map]
      apply List.map_congr_left
      intro p _
      simp only [Function.comp]
      split
      · rename_i e; exact e.symm
      · rfl
    rw [hk]
    constructor
    · exact fun h => .inl h
    · rintro (h' | rfl)
      · exact h'
      · obtain ⟨p, hp, he⟩ := List.any_eq_true.1 h
        exact List.mem_map.2 ⟨p, hp, of_decide_eq_true he⟩
  · simp
theorem nodup_upsert {l : List (Ad × Nix)} (h : (keysA l).Nodup) (a : Ad) (v : Nix) : (keysA (upsert l a v)).Nodup := by
  unfold upsert keysA at *
  split
  · have hk : (l.map fun p => if p.1 = a then (a, v) else p).map (·.1) = l.map (·.1) := by
      rw [List.map_map]
      apply List.map_congr_left
      intro p _
      simp only [Function.comp]
      split
      · rename_i e; exact e.symm
      · rfl
    rw [hk]; exact h
  · rename_i hn
    rw [List.map_append, List.nodup_append]
    refine ⟨h, by simp, ?_⟩
    intro x hx y hy e
    simp only [List.map_cons, List.map_nil, List.mem_singleton] at hy
    subst hy
    subst e
    obtain ⟨p, hp, he⟩ := List.mem_map.1 hx
    exact hn (List.any_eq_true.2 ⟨p, hp, decide_eq_true he⟩)
theorem setOf_keys (l : List Ad) : (keysA (setOf l)).Nodup ∧ ∀ x, x ∈ keysA (setOf l) ↔ x ∈ l := by
  suffices h : ∀ (l : List Ad) (s : List (Ad × Nix)), (keysA s).Nodup → (keysA (l.foldl (fun s a => upsert s a .nix) s)).Nodup ∧ ∀ x, x ∈ keysA (l.foldl (fun s a => upsert s a .nix) s) ↔ x ∈ keysA s ∨ x ∈ l by
    have := h l [] (by simp [keysA])
    exact ⟨this.1, fun x => by rw [show setOf l = l.foldl (fun s a => upsert s a .nix) [] from rfl, this.2 x]; simp [keysA]⟩
  intro l
  induction l with
  | nil => intro s hs; exact ⟨hs, fun x => by simp⟩
  | cons a l ih =>
    intro s hs
    have := ih (upsert s a .nix) (nodup_upsert hs a .nix)
    refine ⟨this.1, fun x => ?_⟩
    rw [List.foldl_cons, this.2 x, mem_keys_upsert, List.mem_cons]
    constructor
    · rintro ((h | h) | h) <;> simp [h]
    · rintro (h | h | h) <;> simp [h]
theorem rises_sortA {l : List Ad} (h : l.Nodup) : Rises (sortA l) := by
  have h1 : (sortA l).Pairwise fun x y => (!adLt y x) = true := List.pairwise_mergeSort sortA_tr sortA_tot l
  have h2 : (sortA l).Nodup := (List.mergeSort_perm l _).nodup_iff.2 h
  refine (List.Pairwise.and h1 h2).imp fun {x y} ⟨p, q⟩ => ?_
  simp only [Bool.not_eq_true'] at p
  cases e : adLt x y
  · exact absurd (adLt_total e p) q
  · rfl

/-- A list's members, each once, rising. -/
def canon (l : List Ad) : List Ad := sortA (keysA (setOf l))
theorem canon_rises (l : List Ad) : Rises (canon l) := rises_sortA (setOf_keys l).1
theorem mem_canon {l : List Ad} {x : Ad} : x ∈ canon l ↔ x ∈ l := by unfold canon; rw [mem_sortA]; exact (setOf_keys l).2 x
theorem canon_eq {l m : List Ad} (h : Rises l) (hm : ∀ x, x ∈ l ↔ x ∈ m) : l = canon m := rises_ext h (canon_rises m) fun x => by rw [mem_canon]; exact hm x
theorem canon_congr {l m : List Ad} (h : ∀ x, x ∈ l ↔ x ∈ m) : canon l = canon m := canon_eq (canon_rises l) fun x => by rw [mem_canon]; exact h x
theorem canon_len (l : List Ad) : (canon l).length ≤ l.length := by
  unfold canon
  rw [sortA_len]
  unfold keysA
  rw [List.length_map]
  exact setOf_len l
theorem canon_keys {s : List (Ad × Nix)} (h : (keysA s).Nodup) {l : List Ad} (hm : ∀ x, x ∈ keysA s ↔ x ∈ l) : sortA (keysA s) = canon l := canon_eq (rises_sortA h) fun x => by rw [mem_sortA]; exact hm x
theorem adsOk_canon {l : List Ad} (h : AdsOk l) : AdsOk (canon l) := fun x hx => h x (mem_canon.1 hx)

/-- How many of a list are ahead of an address. -/
def ahead (x : Ad) (l : List Ad) : Nat := (l.takeWhile fun y => adLt y x).length
theorem ahead_le (x : Ad) (l : List Ad) : ahead x l ≤ l.length := (List.takeWhile_sublist _).length_le
theorem ahead_lt {x : Ad} : ∀ {l : List Ad} {k : Nat}, k < ahead x l → ∃ y, l[k]? = some y ∧ adLt y x = true
  | [], k, h => by simp [ahead] at h
  | y :: l, k, h => by
    unfold ahead at h
    rw [List.takeWhile_cons] at h
    cases e : adLt y x
    · rw [e] at h; simp at h
    · cases k with
      | zero => exact ⟨y, rfl, e⟩
      | succ k =>
        rw [e] at h
        simp only [if_true, List.length_cons] at h
        exact ahead_lt (l := l) (k := k) (by unfold ahead; omega)
theorem ahead_at {x : Ad} : ∀ {l : List Ad} {y : Ad}, l[ahead x l]? = some y → adLt y x = false
  | [], y, h => by simp at h
  | z :: l, y, h => by
    unfold ahead at h
    rw [List.takeWhile_cons] at h
    cases e : adLt z x
    · rw [e] at h
      simp only [Bool.false_eq_true, if_false, List.length_nil, List.getElem?_cons_zero, Option.some.injEq] at h
      rw [← h]; exact e
    · rw [e] at h
      simp only [if_true, List.length_cons, List.getElem?_cons_succ] at h
      exact ahead_at (l := l) h
/-- An address laid in where it belongs, if it is not there. -/
def insA (x : Ad) (l : List Ad) : List Ad := if l[ahead x l]? = some x then l else l.take (ahead x l) ++ x :: l.drop (ahead x l)
theorem rises_insA {l : List Ad} (x : Ad) (h : Rises l) : Rises (insA x l) := by
  unfold insA
  split
  · exact h
  · rename_i hne
    have hs : Rises (l.take (ahead x l) ++ l.drop (ahead x l)) := by rw [List.take_append_drop]; exact h
    unfold Rises at hs ⊢
    rw [List.pairwise_append] at hs
    have h1 : ∀ a ∈ l.take (ahead x l), adLt a x = true := fun a ha => by
      obtain ⟨i, hi⟩ := List.getElem?_of_mem ha
      rw [List.getElem?_take] at hi
      split at hi
      · rename_i hlt
        obtain ⟨y, hy1, hy2⟩ := ahead_lt hlt
        rw [hy1] at hi; cases hi; exact hy2
      · cases hi
    have h2 : ∀ b ∈ l.drop (ahead x l), adLt x b = true := fun b hb => by
      rcases hd : l.drop (ahead x l) with _ | ⟨y, m⟩
      · rw [hd] at hb; simp at hb
      · have hy : l[ahead x l]? = some y := by
          have := congrArg (fun t => t[0]?) hd
          simpa [List.getElem?_drop] using this
        have e1 := ahead_at hy
        have hxy : adLt x y = true := by
          cases e : adLt x y
          · exact absurd (by rw [hy, adLt_total e1 e]) hne
          · rfl
        rw [hd] at hb
        rcases List.mem_cons.1 hb with rfl | hb
        · exact hxy
        · have hp := hs.2.1
          rw [hd, List.pairwise_cons] at hp
          exact adLt_trans hxy (hp.1 b hb)
    rw [List.pairwise_append]
    refine ⟨hs.1, List.pairwise_cons.2 ⟨h2, hs.2.1⟩, ?_⟩
    intro a ha b hb
    rcases List.mem_cons.1 hb with rfl | hb
    · exact h1 a ha
    · exact hs.2.2 a ha b hb
theorem mem_insA {l : List Ad} {x y : Ad} : y ∈ insA x l ↔ y ∈ l ∨ y = x := by
  unfold insA
  split
  · rename_i h
    exact ⟨.inl, fun h' => h'.elim id fun e => by rw [e]; exact List.mem_of_getElem? h⟩
  · have : y ∈ l ↔ y ∈ l.take (ahead x l) ∨ y ∈ l.drop (ahead x l) := by rw [← List.mem_append, List.take_append_drop]
    rw [this, List.mem_append, List.mem_cons]
    constructor
    · rintro (h | h | h) <;> simp [h]
    · rintro ((h | h) | h) <;> simp [h]
theorem canon_snoc (l : List Ad) (x : Ad) : insA x (canon l) = canon (l ++ [x]) :=
  canon_eq (rises_insA x (canon_rises l)) fun y => by rw [mem_insA, mem_canon, List.mem_append, List.mem_singleton]
theorem canon_nil : canon [] = [] := by simp [canon, setOf, keysA, sortA]
end Go.Proofs.Ytfjklgbakhjjiaa
