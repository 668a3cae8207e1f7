/-
  Of which pool labels are: counted by a map and its sorted keys, or gone through one by one: the same.
  Conditions: none; no program is in sight.
-/
import Derived.Test.YtdlegbcdmlmbpaaPlain4
import Derived.Test.YtdlegbcdmlmbpaaMap
import Derived.Test.YtdlegbcdmlmbpaaCmp
namespace Go.Proofs.Ytdlegbcdmlmbpaa
set_option linter.unusedVariables false

def sortL (l : List (List UInt8)) : List (List UInt8) := l.mergeSort fun x y => !idLt y x
theorem sort_tr (x y z : List UInt8) (h : (!idLt y x) = true) (k : (!idLt z y) = true) : (!idLt z x) = true := by
  simp only [Bool.not_eq_true'] at *
  cases h1 : idLt z x
  · rfl
  · cases h2 : idLt x y
    · rw [idLt_total h h2] at k; rw [k] at h1; cases h1
    · rw [idLt_trans h1 h2] at k; cases k
theorem sort_tot (x y : List UInt8) : ((!idLt y x) || (!idLt x y)) = true := by
  cases h1 : idLt y x
  · rfl
  · rw [idLt_asym h1]; rfl
theorem sortL_perm {a b : List (List UInt8)} (h : a.Perm b) : sortL a = sortL b := by
  refine List.Perm.eq_of_pairwise (le := fun x y => (!idLt y x) = true) ?_ (List.pairwise_mergeSort sort_tr sort_tot a) (List.pairwise_mergeSort sort_tr sort_tot b) (((List.mergeSort_perm a _).trans h).trans (List.mergeSort_perm b _).symm)
  intro x y _ _ h k
  simp only [Bool.not_eq_true'] at h k
  exact idLt_total k h
theorem mem_sortL {a : List (List UInt8)} {x : List UInt8} : x ∈ sortL a ↔ x ∈ a := (List.mergeSort_perm a _).mem_iff

theorem revRec {α : Type} {motive : List α → Prop} (l : List α) (nil : motive []) (snoc : ∀ l x, motive l → motive (l ++ [x])) : motive l := by
  have : ∀ n (l : List α), l.length = n → motive l := by
    intro n
    induction n with
    | zero => intro l h; rw [List.eq_nil_of_length_eq_zero h]; exact nil
    | succ n ih =>
      intro l h
      have hne : l ≠ [] := fun e => by rw [e] at h; cases h
      rw [← List.dropLast_concat_getLast hne]
      exact snoc _ _ (ih _ (by rw [List.length_dropLast, h]; rfl))
  exact this _ l rfl

section
variable {α β : Type} [DecidableEq α]
theorem look_nil (a : α) : look ([] : List (α × β)) a = none := rfl
theorem look_cons (p : α × β) (l : List (α × β)) (a : α) : look (p :: l) a = if p.1 = a then some p.2 else look l a := by
  unfold look
  rw [List.find?_cons]
  by_cases h : p.1 = a
  · rw [decide_eq_true h, if_pos h]; rfl
  · rw [decide_eq_false h, if_neg h]
theorem look_append (l m : List (α × β)) (a : α) : look (l ++ m) a = (look l a).or (look m a) := by
  induction l with
  | nil => rfl
  | cons p l ih =>
    rw [List.cons_append, look_cons, look_cons, ih]
    by_cases h : p.1 = a
    · rw [if_pos h, if_pos h]; rfl
    · rw [if_neg h, if_neg h]
theorem look_some_iff {l : List (α × β)} {a : α} : (look l a).isSome = true ↔ a ∈ l.map (·.1) := by
  induction l with
  | nil => simp [look_nil]
  | cons p l ih =>
    rw [look_cons, List.map_cons, List.mem_cons]
    by_cases h : p.1 = a
    · rw [if_pos h]; simp [h]
    · rw [if_neg h, ih]
      constructor
      · exact .inr
      · rintro (e | e)
        · exact absurd e.symm h
        · exact e
theorem look_map_other {l : List (α × β)} {a b : α} {v : β} (h : b ≠ a) : look (l.map fun p => if p.1 = a then (a, v) else p) b = look l b := by
  induction l with
  | nil => rfl
  | cons p l ih =>
    rw [List.map_cons, look_cons, look_cons, ih]
    by_cases e : p.1 = a
    · rw [if_pos e, if_neg (fun e2 : a = b => h e2.symm), if_neg (fun e2 : p.1 = b => h (e2.symm.trans e))]
    · rw [if_neg e]
theorem look_map_same {l : List (α × β)} {a : α} {v : β} (h : ∃ p ∈ l, p.1 = a) : look (l.map fun p => if p.1 = a then (a, v) else p) a = some v := by
  induction l with
  | nil => obtain ⟨p, hp, -⟩ := h; cases hp
  | cons p l ih =>
    rw [List.map_cons, look_cons]
    by_cases e : p.1 = a
    · rw [if_pos e, if_pos rfl]
    · rw [if_neg e, if_neg e]
      obtain ⟨q, hq, hqa⟩ := h
      rcases List.mem_cons.1 hq with rfl | hq
      · exact absurd hqa e
      · exact ih ⟨q, hq, hqa⟩
theorem look_upsert (l : List (α × β)) (a b : α) (v : β) : look (upsert l a v) b = if b = a then some v else look l b := by
  unfold upsert
  by_cases h : l.any (fun p => decide (p.1 = a)) = true
  · rw [if_pos h]
    by_cases e : b = a
    · subst e
      rw [if_pos rfl]
      simp only [List.any_eq_true, decide_eq_true_eq] at h
      exact look_map_same h
    · rw [if_neg e, look_map_other e]
  · rw [if_neg h, look_append, look_cons, look_nil]
    by_cases e : b = a
    · subst e
      rw [if_pos rfl, if_pos rfl]
      have : look l b = none := by
        rcases hl : look l b with _ | x
        · rfl
        · have h1 : (look l b).isSome = true := by rw [hl]; rfl
          rw [look_some_iff] at h1
          obtain ⟨p, hp, hpa⟩ := List.mem_map.1 h1
          exact absurd (List.any_eq_true.2 ⟨p, hp, decide_eq_true hpa⟩) h
      rw [this]; rfl
    · rw [if_neg e, if_neg (fun e2 => e e2.symm)]
      cases look l b <;> rfl
theorem upsert_upsert (l : List (α × β)) (a : α) (v u : β) : upsert (upsert l a v) a u = upsert l a u := by
  unfold upsert
  by_cases h : l.any (fun p => decide (p.1 = a)) = true
  · rw [if_pos h, if_pos h, if_pos, List.map_map]
    · congr 1
      funext p
      by_cases e : p.1 = a
      · simp [e]
      · simp [e]
    · simp only [List.any_eq_true, decide_eq_true_eq, List.mem_map] at h ⊢
      obtain ⟨p, hp, e⟩ := h
      exact ⟨_, ⟨p, hp, rfl⟩, by simp [e]⟩
  · rw [if_neg h, if_neg h, if_pos (by simp)]
    rw [List.map_append]
    congr 1
    · refine (List.map_congr_left fun p hp => ?_).trans (List.map_id l)
      have : p.1 ≠ a := fun e => h (List.any_eq_true.2 ⟨p, hp, decide_eq_true e⟩)
      simp [this]
    · simp
theorem upsert_len (l : List (α × β)) (a : α) (v : β) : (upsert l a v).length ≤ l.length + 1 := by
  unfold upsert
  split
  · simp
  · simp
end

/-- How many labels that may be are of a pool. -/
def cntP (l : List Lab) (p : List UInt8) : Nat := (l.filter fun x => x.may && decide (x.pool = p)).length
theorem cntP_snoc (l : List Lab) (x : Lab) (p : List UInt8) : cntP (l ++ [x]) p = cntP l p + if x.may = true ∧ x.pool = p then 1 else 0 := by
  unfold cntP
  rw [List.filter_append, List.length_append]
  congr 1
  by_cases h : x.may = true ∧ x.pool = p
  · rw [if_pos h]; simp [h.1, h.2]
  · rw [if_neg h]
    have : (x.may && decide (x.pool = p)) = false := by
      cases hm : x.may
      · rfl
      · simp only [Bool.true_and, decide_eq_false_iff_not]; exact fun e => h ⟨hm, e⟩
    simp [this]
theorem cntP_pos {l : List Lab} {p : List UInt8} (h : 0 < cntP l p) : ∃ x ∈ l, x.may = true ∧ x.pool = p := by
  unfold cntP at h
  obtain ⟨x, hx⟩ := List.exists_mem_of_length_pos h
  rw [List.mem_filter] at hx
  simp only [Bool.and_eq_true, decide_eq_true_eq] at hx
  exact ⟨x, hx.1, hx.2⟩

/-- What the map holds behind some labels. -/
def tstep (m : List (List UInt8 × Int)) (x : Lab) : List (List UInt8 × Int) := if x.may = true then upsert m x.pool ((look m x.pool).getD 0 + 1) else m
def tally (l : List Lab) : List (List UInt8 × Int) := l.foldl tstep []
theorem tally_snoc (l : List Lab) (x : Lab) : tally (l ++ [x]) = tstep (tally l) x := by simp [tally, List.foldl_append]
theorem tally_look : ∀ (l : List Lab) (p : List UInt8), look (tally l) p = if cntP l p = 0 then none else some (cntP l p : Int) := by
  intro l
  induction l using revRec with
  | nil => intro p; rfl
  | snoc l x ih =>
    intro p
    rw [tally_snoc]
    unfold tstep
    by_cases hp : x.may = true ∧ x.pool = p
    · obtain ⟨hm, rfl⟩ := hp
      have e : cntP (l ++ [x]) x.pool = cntP l x.pool + 1 := by rw [cntP_snoc, if_pos ⟨hm, rfl⟩]
      rw [e, if_pos hm, look_upsert, if_pos rfl, if_neg (by omega), ih]
      by_cases h0 : cntP l x.pool = 0
      · rw [if_pos h0, h0]; rfl
      · rw [if_neg h0]; simp
    · have e : cntP (l ++ [x]) p = cntP l p := by rw [cntP_snoc, if_neg hp, Nat.add_zero]
      rw [e]
      by_cases hm : x.may = true
      · rw [if_pos hm, look_upsert, if_neg (fun e => hp ⟨hm, e.symm⟩), ih]
      · rw [if_neg hm, ih]
theorem tally_getD (l : List Lab) (p : List UInt8) : (look (tally l) p).getD 0 = (cntP l p : Int) := by
  rw [tally_look]
  by_cases h : cntP l p = 0
  · rw [if_pos h, h]; rfl
  · rw [if_neg h]; rfl
theorem tally_keys (l : List Lab) (p : List UInt8) : p ∈ (tally l).map (·.1) ↔ 0 < cntP l p := by
  rw [← look_some_iff, tally_look]
  by_cases h : cntP l p = 0
  · rw [if_pos h, h]; simp
  · rw [if_neg h]; simp; omega
theorem tally_len (l : List Lab) : (tally l).length ≤ l.length := by
  induction l using revRec with
  | nil => simp [tally]
  | snoc l x ih =>
    rw [tally_snoc, List.length_append]
    unfold tstep
    split
    · have := upsert_len (tally l) x.pool ((look (tally l) x.pool).getD 0 + 1); simp; omega
    · simp; omega

def zeros : List UInt8 := List.replicate 32 0
/-- One more pool, by the program; by the document. -/
def stepA (l : List Lab) (s : List UInt8 × Nat) (p : List UInt8) : List UInt8 × Nat := if s.2 < cntP l p then (p, cntP l p) else s
def stepB (l : List Lab) (s : List UInt8 × Nat) (p : List UInt8) : List UInt8 × Nat := if s.2 < cntP l p ∨ cntP l p = s.2 ∧ 0 < cntP l p ∧ idLt p s.1 = true then (p, cntP l p) else s
def poolKeys (l : List Lab) : List (List UInt8) := sortL ((tally l).map (·.1))
def poolA (l : List Lab) : List UInt8 × Nat := (poolKeys l).foldl (stepA l) (zeros, 0)
def poolB (l : List Lab) : List UInt8 × Nat := (l.map (·.pool)).foldl (stepB l) (zeros, 0)

/-- The pool that most are of; of several, the least one. -/
def BestP (l : List Lab) (ps : List (List UInt8)) (s : List UInt8 × Nat) : Prop :=
  (s.2 = 0 ∧ s.1 = zeros ∧ ∀ p ∈ ps, cntP l p = 0) ∨ (0 < s.2 ∧ s.1 ∈ ps ∧ cntP l s.1 = s.2 ∧ ∀ p ∈ ps, cntP l p ≤ s.2 ∧ (cntP l p = s.2 → idLt p s.1 = false))
theorem BestP.nil (l : List Lab) : BestP l [] (zeros, 0) := .inl ⟨rfl, rfl, fun p hp => by cases hp⟩
theorem BestP.uniq {l : List Lab} {ps qs : List (List UInt8)} {s t : List UInt8 × Nat} (h : BestP l ps s) (k : BestP l qs t) (hpq : ∀ p, 0 < cntP l p → (p ∈ ps ∧ p ∈ qs)) : s = t := by
  rcases h with ⟨h1, h2, h3⟩ | ⟨h1, h2, h3, h4⟩ <;> rcases k with ⟨k1, k2, k3⟩ | ⟨k1, k2, k3, k4⟩
  · exact Prod.ext (h2.trans k2.symm) (h1.trans k1.symm)
  · have := h3 t.1 (hpq t.1 (by omega)).1; omega
  · have := k3 s.1 (hpq s.1 (by omega)).2; omega
  · have a1 := h4 t.1 (hpq t.1 (by omega)).1
    have a2 := k4 s.1 (hpq s.1 (by omega)).2
    have e : s.2 = t.2 := by omega
    exact Prod.ext (idLt_total (a2.2 (by omega)) (a1.2 (by omega))) e
theorem BestP.stepA {l : List Lab} {ps : List (List UInt8)} {s : List UInt8 × Nat} (h : BestP l ps s) {p : List UInt8} (hs : ∀ q ∈ ps, idLt p q = false) : BestP l (ps ++ [p]) (stepA l s p) := by
  unfold Go.Proofs.Ytdlegbcdmlmbpaa.stepA
  by_cases hc : s.2 < cntP l p
  · rw [if_pos hc]
    refine .inr ⟨by show 0 < cntP l p; omega, by simp, rfl, fun q hq => ?_⟩
    simp only [List.mem_append, List.mem_singleton] at hq
    rcases hq with hq | rfl
    · rcases h with ⟨h1, h2, h3⟩ | ⟨h1, h2, h3, h4⟩
      · have := h3 q hq; exact ⟨by show _ ≤ cntP l p; omega, fun e => absurd (show cntP l q = cntP l p from e) (by omega)⟩
      · have := (h4 q hq).1; exact ⟨by show _ ≤ cntP l p; omega, fun e => absurd (show cntP l q = cntP l p from e) (by omega)⟩
    · exact ⟨Nat.le_refl _, fun _ => idLt_irrefl _⟩
  · rw [if_neg hc]
    rcases h with ⟨h1, h2, h3⟩ | ⟨h1, h2, h3, h4⟩
    · refine .inl ⟨h1, h2, fun q hq => ?_⟩
      simp only [List.mem_append, List.mem_singleton] at hq
      rcases hq with hq | rfl
      · exact h3 q hq
      · omega
    · refine .inr ⟨h1, by simp [h2], h3, fun q hq => ?_⟩
      simp only [List.mem_append, List.mem_singleton] at hq
      rcases hq with hq | rfl
      · exact h4 q hq
      · exact ⟨by omega, fun _ => hs _ h2⟩
theorem BestP.stepB {l : List Lab} {ps : List (List UInt8)} {s : List UInt8 × Nat} (h : BestP l ps s) (p : List UInt8) : BestP l (ps ++ [p]) (stepB l s p) := by
  unfold Go.Proofs.Ytdlegbcdmlmbpaa.stepB
  by_cases hc : s.2 < cntP l p ∨ cntP l p = s.2 ∧ 0 < cntP l p ∧ idLt p s.1 = true
  · rw [if_pos hc]
    have hpos : 0 < cntP l p := by rcases hc with hc | hc <;> omega
    refine .inr ⟨hpos, by simp, rfl, fun q hq => ?_⟩
    simp only [List.mem_append, List.mem_singleton] at hq
    rcases hq with hq | rfl
    · rcases h with ⟨h1, h2, h3⟩ | ⟨h1, h2, h3, h4⟩
      · have := h3 q hq; exact ⟨by show _ ≤ cntP l p; omega, fun e => absurd (show cntP l q = cntP l p from e) (by omega)⟩
      · have a := h4 q hq
        refine ⟨by show _ ≤ cntP l p; rcases hc with hc | hc <;> omega, fun e => ?_⟩
        have e' : cntP l q = cntP l p := e
        rcases hc with hc | ⟨hc1, hc2, hc3⟩
        · omega
        · show idLt q p = false
          cases hqp : idLt q p
          · rfl
          · have := a.2 (by omega)
            rw [idLt_trans hqp hc3] at this
            cases this
    · exact ⟨Nat.le_refl _, fun _ => idLt_irrefl _⟩
  · rw [if_neg hc]
    rcases h with ⟨h1, h2, h3⟩ | ⟨h1, h2, h3, h4⟩
    · refine .inl ⟨h1, h2, fun q hq => ?_⟩
      simp only [List.mem_append, List.mem_singleton] at hq
      rcases hq with hq | rfl
      · exact h3 q hq
      · by_cases e : cntP l q = 0
        · exact e
        · exact absurd (.inl (by omega)) hc
    · refine .inr ⟨h1, by simp [h2], h3, fun q hq => ?_⟩
      simp only [List.mem_append, List.mem_singleton] at hq
      rcases hq with hq | rfl
      · exact h4 q hq
      · refine ⟨?_, fun e => ?_⟩
        · by_cases e : s.2 < cntP l q
          · exact absurd (.inl e) hc
          · omega
        · cases hq2 : idLt q s.1
          · rfl
          · exact absurd (.inr ⟨e, by omega, hq2⟩) hc

theorem BestP.foldA {l : List Lab} : ∀ (qs ps : List (List UInt8)) (s : List UInt8 × Nat), BestP l ps s → (ps ++ qs).Pairwise (fun x y => (!idLt y x) = true) → BestP l (ps ++ qs) (qs.foldl (Go.Proofs.Ytdlegbcdmlmbpaa.stepA l) s)
  | [], ps, s, h, _ => by simpa using h
  | q :: qs, ps, s, h, hp => by
    rw [List.foldl_cons]
    have h1 := h.stepA (p := q) fun x hx => by
      have := (List.pairwise_append.1 hp).2.2 x hx q (by simp)
      simpa using this
    have := BestP.foldA qs (ps ++ [q]) _ h1 (by simpa using hp)
    simpa using this
theorem BestP.foldB {l : List Lab} : ∀ (qs ps : List (List UInt8)) (s : List UInt8 × Nat), BestP l ps s → BestP l (ps ++ qs) (qs.foldl (Go.Proofs.Ytdlegbcdmlmbpaa.stepB l) s)
  | [], ps, s, h => by simpa using h
  | q :: qs, ps, s, h => by
    rw [List.foldl_cons]
    have := BestP.foldB qs (ps ++ [q]) _ (h.stepB q)
    simpa using this
theorem poolA_best (l : List Lab) : BestP l (poolKeys l) (poolA l) := by
  have := BestP.foldA (l := l) (poolKeys l) [] (zeros, 0) (BestP.nil l) (by rw [List.nil_append]; exact List.pairwise_mergeSort sort_tr sort_tot ((tally l).map (·.1)))
  rw [List.nil_append] at this
  exact this
theorem poolB_best (l : List Lab) : BestP l (l.map (·.pool)) (poolB l) := by
  have := BestP.foldB (l := l) (l.map (·.pool)) [] (zeros, 0) (BestP.nil l)
  rw [List.nil_append] at this
  exact this
theorem mem_poolKeys (l : List Lab) (p : List UInt8) : p ∈ poolKeys l ↔ 0 < cntP l p := by rw [poolKeys, mem_sortL, tally_keys]
theorem pool_eq (l : List Lab) : poolA l = poolB l := by
  refine (poolA_best l).uniq (poolB_best l) fun p hp => ⟨(mem_poolKeys l p).2 hp, ?_⟩
  obtain ⟨x, hx, -, rfl⟩ := cntP_pos hp
  exact List.mem_map.2 ⟨x, hx, rfl⟩
end Go.Proofs.Ytdlegbcdmlmbpaa

/-
  The pool of labels does not hang on their order; the pool that more than half have is theirs.
  Conditions: none; no program is in sight.
-/
namespace Go.Proofs.Ytdlegbcdmlmbpaa
set_option linter.unusedVariables false

theorem BestP.congr {l m : List Lab} (h : ∀ p, cntP l p = cntP m p) {ps : List (List UInt8)} {s : List UInt8 × Nat} (k : BestP l ps s) : BestP m ps s := by
  unfold BestP at *
  have e : cntP l = cntP m := funext h
  rw [← e]
  exact k
theorem cntP_perm {l m : List Lab} (h : l.Perm m) (p : List UInt8) : cntP l p = cntP m p := (h.filter _).length_eq
theorem poolA_perm {l m : List Lab} (h : l.Perm m) : poolA l = poolA m :=
  (poolA_best l).uniq ((poolA_best m).congr fun p => (cntP_perm h p).symm) fun p hp => ⟨(mem_poolKeys l p).2 hp, (mem_poolKeys m p).2 (by rw [← cntP_perm h]; exact hp)⟩
theorem poolA_only {l : List Lab} {q : List UInt8} (hq : 0 < cntP l q) (h : ∀ p, p ≠ q → cntP l p < cntP l q) : (poolA l).1 = q ∧ 0 < (poolA l).2 := by
  rcases poolA_best l with ⟨h1, h2, h3⟩ | ⟨h1, h2, h3, h4⟩
  · have := h3 q ((mem_poolKeys l q).2 hq); omega
  · refine ⟨?_, h1⟩
    by_cases e : (poolA l).1 = q
    · exact e
    · have h5 := h _ e
      have h6 := (h4 q ((mem_poolKeys l q).2 hq)).1
      omega
theorem cntP_append (l m : List Lab) (p : List UInt8) : cntP (l ++ m) p = cntP l p + cntP m p := by
  unfold cntP
  rw [List.filter_append, List.length_append]
theorem cntP_replicate (n : Nat) (x : Lab) (p : List UInt8) : cntP (List.replicate n x) p = if x.may = true ∧ x.pool = p then n else 0 := by
  induction n with
  | zero => simp [cntP]
  | succ n ih =>
    rw [List.replicate_succ', cntP_snoc, ih]
    by_cases h : x.may = true ∧ x.pool = p
    · rw [if_pos h, if_pos h, if_pos h]
    · rw [if_neg h, if_neg h, if_neg h]
theorem cntP_le (l : List Lab) (p : List UInt8) : cntP l p ≤ l.length := List.length_filter_le _ _
theorem poolA_most (others : List Lab) (x : Lab) (n : Nat) (hm : x.may = true) (hn : others.length < n) : (poolA (others ++ List.replicate n x)).1 = x.pool ∧ 0 < (poolA (others ++ List.replicate n x)).2 := by
  have e : ∀ p, cntP (others ++ List.replicate n x) p = cntP others p + if x.pool = p then n else 0 := fun p => by
    rw [cntP_append, cntP_replicate]
    by_cases h : x.pool = p
    · rw [if_pos ⟨hm, h⟩, if_pos h]
    · rw [if_neg (fun k => h k.2), if_neg h]
  refine poolA_only (by rw [e, if_pos rfl]; omega) fun p hp => ?_
  rw [e, e, if_neg (fun k => hp k.symm), if_pos rfl]
  have := cntP_le others p
  omega
theorem poolA_bad (x bad : Lab) (hm : x.may = true) (hb : bad.may = false) : (poolA [bad, bad, x]).1 = x.pool ∧ 0 < (poolA [bad, bad, x]).2 := by
  have e : ∀ p, cntP [bad, bad, x] p = if x.pool = p then 1 else 0 := fun p => by
    have h0 : cntP ([] : List Lab) p = 0 := rfl
    have h1 : cntP [bad] p = 0 := by have := cntP_snoc [] bad p; rw [List.nil_append, h0, hb, if_neg (fun h => by cases h.1)] at this; exact this
    have h2 : cntP [bad, bad] p = 0 := by have := cntP_snoc [bad] bad p; rw [h1, hb, if_neg (fun h => by cases h.1)] at this; exact this
    have h3 := cntP_snoc [bad, bad] x p
    rw [h2, hm] at h3
    rw [show [bad, bad, x] = [bad, bad] ++ [x] from rfl, h3]
    simp
  refine poolA_only (by rw [e, if_pos rfl]; omega) fun p hp => ?_
  rw [e, e, if_neg (fun k => hp k.symm), if_pos rfl]
  omega
end Go.Proofs.Ytdlegbcdmlmbpaa
