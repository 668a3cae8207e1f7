/-
  A region that draws its order, one of whose operations only reads, where the others may make new memory ahead of it.
  Conditions: none; a plain law over any program.
-/
import Derived.Test.YtfjklgbakhjjiaaRegion
import Derived.OrdersHeld
namespace Go.Proofs.Ytfjklgbakhjjiaa
open Go.RowKit

section
variable {P : Program} {ops : Array Oper} {Q : Exit → Act → World → Prop} {md : Region.Mode} {S : World → Prop} {i : Nat}

/-- Whatever order is picked, S holding behind each operation that need not wait for the i-th. -/
def wpAnyT (P : Program) (md : Region.Mode) (ops : Array Oper) (Q : Exit → Act → World → Prop) (S : World → Prop) (i : Nat) : Nat → Array Bool → Act → World → Prop
  | 0, listed, a, w => Region.ready md ops listed = [] ∧ Q .normal a w
  | fuel + 1, listed, a, w =>
    (Region.ready md ops listed = [] → Q .normal a w) ∧
    ∀ j ∈ Region.ready md ops listed, wpOp P ops Q j (fun a' w' => (Region.waitsFor md ops j i = false → S w') ∧ wpAnyT P md ops Q S i fuel (listed.setIfInBounds j true) a' w') a w

theorem wpAny_of_T : ∀ (fuel : Nat) (listed : Array Bool) (a : Act) (w : World), wpAnyT P md ops Q S i fuel listed a w → wpAny P md ops Q fuel listed a w
  | 0, _, _, _, h => h
  | fuel + 1, _, _, _, h => ⟨h.1, fun i hi => wpOp_mono (fun a' w' h' => wpAny_of_T fuel _ a' w' h'.2) (h.2 i hi)⟩

theorem waits_false {j : Nat} {oj : Oper} (hoj : ops[j]? = some oj) (hnot : ∀ e ∈ oj.after, Region.binds md e = true → e.on ≠ i) : Region.waitsFor md ops j i = false := by
  cases h : Region.waitsFor md ops j i with
  | false => rfl
  | true =>
    obtain ⟨o', ho', e, he, hb, hon⟩ := Region.waitsFor_spec h
    have : o' = oj := Option.some.inj (ho'.symm.trans hoj)
    subst this
    exact absurd hon (hnot e he hb)

theorem wpAnyT_first {oi : Oper} {v : Value} (hi : ops[i]? = some oi) (hsel : ∀ (j : Nat) (o : Oper) cs b, ops[j]? = some o → o.op ≠ .select cs b)
    (hQ : ∀ c a w, Q (.panic c) (a.put oi.dst v) w → Q (.panic c) a w) :
    ∀ (fuel : Nat) (listed : Array Bool) (a : Act) (w : World),
      (∀ j oj, ops[j]? = some oj → j ≠ i → listed.getD j true = false → (∀ e ∈ oj.after, Region.binds md e = true → e.on ≠ i) → oi.apart ops oj = true) →
      i ∈ Region.ready md ops listed → YieldsIf P ops S oi v a → S w →
      wpAnyT P md ops Q S i fuel (listed.setIfInBounds i true) (a.put oi.dst v) w → wpAny P md ops Q (fuel + 1) listed a w := by
  intro fuel
  induction fuel with
  | zero =>
    intro listed a w _ hr hy hS H
    refine ⟨fun h => (by rw [h] at hr; cases hr), fun j hj => ?_⟩
    by_cases hji : j = i
    · subst hji; exact hy.wpOp hi hS (wpAny_of_T _ _ _ _ H)
    · have := ready_mono hj hji
      rw [H.1] at this
      cases this
  | succ fuel ih =>
    intro listed a w hfree hr hy hS H
    refine ⟨fun h => (by rw [h] at hr; cases hr), fun j hj => ?_⟩
    by_cases hji : j = i
    · subst hji; exact hy.wpOp hi hS (wpAny_of_T _ _ _ _ H)
    · have h1 := H.2 j (ready_mono hj hji)
      obtain ⟨hjun, oj, hoj, hall⟩ := mem_ready.1 hj
      have hnot : ∀ e ∈ oj.after, Region.binds md e = true → e.on ≠ i := fun e he hb heq => by
        have h1 := hall e he hb
        have h0 := (mem_ready.1 hr).1
        rw [heq] at h1
        rcases Nat.lt_or_ge i listed.size with h' | h'
        · simp [h'] at h0 h1; rw [h0] at h1; cases h1
        · simp [Array.getElem?_eq_none h'] at h1
      have h2 := wpOp_putIf hoj (hfree j oj hoj hji hjun hnot) (fun cs b => hsel i oi cs b hi) (fun cs b => hsel j oj cs b hoj) hQ hy h1
      have hfree' : ∀ k ok, ops[k]? = some ok → k ≠ i → (listed.setIfInBounds j true).getD k true = false →
          (∀ e ∈ ok.after, Region.binds md e = true → e.on ≠ i) → oi.apart ops ok = true := fun k ok hk hki hun hno => by
        refine hfree k ok hk hki ?_ hno
        by_cases hjk : j = k
        · subst hjk; exact hjun
        · rw [getD_set_ne true hjk] at hun; exact hun
      refine wpOp_mono (fun a' w' h3 => ih (listed.setIfInBounds j true) a' w' hfree' (ready_mono hr (Ne.symm hji)) h3.1 (h3.2.1 (waits_false hoj hnot)) ?_) h2
      rw [Array.setIfInBounds_comm _ _ hji]
      exact h3.2.2

theorem wpOp_of_list {j : Nat} {o : Oper} {K : Act → World → Prop} {a : Act} {w : World} (ho : ops[j]? = some o) (h : wpList P ops (Exit.then K Q) [o] a w) : wpOp P ops Q j K a w := by
  unfold wpOp
  simp only [ho]
  unfold wpList at h
  split
  · rename_i hw
    rw [if_pos hw] at h
    rcases h with h | h
    · refine .inl ?_
      unfold Oper.wp at *
      generalize (execOp a.eval o).run P w = r at *
      cases r with
      | ok x w' => cases x <;> exact h
      | halt x w' => cases x <;> exact h
    · exact .inr h
  · rename_i hw
    rw [if_neg hw] at h
    exact h

/-- The operations from the k-th on, one by one, S shown behind each that need not wait for the i-th. -/
def wpListT (P : Program) (md : Region.Mode) (ops : Array Oper) (Q : Exit → Act → World → Prop) (S : World → Prop) (i : Nat) : Nat → List Oper → Act → World → Prop
  | _, [], a, w => Q .normal a w
  | k, o :: rest, a, w => wpList P ops (Exit.then (fun a' w' => (Region.waitsFor md ops k i = false → S w') ∧ wpListT P md ops Q S i (k + 1) rest a' w') Q) [o] a w

theorem wpAnyT_of_seq : ∀ (l : List Oper) (k : Nat) (listed : Array Bool) (a : Act) (w : World), (∀ j, l[j]? = ops[k + j]?) →
    Region.seqB md ops l.length k listed = true → wpListT P md ops Q S i k l a w → wpAnyT P md ops Q S i l.length listed a w
  | [], _, _, _, _, _, hB, h => ⟨by simpa [Region.seqB] using hB, h⟩
  | o :: l, k, listed, a, w, hl, hB, h => by
    have h0 : ops[k]? = some o := by simpa using (hl 0).symm
    simp only [List.length_cons, Region.seqB, Bool.and_eq_true, decide_eq_true_eq] at hB
    refine ⟨fun h1 => (by rw [hB.1] at h1; cases h1), fun j hj => ?_⟩
    rw [hB.1] at hj
    have hjk : j = k := by simpa using hj
    subst hjk
    exact wpOp_mono (fun a' w' h' => ⟨h'.1, wpAnyT_of_seq l (j + 1) _ a' w' (fun m => by have := hl (m + 1); simpa [Nat.add_assoc, Nat.add_comm 1 m] using this) hB.2 h'.2⟩) (wpOp_of_list h0 h)

theorem wpListT_of_list : ∀ (l : List Oper) (k : Nat) (a : Act) (w : World), (∀ j, j < l.length → Region.waitsFor md ops (k + j) i = true) → wpList P ops Q l a w → wpListT P md ops Q S i k l a w
  | [], _, _, _, _, h => h
  | o :: l, k, a, w, hw, h => by
    have h0 : Region.waitsFor md ops k i = true := hw 0 (by simp)
    have key : ∀ a' w', wpList P ops Q l a' w' → (Region.waitsFor md ops k i = false → S w') ∧ wpListT P md ops Q S i (k + 1) l a' w' := fun a' w' h' =>
      ⟨fun e => (by rw [h0] at e; cases e), wpListT_of_list l (k + 1) a' w' (fun j hj => by have := hw (j + 1) (by simpa using hj); rwa [show k + (j + 1) = k + 1 + j by omega] at this) h'⟩
    unfold wpListT wpList
    unfold wpList at h
    split
    · rename_i hwt
      rw [if_pos hwt] at h
      rcases h with h | h
      · refine .inl ?_
        unfold Oper.wp at *
        generalize (execOp a.eval o).run P w = r at *
        cases r with
        | ok x w' => cases x <;> first | exact key _ _ h | exact h.elim | (simp only [Oper.upon] at h ⊢; exact Rows.mono h fun v w'' hx => key _ _ hx) | (simp only [Oper.upon] at h ⊢; exact Calls.mono h fun e w'' hx => by cases e <;> first | exact key _ _ hx | exact hx)
        | halt x w' => cases x <;> exact h
      · exact .inr h
    · rename_i hwt
      rw [if_neg hwt] at h
      exact key _ _ h

theorem wpListT_of_all (l : List Oper) (k : Nat) (a : Act) (w : World) (h : ((List.range l.length).all fun j => Region.waitsFor md ops (k + j) i) = true) (hl : wpList P ops Q l a w) : wpListT P md ops Q S i k l a w :=
  wpListT_of_list l k a w (fun j hj => List.all_eq_true.1 h j (List.mem_range.2 hj)) hl

/-! The moves of a walk by hand. -/
theorem wpAnyT_begin {oi : Oper} {v : Value} {fuel : Nat} {listed : Array Bool} {a : Act} {w : World} (hi : ops[i]? = some oi) (hs : Region.noSelect ops = true) (hf : Region.free md ops listed i = true)
    (hr : (Region.ready md ops listed).contains i = true) (hQ : ∀ c a w, Q (.panic c) (a.put oi.dst v) w → Q (.panic c) a w) (hy : YieldsIf P ops S oi v a) (hS : S w)
    (h : wpAnyT P md ops Q S i fuel (listed.setIfInBounds i true) (a.put oi.dst v) w) : wpAny P md ops Q (fuel + 1) listed a w :=
  wpAnyT_first hi (Region.noSelect_spec hs) hQ fuel listed a w (Region.free_spec hi hf) (by simpa using hr) hy hS h
theorem wpAnyT_one {k : Nat} {o : Oper} {fuel : Nat} {listed : Array Bool} {a : Act} {w : World} (ho : ops[k]? = some o) (hr : Region.ready md ops listed = [k])
    (h : wpList P ops (Exit.then (fun a' w' => (Region.waitsFor md ops k i = false → S w') ∧ wpAnyT P md ops Q S i fuel (listed.setIfInBounds k true) a' w') Q) [o] a w) : wpAnyT P md ops Q S i (fuel + 1) listed a w :=
  ⟨fun h1 => (by rw [hr] at h1; cases h1), fun j hj => by
    rw [hr] at hj
    obtain rfl : j = k := by simpa using hj
    exact wpOp_of_list ho h⟩
theorem wpAnyT_two {k l : Nat} {o o' : Oper} {fuel : Nat} {listed : Array Bool} {a : Act} {w : World} (ho : ops[k]? = some o) (ho' : ops[l]? = some o') (hr : Region.ready md ops listed = [k, l])
    (h : wpList P ops (Exit.then (fun a' w' => (Region.waitsFor md ops k i = false → S w') ∧ wpAnyT P md ops Q S i fuel (listed.setIfInBounds k true) a' w') Q) [o] a w)
    (h' : wpList P ops (Exit.then (fun a' w' => (Region.waitsFor md ops l i = false → S w') ∧ wpAnyT P md ops Q S i fuel (listed.setIfInBounds l true) a' w') Q) [o'] a w) : wpAnyT P md ops Q S i (fuel + 1) listed a w :=
  ⟨fun h1 => (by rw [hr] at h1; cases h1), fun j hj => by
    rw [hr] at hj
    have : j = k ∨ j = l := by simpa using hj
    rcases this with rfl | rfl
    · exact wpOp_of_list ho h
    · exact wpOp_of_list ho' h'⟩
theorem wpAnyT_done {listed : Array Bool} {a : Act} {w : World} (hr : Region.ready md ops listed = []) (h : Q .normal a w) : ∀ fuel, wpAnyT P md ops Q S i fuel listed a w
  | 0 => ⟨hr, h⟩
  | _ + 1 => ⟨fun _ => h, by rw [hr]; simp⟩

/-- The law: the first operation reads, S given; the others come one behind the other. -/
theorem wpAny_late {oi : Oper} {v : Value} {a : Act} {w : World} (S : World → Prop) (hi : ops[0]? = some oi) (hsel : Region.noSelect ops = true) (hpos : 1 ≤ ops.size) (hfree : Region.free md ops (Array.replicate ops.size false) 0 = true)
    (hready : (Region.ready md ops (Array.replicate ops.size false)).contains 0 = true) (hseq : Region.seqB md ops (ops.size - 1) 1 ((Array.replicate ops.size false).setIfInBounds 0 true) = true)
    (hQ : ∀ c a w, Q (.panic c) (a.put oi.dst v) w → Q (.panic c) a w) (hy : YieldsIf P ops S oi v a) (hS : S w)
    (h : wpListT P md ops Q S 0 1 (ops.toList.drop 1) (a.put oi.dst v) w) : wpAny P md ops Q ops.size (Array.replicate ops.size false) a w := by
  have hlen : (ops.toList.drop 1).length = ops.size - 1 := by simp
  have := wpAnyT_of_seq (ops.toList.drop 1) 1 ((Array.replicate ops.size false).setIfInBounds 0 true) _ w (fun j => by simp [Nat.add_comm]) (by rw [hlen]; exact hseq) h
  have h2 := wpAnyT_first hi (Region.noSelect_spec hsel) hQ _ _ a w (Region.free_spec hi hfree) (by simpa using hready) hy hS this
  rw [hlen] at h2
  have e : ops.size - 1 + 1 = ops.size := by omega
  rwa [e] at h2
end
end Go.Proofs.Ytfjklgbakhjjiaa
