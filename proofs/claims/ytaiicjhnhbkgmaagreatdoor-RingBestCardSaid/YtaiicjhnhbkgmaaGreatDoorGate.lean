/-
  A region that draws its order, one of whose operations only reads: as the text Late, but S is asked only till a given operation has come up that waits for it.
  Conditions: none; a plain law over any program.
-/
import Derived.Test.YtaiicjhnhbkgmaaGreatDoorLate
namespace Go.Proofs.YtaiicjhnhbkgmaaGreatDoor
open Go.RowKit

section
variable {P : Program} {ops : Array Oper} {Q : Exit → Act → World → Prop} {md : Region.Mode} {S : World → Prop} {i X : Nat}

/-- Whatever order is picked, S holding behind each operation that need not wait for the i-th. -/
def wpAnyU (P : Program) (md : Region.Mode) (ops : Array Oper) (Q : Exit → Act → World → Prop) (S : World → Prop) (i X : Nat) : Nat → Array Bool → Act → World → Prop
  | 0, listed, a, w => Region.ready md ops listed = [] ∧ Q .normal a w
  | fuel + 1, listed, a, w =>
    (Region.ready md ops listed = [] → Q .normal a w) ∧
    ∀ j ∈ Region.ready md ops listed, wpOp P ops Q j (fun a' w' => (Region.waitsFor md ops j i = false → listed.getD X false = false → S w') ∧ wpAnyU P md ops Q S i X fuel (listed.setIfInBounds j true) a' w') a w

theorem wpAny_of_U : ∀ (fuel : Nat) (listed : Array Bool) (a : Act) (w : World), wpAnyU P md ops Q S i X fuel listed a w → wpAny P md ops Q fuel listed a w
  | 0, _, _, _, h => h
  | fuel + 1, _, _, _, h => ⟨h.1, fun i hi => wpOp_mono (fun a' w' h' => wpAny_of_U fuel _ a' w' h'.2) (h.2 i hi)⟩

theorem wpAnyU_first {oi : Oper} {v : Value} (hXi : Region.waitsFor md ops X i = true) (hXn : X ≠ i) (hi : ops[i]? = some oi) (hsel : ∀ (j : Nat) (o : Oper) cs b, ops[j]? = some o → o.op ≠ .select cs b)
    (hQ : ∀ c a w, Q (.panic c) (a.put oi.dst v) w → Q (.panic c) a w) :
    ∀ (fuel : Nat) (listed : Array Bool) (a : Act) (w : World),
      (∀ j oj, ops[j]? = some oj → j ≠ i → listed.getD j true = false → (∀ e ∈ oj.after, Region.binds md e = true → e.on ≠ i) → oi.apart ops oj = true) →
      listed.getD X false = false → i ∈ Region.ready md ops listed → YieldsIf P ops S oi v a → S w →
      wpAnyU P md ops Q S i X fuel (listed.setIfInBounds i true) (a.put oi.dst v) w → wpAny P md ops Q (fuel + 1) listed a w := by
  intro fuel
  induction fuel with
  | zero =>
    intro listed a w _ hX hr hy hS H
    refine ⟨fun h => (by rw [h] at hr; cases hr), fun j hj => ?_⟩
    by_cases hji : j = i
    · subst hji; exact hy.wpOp hi hS (wpAny_of_U _ _ _ _ H)
    · have := ready_mono hj hji
      rw [H.1] at this
      cases this
  | succ fuel ih =>
    intro listed a w hfree hX hr hy hS H
    refine ⟨fun h => (by rw [h] at hr; cases hr), fun j hj => ?_⟩
    by_cases hji : j = i
    · subst hji; exact hy.wpOp hi hS (wpAny_of_U _ _ _ _ H)
    · have h1 := H.2 j (ready_mono hj hji)
      obtain ⟨hjun, oj, hoj, hall⟩ := mem_ready.1 hj
      have hnot : ∀ e ∈ oj.after, Region.binds md e = true → e.on ≠ i := fun e he hb heq => by
        have h1 := hall e he hb
        have h0 := (mem_ready.1 hr).1
        rw [heq] at h1
        rcases Nat.lt_or_ge i listed.size with h' | h'
        · simp [h'] at h0 h1; rw [h0] at h1; cases h1
        · simp [Array.getElem?_eq_none h'] at h1
      have h2 := wpOp_putIf hoj (hfree j oj hoj hji hjun hnot) (fun cs b => hsel i oi cs b hi) (fun cs b => hsel j oj cs b hoj) hQ hy h1
      have hfree' : ∀ k ok, ops[k]? = some ok → k ≠ i → (listed.setIfInBounds j true).getD k true = false →
          (∀ e ∈ ok.after, Region.binds md e = true → e.on ≠ i) → oi.apart ops ok = true := fun k ok hk hki hun hno => by
        refine hfree k ok hk hki ?_ hno
        by_cases hjk : j = k
        · subst hjk; exact hjun
        · rw [getD_set_ne true hjk] at hun; exact hun
      have hX' : (listed.setIfInBounds j true).getD X false = false := by
        rw [getD_set_ne false (fun e => by have := waits_false hoj hnot; rw [e, hXi] at this; cases this)]; exact hX
      refine wpOp_mono (fun a' w' h3 => ih (listed.setIfInBounds j true) a' w' hfree' hX' (ready_mono hr (Ne.symm hji)) h3.1 (h3.2.1 (waits_false hoj hnot) (by rw [getD_set_ne false (Ne.symm hXn)]; exact hX)) ?_) h2
      rw [Array.setIfInBounds_comm _ _ hji]
      exact h3.2.2

/-! The moves of a walk by hand. -/
theorem wpAnyU_begin {oi : Oper} {v : Value} {fuel : Nat} {listed : Array Bool} {a : Act} {w : World} (hXi : Region.waitsFor md ops X i = true) (hXn : X ≠ i) (hX : listed.getD X false = false) (hi : ops[i]? = some oi) (hs : Region.noSelect ops = true) (hf : Region.free md ops listed i = true)
    (hr : (Region.ready md ops listed).contains i = true) (hQ : ∀ c a w, Q (.panic c) (a.put oi.dst v) w → Q (.panic c) a w) (hy : YieldsIf P ops S oi v a) (hS : S w)
    (h : wpAnyU P md ops Q S i X fuel (listed.setIfInBounds i true) (a.put oi.dst v) w) : wpAny P md ops Q (fuel + 1) listed a w :=
  wpAnyU_first hXi hXn hi (Region.noSelect_spec hs) hQ fuel listed a w (Region.free_spec hi hf) hX (by simpa using hr) hy hS h
theorem wpAnyU_one {k : Nat} {o : Oper} {fuel : Nat} {listed : Array Bool} {a : Act} {w : World} (ho : ops[k]? = some o) (hr : Region.ready md ops listed = [k])
    (h : wpList P ops (Exit.then (fun a' w' => (Region.waitsFor md ops k i = false → listed.getD X false = false → S w') ∧ wpAnyU P md ops Q S i X fuel (listed.setIfInBounds k true) a' w') Q) [o] a w) : wpAnyU P md ops Q S i X (fuel + 1) listed a w :=
  ⟨fun h1 => (by rw [hr] at h1; cases h1), fun j hj => by
    rw [hr] at hj
    obtain rfl : j = k := by simpa using hj
    exact wpOp_of_list ho h⟩
theorem wpAnyU_two {k l : Nat} {o o' : Oper} {fuel : Nat} {listed : Array Bool} {a : Act} {w : World} (ho : ops[k]? = some o) (ho' : ops[l]? = some o') (hr : Region.ready md ops listed = [k, l])
    (h : wpList P ops (Exit.then (fun a' w' => (Region.waitsFor md ops k i = false → listed.getD X false = false → S w') ∧ wpAnyU P md ops Q S i X fuel (listed.setIfInBounds k true) a' w') Q) [o] a w)
    (h' : wpList P ops (Exit.then (fun a' w' => (Region.waitsFor md ops l i = false → listed.getD X false = false → S w') ∧ wpAnyU P md ops Q S i X fuel (listed.setIfInBounds l true) a' w') Q) [o'] a w) : wpAnyU P md ops Q S i X (fuel + 1) listed a w :=
  ⟨fun h1 => (by rw [hr] at h1; cases h1), fun j hj => by
    rw [hr] at hj
    have : j = k ∨ j = l := by simpa using hj
    rcases this with rfl | rfl
    · exact wpOp_of_list ho h
    · exact wpOp_of_list ho' h'⟩
theorem wpAnyU_done {listed : Array Bool} {a : Act} {w : World} (hr : Region.ready md ops listed = []) (h : Q .normal a w) : ∀ fuel, wpAnyU P md ops Q S i X fuel listed a w
  | 0 => ⟨hr, h⟩
  | _ + 1 => ⟨fun _ => h, by rw [hr]; simp⟩

end
end Go.Proofs.YtaiicjhnhbkgmaaGreatDoor
