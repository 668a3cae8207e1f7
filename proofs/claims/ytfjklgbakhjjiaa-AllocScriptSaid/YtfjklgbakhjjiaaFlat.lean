/-
  A list of rows of one length each, laid one behind the other: its length, its cells.
  Conditions: rows of one length.
-/
import Derived.Test.YtfjklgbakhjjiaaBase
namespace Go.Proofs.Ytfjklgbakhjjiaa
open Go.RowKit
set_option linter.unusedVariables false

section
variable {α : Type} {enc : α → List Value} {k : Nat}
theorem flat_len (hk : ∀ x, (enc x).length = k) : ∀ l : List α, (l.flatMap enc).length = l.length * k
  | [] => by simp
  | x :: l => by rw [List.flatMap_cons, List.length_append, hk x, flat_len hk l, List.length_cons, Nat.succ_mul]; omega
theorem flat_get (hk : ∀ x, (enc x).length = k) (h0 : 0 < k) : ∀ (l : List α) (t : Nat), (l.flatMap enc)[t]? = (l[t / k]?).bind fun x => (enc x)[t % k]?
  | [], t => by simp
  | x :: l, t => by
    rw [List.flatMap_cons]
    by_cases h : t < k
    · rw [List.getElem?_append_left (by rw [hk]; exact h), Nat.div_eq_of_lt h, Nat.mod_eq_of_lt h]; rfl
    · rw [List.getElem?_append_right (by rw [hk]; omega), hk, flat_get hk h0 l]
      have e1 : t / k = (t - k) / k + 1 := Nat.div_eq_sub_div h0 (by omega)
      have e2 : t % k = (t - k) % k := Nat.mod_eq_sub_mod (by omega)
      rw [e1, e2, List.getElem?_cons_succ]
end
end Go.Proofs.Ytfjklgbakhjjiaa
