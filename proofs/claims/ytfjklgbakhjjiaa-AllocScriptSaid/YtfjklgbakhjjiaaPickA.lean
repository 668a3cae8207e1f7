/-
  Pick: a number below another.
  Conditions: the other is at least 1.
-/
import Derived.Test.YtfjklgbakhjjiaaGen
import Derived.Laws.BytesArg
import Derived.Laws.BitsAllLaws
import Derived.Outline
namespace Go.Proofs.Ytfjklgbakhjjiaa
open Go.RowKit Go.Maps Go.ChangeMaps
set_option maxRecDepth 100000
set_option linter.unusedVariables false

theorem tmod_pick (x n : Int) (h : 1 ≤ n) : x % n = if x.tmod n < 0 then x.tmod n + n else x.tmod n := by
  by_cases hx : 0 ≤ x
  · rw [Int.tmod_eq_emod_of_nonneg hx, if_neg (by have := Int.emod_nonneg x (show n ≠ 0 by omega); omega)]
  · have h1 : x.tmod n = -((-x) % n) := by
      have := Int.neg_tmod (-x) n
      rw [Int.neg_neg] at this
      rw [this, Int.tmod_eq_emod_of_nonneg (by omega)]
    have h2 := Int.emod_nonneg (-x) (show n ≠ 0 by omega)
    have h3 := Int.emod_lt_of_pos (-x) (show 0 < n by omega)
    have h4 := Int.emod_add_mul_ediv (-x) n
    have h5 : x = -((-x) % n) + n * (-((-x) / n)) := by rw [Int.mul_neg]; omega
    have h6 : x % n = (-((-x) % n)) % n := by
      have := Int.add_mul_emod_self_left (-((-x) % n)) n (-((-x) / n))
      rw [← h5] at this
      exact this
    rw [h6, h1]
    generalize (-x) % n = r at *
    by_cases hr : r = 0
    · subst hr; simp
    · rw [if_pos (by omega)]
      have := Int.add_emod_right (-r) n
      rw [← this]
      exact Int.emod_eq_of_lt (by omega) (by omega)
theorem pick_any (w : World) (x n : Int) (h0 : 1 ≤ n) (h1 : n ≤ 4611686018427387904) (hx : -9223372036854775808 ≤ x) (hx' : x ≤ 9223372036854775807) :
    Calls Try.prog 28 #[.int .i64 x, .int .i64 n] w (fun e w' => e = .returned (.int .i64 (x % n)) ∧ w = w') := by
  have ht : decide (n < 1) = false := by simp; omega
  have hn0 : (n == 0) = false := by simp; omega
  have hm := Int.emod_nonneg x (show n ≠ 0 by omega)
  have hm' := Int.emod_lt_of_pos x (show 0 < n by omega)
  have HT := Lib.hid (tmod_pick x n h0)
  go_enter Try.func28, Try.ntmps28
  go_wp2_with fail
  · go_ret
    refine ⟨?_, rfl⟩
    rw [HT.out, if_pos (by assumption)]
    rw [HT.out, if_pos (by assumption)] at hm hm'
    have : wrap64 (x.tmod n + n) = x.tmod n + n := by unfold wrap64; omega
    exact congrArg (fun t => Ending.returned (.int .i64 t)) this
  · go_ret
    refine ⟨?_, rfl⟩
    rw [HT.out, if_neg (by omega)]
    rfl

end Go.Proofs.Ytfjklgbakhjjiaa
