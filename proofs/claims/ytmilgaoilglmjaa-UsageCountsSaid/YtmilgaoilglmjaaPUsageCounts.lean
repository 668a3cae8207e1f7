/-
  The law UsageCounts holds: for every input, caulkerlaw14.UsageCounts returns true, and what was handed in reads as it did.
  Conditions: none but those of the given row.
-/
import Derived.Test.YtmilgaoilglmjaaCountsU
import Derived.Test.YtmilgaoilglmjaaArgsU
import Derived.WalkKit
namespace Go.Proofs.Ytmilgaoilglmjaa
open Go.ChangeShapes Go.WideShapes Go.ChangeAt Go.RowKit
set_option linter.unusedVariables false
set_option maxRecDepth 100000

set_option maxHeartbeats 4000000 in
theorem usageCounts_lifted (os : Os) (started : os.Started) (H : Type) (enc : TypeId × Value → H) :
    ReturnsInHanded {} Try.checked os 5 .any (Rows.usageCountsSpec.pre6 enc Try.prog Try.f5 Rows.usageCountsRow.domain false) (Rows.usageCountsSpec.post enc Try.prog Try.f5 false true false false) := by
  refine returnsInHanded_of_change (C := Try.checked) own started (by kernel_rfl) Try.func5
    (ChangeSpec.witness6 (enc := enc) (C := Try.checked) false ⟨#[], #[.slice none 0 0, .slice none 0 0], []⟩ 64 (by kernel_rfl) (by kernel_rfl) (by kernel_rfl) (by kernel_rfl)) ?_
  intro W base args ds gs before hval0 hW hcnd _
  have hval : ∀ (j : Nat) t v, Try.f5.params[j]? = some t → args[j]? = some v → Value.okWide Try.prog W .any base t v := hval0
  have hW' := hW
  obtain ⟨p, q, hA0, hV, rfl, hfz, hnd⟩ := hW
  have hA : DataW.TrodAll enc Try.prog W 0 (fun _ => true) true Try.f5.params.toList args.toList ds p := hA0
  rw [Try.params5] at hA hval
  obtain ⟨v0, vs0, d0, ds0, p0, q0, hargs0, rfl, rfl, h0, r0⟩ := trodAll_cons hA
  obtain ⟨v1, vs1, d1, ds1, p1, q1, hargs1, rfl, rfl, h1, r1⟩ := trodAll_cons r0
  obtain ⟨hv1, rfl, rfl⟩ := trodAll_nil r1
  obtain rfl : args = #[v0, v1] := by apply Array.toList_inj.1; rw [hargs0]; simp only [hargs1, hv1]
  clear hargs0 hargs1 hv1
  obtain ⟨rfl, rfl⟩ := trodVars_none hV
  obtain ⟨a0, len0, cap0, rfl⟩ := okWide_slice Try.underlying22 (hval 0 22 v0 rfl rfl)
  obtain ⟨a1, len1, cap1, rfl⟩ := okWide_slice Try.underlying23 (hval 1 23 v1 rfl rfl)
  have k0 := h0
  have lt0 : ∀ x ∈ p0, x.block < W.heap.size := by obtain ⟨m, hm⟩ := k0; exact DataW.trod_lt m _ _ _ hm
  have k1 := h1
  have lt1 : ∀ x ∈ p1, x.block < W.heap.size := by obtain ⟨m, hm⟩ := k1; exact DataW.trod_lt m _ _ _ hm
  clear hA0 hval0 hval
  obtain ⟨l0, hll0, hlo0, hrd0⟩ : ∃ l : List (List Ad), l.length = len0 ∧ (∀ L ∈ l, AdsOk L) ∧ Rows2 W (.slice a0 len0 cap0) l := by
    obtain ⟨fuel, hf⟩ := h0
    exact holders_of_trod (by simpa [Value.cells] using hf)
  subst hll0
  obtain ⟨l1, hll1, hlo1, hrd1⟩ : ∃ l : List Int, l.length = len1 ∧ (∀ y ∈ l, In64 y) ∧ Rd W 1 (.slice a1 len1 cap1) len1 (l.map fun x => .int .i64 x) := by
    obtain ⟨fuel, hf⟩ := h1
    exact ints_of_trod (by simpa [Value.cells] using hf)
  subst hll1
  refine (usageCounts_walk W _ l0 hlo0 hrd0 _ l1 hlo1 hrd1).mono fun e W' ⟨he, hk⟩ => ?_
  subst he
  have bel := hk.below
  exact ⟨_, rfl, _, _, _, [], _, [], hW', trodAll_mk1 (shut_bool Try.underlying4 _), (trodAll_cons_mk (Below.trod laidOut (by kernel_rfl) (of_decide_eq_true (by kernel_rfl)) k0 bel lt0) (trodAll_cons_mk (Below.trod laidOut (by kernel_rfl) (of_decide_eq_true (by kernel_rfl)) k1 bel lt1) trodAll_mk0)), rfl, bel.frame _, fun h => by cases h⟩

theorem usageCounts_proved : Rows.UsageCountsSaid :=
  OpenClaim.holds_of_wide 5 Try.f5 rfl rfl rfl rfl rfl rfl rfl ⟨rfl, rfl, rfl, rfl, rfl⟩ rfl rfl rfl rfl rfl (by kernel_rfl) Try.func5 (by kernel_rfl)
    (of_decide_eq_true (by kernel_rfl)) (by unfold Func.isWrapper; first | (rw [if_pos (by decide +kernel)]; kernel_rfl) | (rw [if_neg (by decide +kernel)]; exact ⟨rfl, rfl⟩))
    (fun os started H enc _ => usageCounts_lifted os started H enc)
#print axioms usageCounts_proved
end Go.Proofs.Ytmilgaoilglmjaa
