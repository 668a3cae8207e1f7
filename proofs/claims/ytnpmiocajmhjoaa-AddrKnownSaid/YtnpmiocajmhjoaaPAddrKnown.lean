/-
  The law AddrKnown holds: for every input, caulkerlaw03.AddrKnown returns true, and what was handed in reads as it did.
  Conditions: none but those of the given row.
-/
import Derived.Test.YtnpmiocajmhjoaaArgsAddr
import Derived.Test.YtnpmiocajmhjoaaAddrKnown
import Derived.WalkKit
namespace Go.Proofs.Ytnpmiocajmhjoaa
open Go.ChangeShapes Go.WideShapes Go.ChangeAt Go.RowKit
set_option linter.unusedVariables false
set_option maxRecDepth 100000

set_option maxHeartbeats 4000000 in
theorem addrKnown_lifted (os : Os) (started : os.Started) (H : Type) (enc : TypeId × Value → H) :
    ReturnsInHanded {} Try.checked os 7 .any (Rows.addrKnownSpec.pre6 enc Try.prog Try.f7 Rows.addrKnownRow.domain false) (Rows.addrKnownSpec.post enc Try.prog Try.f7 false true false false) := by
  refine returnsInHanded_of_change (C := Try.checked) own started (by kernel_rfl) Try.func7
    (ChangeSpec.witness6 (enc := enc) (C := Try.checked) false ⟨#[], #[], []⟩ 64 (by kernel_rfl) (by kernel_rfl) (by kernel_rfl) (by kernel_rfl)) ?_
  intro W base args ds gs before hval0 hW hcnd _
  have hval : ∀ (j : Nat) t v, Try.f7.params[j]? = some t → args[j]? = some v → Value.okWide Try.prog W .any base t v := hval0
  have hW' := hW
  obtain ⟨p, q, hA0, hV, rfl, hfz, hnd⟩ := hW
  have hA : DataW.TrodAll enc Try.prog W 0 (fun _ => true) true Try.f7.params.toList args.toList ds p := hA0
  rw [Try.params7] at hA hval
  obtain ⟨hv, rfl, rfl⟩ := trodAll_nil hA
  obtain rfl : args = #[] := by apply Array.toList_inj.1; exact hv
  obtain ⟨rfl, rfl⟩ := trodVars_none hV
  clear hA0 hval0 hval
  refine (addrKnown_walk  W).mono fun e W' ⟨he, hk⟩ => ?_
  subst he
  have bel := hk.below
  exact ⟨_, rfl, _, _, _, [], _, [], hW', trodAll_mk1 (shut_bool Try.underlying4 _), trodAll_mk0, rfl, bel.frame _, fun h => by cases h⟩

theorem addrKnown_proved : Rows.AddrKnownSaid :=
  OpenClaim.holds_of_wide 7 Try.f7 rfl rfl rfl rfl rfl rfl rfl ⟨rfl, rfl, rfl, rfl, rfl⟩ rfl rfl rfl rfl rfl (by kernel_rfl) Try.func7 (by kernel_rfl)
    (of_decide_eq_true (by kernel_rfl)) (by unfold Func.isWrapper; first | (rw [if_pos (by decide +kernel)]; kernel_rfl) | (rw [if_neg (by decide +kernel)]; exact ⟨rfl, rfl⟩))
    (fun os started H enc _ => addrKnown_lifted os started H enc)
#print axioms addrKnown_proved
end Go.Proofs.Ytnpmiocajmhjoaa
