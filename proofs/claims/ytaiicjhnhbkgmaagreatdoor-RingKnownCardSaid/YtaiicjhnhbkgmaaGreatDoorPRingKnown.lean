/-
  The law RingKnown holds: for every input, caulkerlaw10.RingKnown returns true, and what was handed in reads as it did.
  Conditions: none but those of the given row.
-/
import Derived.Test.YtaiicjhnhbkgmaaGreatDoorArgsRows
import Derived.Test.YtaiicjhnhbkgmaaGreatDoorRingQ
import Derived.Test.YtaiicjhnhbkgmaaGreatDoorErrLaid
import Derived.Test.YtaiicjhnhbkgmaaGreatDoorCards
import Derived.Test.YtaiicjhnhbkgmaaGreatDoorTie
import Derived.WalkKit
import Derived.SevenTiedAt
namespace Go.Proofs.YtaiicjhnhbkgmaaGreatDoor
open Go.ChangeShapes Go.WideShapes Go.ChangeAt Go.RowKit
set_option linter.unusedVariables false
set_option maxRecDepth 100000

theorem ringKnown_pre (os : Os) {H : Type} (enc : TypeId × Value → H) :
    (OpenSpec.ofChange Rows.ringKnownSpec).preRow enc Tryz.prog Tryz.f6 Rows.ringKnownRow.domain false Rows.ringKnownRow.laid ((laidWorld os).forCall (fun _ _ => 0) ⟨#[], #[], []⟩).memory #[] := by
  have hw : (DataW.whole enc Tryz.prog ((laidWorld os).forCall (fun _ _ => 0) ⟨#[], #[], []⟩).memory Tryz.f6.params.toList Rows.ringKnownSpec.vars false (#[] : Array Value).toList 16).map (fun x => (x.1, x.2.1)) =
      some ([], []) := by kernel_rfl
  obtain ⟨⟨x1, x2, x3⟩, hx, hx1⟩ := Option.map_eq_some_iff.1 hw
  simp only [Prod.mk.injEq] at hx1
  obtain ⟨rfl, rfl⟩ := hx1
  exact OpenSpec.preRow_of_cond 16 hx (by kernel_rfl) (fun k hk => by cases hk) (by kernel_rfl) (laid_met os _)
set_option maxHeartbeats 4000000 in
theorem ringKnown_lifted (os : Os) (started : os.Started) (H : Type) (enc : TypeId × Value → H) (F : Stop.Interp) :
    ReturnsInHanded {} Tryz.checked os 6 .any ((OpenSpec.ofChange Rows.ringKnownSpec).preRow enc Tryz.prog Tryz.f6 Rows.ringKnownRow.domain false Rows.ringKnownRow.laid) (((OpenSpec.ofChange Rows.ringKnownSpec).at F).post enc Tryz.prog Tryz.f6 false true false false) := by
  refine returnsInHanded_of_row (C := Tryz.checked) (s := OpenSpec.ofChange Rows.ringKnownSpec) own started (by kernel_rfl) Tryz.func6
    (witness_row_atRef (enc := enc) (C := Tryz.checked) false (laidWorld os) #[] rfl (by kernel_rfl) (by kernel_rfl) (by kernel_rfl) (ringKnown_pre os enc)) ?_
  intro W base args ds gs before hval0 hW hcnd _ _ hL _ _
  obtain ⟨aF, aR, hErr⟩ := errG_of_laid (W := W) hL
  have hval : ∀ (j : Nat) t v, Tryz.f6.params[j]? = some t → args[j]? = some v → Value.okWide Tryz.prog W .any base t v := hval0
  have hW' := hW
  obtain ⟨p, q, hA0, hV, rfl, hfz, hnd⟩ := hW
  have hA : DataW.TrodAll enc Tryz.prog W 0 (fun _ => true) true Tryz.f6.params.toList args.toList ds p := hA0
  rw [Tryz.params6] at hA hval
  obtain ⟨hv, rfl, rfl⟩ := trodAll_nil hA
  obtain rfl : args = #[] := by apply Array.toList_inj.1; exact hv
  obtain ⟨rfl, rfl⟩ := trodVars_none hV
  clear hA0 hval0 hval
  refine (ringKnown_walk W aF aR hErr ).mono fun e W' ⟨he, hk⟩ => ?_
  subst he
  have bel := hk.below
  exact ⟨_, rfl, _, _, _, [], _, [], hW', trodAll_mk1 (shut_bool Tryz.underlying4 _), trodAll_mk0, rfl, bel.frame _, fun h => by cases h⟩

theorem ringKnown_said : Rows.RingKnownSaid :=
  OpenClaim.holds_of_cond 6 Tryz.f6 rfl rfl rfl rfl rfl rfl rfl ⟨rfl, rfl, rfl, rfl, rfl⟩ rfl rfl rfl rfl rfl (by kernel_rfl) Tryz.func6 (by kernel_rfl)
    (of_decide_eq_true (by kernel_rfl)) (by unfold Func.isWrapper; first | (rw [if_pos (by decide +kernel)]; kernel_rfl) | (rw [if_neg (by decide +kernel)]; exact ⟨rfl, rfl⟩))
    (fun os started H enc _ F => by rw [OpenClaim.pre_eq_preRow]; exact ringKnown_lifted os started H enc F)
theorem ringKnown_plain (f : FuncId) (fn : Func) (hf : Tryz.pinned.checked.prog.funcNamed "caulker/caulkerlaw10.RingKnown" = some f) (hfn : Tryz.pinned.checked.prog.funcs[f]? = some fn) :
    true = Tryz.pinned.checked.prog.looks [] ∧ ∀ (j : Nat) t, fn.params[j]? = some t → Tryz.pinned.checked.prog.wantsStandIn t = false := by
  obtain rfl : f = 6 := Option.some.inj ((show Tryz.prog.funcNamed "caulker/caulkerlaw10.RingKnown" = some 6 by kernel_rfl).symm.trans hf) |>.symm
  obtain rfl : fn = Tryz.f6 := (Option.some.inj (Tryz.func6.symm.trans hfn)).symm
  refine ⟨by kernel_rfl, fun j t ht => ?_⟩
  rw [Tryz.params6] at ht
  simp at ht
theorem ringKnown_proved : Rows.RingKnownCardSaid :=
  Claim7.holds_tied_plain_at .later [] _ _ _ _ ringKnown_said (fun _ h => by cases h) (by kernel_rfl) (fun _ h => by cases h) ringKnown_row_tie rfl ⟨rfl, rfl⟩ (by kernel_rfl) rfl ringKnown_plain (by kernel_rfl)
#print axioms ringKnown_proved
end Go.Proofs.YtaiicjhnhbkgmaaGreatDoor
