/-
  The law UberKnown holds: for every input, caulkerlaw09.UberKnown returns true, and what was handed in reads as it did.
  Conditions: none but those of the given row.
-/
import Derived.Test.YtpkpopgcfgonoaaDoorArgsUb
import Derived.Test.YtpkpopgcfgonoaaDoorUKnown
import Derived.Test.YtpkpopgcfgonoaaDoorErrLaid
import Derived.Test.YtpkpopgcfgonoaaDoorCards
import Derived.Test.YtpkpopgcfgonoaaDoorTie
import Derived.WalkKit
import Derived.SevenTiedAt
namespace Go.Proofs.YtpkpopgcfgonoaaDoor
open Go.ChangeShapes Go.WideShapes Go.ChangeAt Go.RowKit
set_option linter.unusedVariables false
set_option maxRecDepth 100000

theorem uberKnown_pre (os : Os) {H : Type} (enc : TypeId × Value → H) :
    (OpenSpec.ofChange Rows.uberKnownSpec).preRow enc Tryd.prog Tryd.f3 Rows.uberKnownRow.domain false Rows.uberKnownRow.laid ((laidWorld os).forCall (fun _ _ => 0) ⟨#[], #[], []⟩).memory #[] := by
  have hw : (DataW.whole enc Tryd.prog ((laidWorld os).forCall (fun _ _ => 0) ⟨#[], #[], []⟩).memory Tryd.f3.params.toList Rows.uberKnownSpec.vars false (#[] : Array Value).toList 16).map (fun x => (x.1, x.2.1)) =
      some ([], []) := by kernel_rfl
  obtain ⟨⟨x1, x2, x3⟩, hx, hx1⟩ := Option.map_eq_some_iff.1 hw
  simp only [Prod.mk.injEq] at hx1
  obtain ⟨rfl, rfl⟩ := hx1
  exact OpenSpec.preRow_of_cond 16 hx (by kernel_rfl) (fun k hk => by cases hk) (by kernel_rfl) (laid_met os _)
set_option maxHeartbeats 4000000 in
theorem uberKnown_lifted (os : Os) (started : os.Started) (H : Type) (enc : TypeId × Value → H) (F : Stop.Interp) :
    ReturnsInHanded {} Tryd.checked os 3 .any ((OpenSpec.ofChange Rows.uberKnownSpec).preRow enc Tryd.prog Tryd.f3 Rows.uberKnownRow.domain false Rows.uberKnownRow.laid) (((OpenSpec.ofChange Rows.uberKnownSpec).at F).post enc Tryd.prog Tryd.f3 false true false false) := by
  refine returnsInHanded_of_row (C := Tryd.checked) (s := OpenSpec.ofChange Rows.uberKnownSpec) own started (by kernel_rfl) Tryd.func3
    (witness_row_atRef (enc := enc) (C := Tryd.checked) false (laidWorld os) #[] rfl (by kernel_rfl) (by kernel_rfl) (by kernel_rfl) (uberKnown_pre os enc)) ?_
  intro W base args ds gs before hval0 hW hcnd _ _ hL _ _
  obtain ⟨aF, aR, hErr⟩ := errG_of_laid (W := W) hL
  have hval : ∀ (j : Nat) t v, Tryd.f3.params[j]? = some t → args[j]? = some v → Value.okWide Tryd.prog W .any base t v := hval0
  have hW' := hW
  obtain ⟨p, q, hA0, hV, rfl, hfz, hnd⟩ := hW
  have hA : DataW.TrodAll enc Tryd.prog W 0 (fun _ => true) true Tryd.f3.params.toList args.toList ds p := hA0
  rw [Tryd.params3] at hA hval
  obtain ⟨hv, rfl, rfl⟩ := trodAll_nil hA
  obtain rfl : args = #[] := by apply Array.toList_inj.1; exact hv
  obtain ⟨rfl, rfl⟩ := trodVars_none hV
  clear hA0 hval0 hval
  refine (uberKnown_walk W aF aR hErr ).mono fun e W' ⟨he, hk⟩ => ?_
  subst he
  have bel := hk.below
  exact ⟨_, rfl, _, _, _, [], _, [], hW', trodAll_mk1 (shut_bool Tryd.underlying4 _), trodAll_mk0, rfl, bel.frame _, fun h => by cases h⟩

theorem uberKnown_said : Rows.UberKnownSaid :=
  OpenClaim.holds_of_cond 3 Tryd.f3 rfl rfl rfl rfl rfl rfl rfl ⟨rfl, rfl, rfl, rfl, rfl⟩ rfl rfl rfl rfl rfl (by kernel_rfl) Tryd.func3 (by kernel_rfl)
    (of_decide_eq_true (by kernel_rfl)) (by unfold Func.isWrapper; first | (rw [if_pos (by decide +kernel)]; kernel_rfl) | (rw [if_neg (by decide +kernel)]; exact ⟨rfl, rfl⟩))
    (fun os started H enc _ F => by rw [OpenClaim.pre_eq_preRow]; exact uberKnown_lifted os started H enc F)
theorem uberKnown_plain (f : FuncId) (fn : Func) (hf : Tryd.pinned.checked.prog.funcNamed "caulker/caulkerlaw09.UberKnown" = some f) (hfn : Tryd.pinned.checked.prog.funcs[f]? = some fn) :
    true = Tryd.pinned.checked.prog.looks [] ∧ ∀ (j : Nat) t, fn.params[j]? = some t → Tryd.pinned.checked.prog.wantsStandIn t = false := by
  obtain rfl : f = 3 := Option.some.inj ((show Tryd.prog.funcNamed "caulker/caulkerlaw09.UberKnown" = some 3 by kernel_rfl).symm.trans hf) |>.symm
  obtain rfl : fn = Tryd.f3 := (Option.some.inj (Tryd.func3.symm.trans hfn)).symm
  refine ⟨by kernel_rfl, fun j t ht => ?_⟩
  rw [Tryd.params3] at ht
  have hm := Array.mem_of_getElem? ht
  simp only [List.mem_toArray, List.mem_cons, List.not_mem_nil, or_false] at hm
  exact absurd hm (by simp)
theorem uberKnown_proved : Rows.UberKnownCardSaid :=
  Claim7.holds_tied_plain_at .later [] _ _ _ _ uberKnown_said (fun _ h => by cases h) (by kernel_rfl) (fun _ h => by cases h) uberKnown_row_tie rfl ⟨rfl, rfl⟩ (by kernel_rfl) rfl uberKnown_plain (by kernel_rfl)
#print axioms uberKnown_proved
end Go.Proofs.YtpkpopgcfgonoaaDoor
