/-
  The law RingFinds holds: for every input, caulkerlaw10.RingFinds returns true, and what was handed in reads as it did.
  Conditions: none but those of the given row.
-/
import Derived.Test.YtaiicjhnhbkgmaaGreatDoorRingV
import Derived.Test.YtaiicjhnhbkgmaaGreatDoorErrLaid
import Derived.Test.YtaiicjhnhbkgmaaGreatDoorCards
import Derived.Test.YtaiicjhnhbkgmaaGreatDoorTie
import Derived.WalkKit
import Derived.SevenTiedAt
namespace Go.Proofs.YtaiicjhnhbkgmaaGreatDoor
open Go.ChangeShapes Go.WideShapes Go.ChangeAt Go.RowKit
set_option linter.unusedVariables false
set_option maxRecDepth 100000

theorem ringFinds_pre (os : Os) {H : Type} (enc : TypeId × Value → H) :
    (OpenSpec.ofChange Rows.ringFindsSpec).preRow enc Tryz.prog Tryz.f5 Rows.ringFindsRow.domain false Rows.ringFindsRow.laid ((laidWorld os).forCall (fun _ _ => 0) ⟨#[], #[.slice none 0 0, .agg (Array.replicate 32 (.int .u8 0)), .int .i64 0], []⟩).memory #[.slice none 0 0, .agg (Array.replicate 32 (.int .u8 0)), .int .i64 0] := by
  have hw : (DataW.whole enc Tryz.prog ((laidWorld os).forCall (fun _ _ => 0) ⟨#[], #[.slice none 0 0, .agg (Array.replicate 32 (.int .u8 0)), .int .i64 0], []⟩).memory Tryz.f5.params.toList Rows.ringFindsSpec.vars false (#[.slice none 0 0, .agg (Array.replicate 32 (.int .u8 0)), .int .i64 0] : Array Value).toList 16).map (fun x => (x.1, x.2.1)) =
      some ([.nil, .agg (List.replicate 32 (.lit (.int .u8 0))), .lit (.int .i64 0)], []) := by kernel_rfl
  obtain ⟨⟨x1, x2, x3⟩, hx, hx1⟩ := Option.map_eq_some_iff.1 hw
  simp only [Prod.mk.injEq] at hx1
  obtain ⟨rfl, rfl⟩ := hx1
  exact OpenSpec.preRow_of_cond 16 hx (by kernel_rfl) (fun k hk => by cases hk) (by kernel_rfl) (laid_met os _)
set_option maxHeartbeats 4000000 in
theorem ringFinds_lifted (os : Os) (started : os.Started) (H : Type) (enc : TypeId × Value → H) (F : Stop.Interp) :
    ReturnsInHanded {} Tryz.checked os 5 .any ((OpenSpec.ofChange Rows.ringFindsSpec).preRow enc Tryz.prog Tryz.f5 Rows.ringFindsRow.domain false Rows.ringFindsRow.laid) (((OpenSpec.ofChange Rows.ringFindsSpec).at F).post enc Tryz.prog Tryz.f5 false true false false) := by
  refine returnsInHanded_of_row (C := Tryz.checked) (s := OpenSpec.ofChange Rows.ringFindsSpec) own started (by kernel_rfl) Tryz.func5
    (witness_row_atRef (enc := enc) (C := Tryz.checked) false (laidWorld os) #[.slice none 0 0, .agg (Array.replicate 32 (.int .u8 0)), .int .i64 0] rfl (by kernel_rfl) (by kernel_rfl) (by kernel_rfl) (ringFinds_pre os enc)) ?_
  intro W base args ds gs before hval0 hW hcnd _ _ hL _ _
  obtain ⟨aF, aR, hErr⟩ := errG_of_laid (W := W) hL
  have hval : ∀ (j : Nat) t v, Tryz.f5.params[j]? = some t → args[j]? = some v → Value.okWide Tryz.prog W .any base t v := hval0
  have hW' := hW
  obtain ⟨p, q, hA0, hV, rfl, hfz, hnd⟩ := hW
  have hA : DataW.TrodAll enc Tryz.prog W 0 (fun _ => true) true Tryz.f5.params.toList args.toList ds p := hA0
  rw [Tryz.params5] at hA hval
  obtain ⟨v0, vs0, d0, ds0, p0, q0, hargs0, rfl, rfl, h0, r0⟩ := trodAll_cons hA
  obtain ⟨v1, vs1, d1, ds1, p1, q1, hargs1, rfl, rfl, h1, r1⟩ := trodAll_cons r0
  obtain ⟨v2, vs2, d2, ds2, p2, q2, hargs2, rfl, rfl, h2, r2⟩ := trodAll_cons r1
  obtain ⟨hv2, rfl, rfl⟩ := trodAll_nil r2
  obtain rfl : args = #[v0, v1, v2] := by apply Array.toList_inj.1; rw [hargs0]; simp only [hargs1, hargs2, hv2]
  clear hargs0 hargs1 hargs2 hv2
  obtain ⟨rfl, rfl⟩ := trodVars_none hV
  obtain ⟨a0, len0, cap0, rfl⟩ := okWide_slice Tryz.underlying41 (hval 0 41 v0 rfl rfl)
  obtain ⟨cs1, rfl, hcs1⟩ := okWide_array Tryz.underlying32 (hval 1 32 v1 rfl rfl)
  obtain ⟨n2, rfl⟩ := okWide_int Tryz.underlying3 (hval 2 3 v2 rfl rfl)
  have k0 := h0
  have lt0 : ∀ x ∈ p0, x.block < W.heap.size := by obtain ⟨m, hm⟩ := k0; exact DataW.trod_lt m _ _ _ hm
  have k1 := h1
  have lt1 : ∀ x ∈ p1, x.block < W.heap.size := by obtain ⟨m, hm⟩ := k1; exact DataW.trod_lt m _ _ _ hm
  have k2 := h2
  have lt2 : ∀ x ∈ p2, x.block < W.heap.size := by obtain ⟨m, hm⟩ := k2; exact DataW.trod_lt m _ _ _ hm
  clear hA0 hval0 hval
  obtain ⟨l0, hll0, hrd0⟩ : ∃ l : List (List UInt8), l.length = len0 ∧ RowsB W (.slice a0 len0 cap0) l := by
    obtain ⟨fuel, hf⟩ := h0
    exact lists_of_trod (by simpa [Value.cells] using hf)
  obtain ⟨P1, hP1, hPc1⟩ : ∃ P : List UInt8, P.length = 32 ∧ cs1 = (P.map vb).toArray := by
    obtain ⟨fuel, hf⟩ := h1
    obtain ⟨P, hP, hc⟩ := id_of_trod hf
    exact ⟨P, hP, by apply Array.toList_inj.1; simpa [Value.cells] using hc⟩
  subst hPc1
  have hn2 : -9223372036854775808 ≤ n2 ∧ n2 ≤ 9223372036854775807 := by
    obtain ⟨fuel, hf⟩ := h2
    obtain ⟨a, e0, -, wa⟩ := DataW.trod_int Tryz.underlying3 hf
    simp [Value.cells] at e0
    subst e0
    exact bounds_i64 wa
  refine (ringFinds_walk W aF aR hErr _ l0 hrd0 P1 hP1 n2 hn2.1 hn2.2).mono fun e W' ⟨he, hk⟩ => ?_
  subst he
  have bel := hk.below
  exact ⟨_, rfl, _, _, _, [], _, [], hW', trodAll_mk1 (shut_bool Tryz.underlying4 _), (trodAll_cons_mk (Below.trod laidOut (by kernel_rfl) (of_decide_eq_true (by kernel_rfl)) k0 bel lt0) (trodAll_cons_mk (Below.trod laidOut (by kernel_rfl) (of_decide_eq_true (by kernel_rfl)) k1 bel lt1) (trodAll_cons_mk (Below.trod laidOut (by kernel_rfl) (of_decide_eq_true (by kernel_rfl)) k2 bel lt2) trodAll_mk0))), rfl, bel.frame _, fun h => by cases h⟩

theorem ringFinds_said : Rows.RingFindsSaid :=
  OpenClaim.holds_of_cond 5 Tryz.f5 rfl rfl rfl rfl rfl rfl rfl ⟨rfl, rfl, rfl, rfl, rfl⟩ rfl rfl rfl rfl rfl (by kernel_rfl) Tryz.func5 (by kernel_rfl)
    (of_decide_eq_true (by kernel_rfl)) (by unfold Func.isWrapper; first | (rw [if_pos (by decide +kernel)]; kernel_rfl) | (rw [if_neg (by decide +kernel)]; exact ⟨rfl, rfl⟩))
    (fun os started H enc _ F => by rw [OpenClaim.pre_eq_preRow]; exact ringFinds_lifted os started H enc F)
theorem ringFinds_plain (f : FuncId) (fn : Func) (hf : Tryz.pinned.checked.prog.funcNamed "caulker/caulkerlaw10.RingFinds" = some f) (hfn : Tryz.pinned.checked.prog.funcs[f]? = some fn) :
    true = Tryz.pinned.checked.prog.looks [] ∧ ∀ (j : Nat) t, fn.params[j]? = some t → Tryz.pinned.checked.prog.wantsStandIn t = false := by
  obtain rfl : f = 5 := Option.some.inj ((show Tryz.prog.funcNamed "caulker/caulkerlaw10.RingFinds" = some 5 by kernel_rfl).symm.trans hf) |>.symm
  obtain rfl : fn = Tryz.f5 := (Option.some.inj (Tryz.func5.symm.trans hfn)).symm
  refine ⟨by kernel_rfl, fun j t ht => ?_⟩
  rw [Tryz.params5] at ht
  have hm := Array.mem_of_getElem? ht
  simp only [List.mem_toArray, List.mem_cons, List.not_mem_nil, or_false] at hm
  rcases hm with rfl | rfl | rfl
  · exact (show Tryz.prog.wantsStandIn 41 = false by kernel_rfl)
  · exact (show Tryz.prog.wantsStandIn 32 = false by kernel_rfl)
  · exact (show Tryz.prog.wantsStandIn 3 = false by kernel_rfl)
theorem ringFinds_proved : Rows.RingFindsCardSaid :=
  Claim7.holds_tied_plain_at .later [] _ _ _ _ ringFinds_said (fun _ h => by cases h) (by kernel_rfl) (fun _ h => by cases h) ringFinds_row_tie rfl ⟨rfl, rfl⟩ (by kernel_rfl) rfl ringFinds_plain (by kernel_rfl)
#print axioms ringFinds_proved
end Go.Proofs.YtaiicjhnhbkgmaaGreatDoor
