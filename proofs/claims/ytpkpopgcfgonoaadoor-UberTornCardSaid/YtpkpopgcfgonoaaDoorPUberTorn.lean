/-
  The law UberTorn holds: for every input, caulkerlaw09.UberTorn returns true, and what was handed in reads as it did.
  Conditions: none but those of the given row.
-/
import Derived.Test.YtpkpopgcfgonoaaDoorArgsUb
import Derived.Test.YtpkpopgcfgonoaaDoorUTorn
import Derived.Test.YtpkpopgcfgonoaaDoorErrLaid
import Derived.Test.YtpkpopgcfgonoaaDoorCards
import Derived.Test.YtpkpopgcfgonoaaDoorTie
import Derived.WalkKit
import Derived.SevenTiedAt
namespace Go.Proofs.YtpkpopgcfgonoaaDoor
open Go.ChangeShapes Go.WideShapes Go.ChangeAt Go.RowKit
set_option linter.unusedVariables false
set_option maxRecDepth 100000

theorem uberTorn_pre (os : Os) {H : Type} (enc : TypeId × Value → H) :
    (OpenSpec.ofChange Rows.uberTornSpec).preRow enc Tryd.prog Tryd.f5 Rows.uberTornRow.domain false Rows.uberTornRow.laid ((laidWorld os).forCall (fun _ _ => 0) ⟨#[], #[.agg (ubCs (.slice none 0 0) zUb).toArray, .agg (ubCs (.slice none 0 0) zUb).toArray, .bool false, .int .i64 0], []⟩).memory #[.agg (ubCs (.slice none 0 0) zUb).toArray, .agg (ubCs (.slice none 0 0) zUb).toArray, .bool false, .int .i64 0] := by
  have hw : (DataW.whole enc Tryd.prog ((laidWorld os).forCall (fun _ _ => 0) ⟨#[], #[.agg (ubCs (.slice none 0 0) zUb).toArray, .agg (ubCs (.slice none 0 0) zUb).toArray, .bool false, .int .i64 0], []⟩).memory Tryd.f5.params.toList Rows.uberTornSpec.vars false (#[.agg (ubCs (.slice none 0 0) zUb).toArray, .agg (ubCs (.slice none 0 0) zUb).toArray, .bool false, .int .i64 0] : Array Value).toList 16).map (fun x => (x.1, x.2.1)) =
      some ([.agg [.lit (.int .i64 0), .agg [.nil, .lit (.int .i64 0), .lit (.int .i64 0), .agg (List.replicate 32 (.lit (.int .u8 0)))], .lit (.int .i64 0), .agg (List.replicate 32 (.lit (.int .u8 0)))], .agg [.lit (.int .i64 0), .agg [.nil, .lit (.int .i64 0), .lit (.int .i64 0), .agg (List.replicate 32 (.lit (.int .u8 0)))], .lit (.int .i64 0), .agg (List.replicate 32 (.lit (.int .u8 0)))], .lit (.bool false), .lit (.int .i64 0)], []) := by kernel_rfl
  obtain ⟨⟨x1, x2, x3⟩, hx, hx1⟩ := Option.map_eq_some_iff.1 hw
  simp only [Prod.mk.injEq] at hx1
  obtain ⟨rfl, rfl⟩ := hx1
  exact OpenSpec.preRow_of_cond 16 hx (by kernel_rfl) (fun k hk => by cases hk) (by kernel_rfl) (laid_met os _)
set_option maxHeartbeats 4000000 in
theorem uberTorn_lifted (os : Os) (started : os.Started) (H : Type) (enc : TypeId × Value → H) (F : Stop.Interp) :
    ReturnsInHanded {} Tryd.checked os 5 .any ((OpenSpec.ofChange Rows.uberTornSpec).preRow enc Tryd.prog Tryd.f5 Rows.uberTornRow.domain false Rows.uberTornRow.laid) (((OpenSpec.ofChange Rows.uberTornSpec).at F).post enc Tryd.prog Tryd.f5 false true false false) := by
  refine returnsInHanded_of_row (C := Tryd.checked) (s := OpenSpec.ofChange Rows.uberTornSpec) own started (by kernel_rfl) Tryd.func5
    (witness_row_atRef (enc := enc) (C := Tryd.checked) false (laidWorld os) #[.agg (ubCs (.slice none 0 0) zUb).toArray, .agg (ubCs (.slice none 0 0) zUb).toArray, .bool false, .int .i64 0] rfl (by kernel_rfl) (by kernel_rfl) (by kernel_rfl) (uberTorn_pre os enc)) ?_
  intro W base args ds gs before hval0 hW hcnd _ _ hL _ _
  obtain ⟨aF, aR, hErr⟩ := errG_of_laid (W := W) hL
  have hval : ∀ (j : Nat) t v, Tryd.f5.params[j]? = some t → args[j]? = some v → Value.okWide Tryd.prog W .any base t v := hval0
  have hW' := hW
  obtain ⟨p, q, hA0, hV, rfl, hfz, hnd⟩ := hW
  have hA : DataW.TrodAll enc Tryd.prog W 0 (fun _ => true) true Tryd.f5.params.toList args.toList ds p := hA0
  rw [Tryd.params5] at hA hval
  obtain ⟨v0, vs0, d0, ds0, p0, q0, hargs0, rfl, rfl, h0, r0⟩ := trodAll_cons hA
  obtain ⟨v1, vs1, d1, ds1, p1, q1, hargs1, rfl, rfl, h1, r1⟩ := trodAll_cons r0
  obtain ⟨v2, vs2, d2, ds2, p2, q2, hargs2, rfl, rfl, h2, r2⟩ := trodAll_cons r1
  obtain ⟨v3, vs3, d3, ds3, p3, q3, hargs3, rfl, rfl, h3, r3⟩ := trodAll_cons r2
  obtain ⟨hv3, rfl, rfl⟩ := trodAll_nil r3
  obtain rfl : args = #[v0, v1, v2, v3] := by apply Array.toList_inj.1; rw [hargs0]; simp only [hargs1, hargs2, hargs3, hv3]
  clear hargs0 hargs1 hargs2 hargs3 hv3
  obtain ⟨rfl, rfl⟩ := trodVars_none hV
  obtain ⟨cs0, rfl, hcs0⟩ := okWide_struct ubUnder (hval 0 28 v0 rfl rfl)
  obtain ⟨cs1, rfl, hcs1⟩ := okWide_struct ubUnder (hval 1 28 v1 rfl rfl)
  obtain ⟨f2, rfl⟩ := okWide_bool Tryd.underlying4 (hval 2 4 v2 rfl rfl)
  obtain ⟨n3, rfl⟩ := okWide_int Tryd.underlying3 (hval 3 3 v3 rfl rfl)
  have k0 := h0
  have lt0 : ∀ x ∈ p0, x.block < W.heap.size := by obtain ⟨m, hm⟩ := k0; exact DataW.trod_lt m _ _ _ hm
  have k1 := h1
  have lt1 : ∀ x ∈ p1, x.block < W.heap.size := by obtain ⟨m, hm⟩ := k1; exact DataW.trod_lt m _ _ _ hm
  have k2 := h2
  have lt2 : ∀ x ∈ p2, x.block < W.heap.size := by obtain ⟨m, hm⟩ := k2; exact DataW.trod_lt m _ _ _ hm
  have k3 := h3
  have lt3 : ∀ x ∈ p3, x.block < W.heap.size := by obtain ⟨m, hm⟩ := k3; exact DataW.trod_lt m _ _ _ hm
  clear hA0 hval0 hval
  obtain ⟨uv0, U0, hUc0, hU0⟩ : ∃ v u, cs0 = (ubCs v u).toArray ∧ UbV W v u := by
    obtain ⟨fuel, hf⟩ := h0
    obtain ⟨v, u, hc, hu⟩ := ub_of_trod hf
    exact ⟨v, u, by apply Array.toList_inj.1; simpa [Value.cells] using hc, hu⟩
  subst hUc0
  obtain ⟨uv1, U1, hUc1, hU1⟩ : ∃ v u, cs1 = (ubCs v u).toArray ∧ UbV W v u := by
    obtain ⟨fuel, hf⟩ := h1
    obtain ⟨v, u, hc, hu⟩ := ub_of_trod hf
    exact ⟨v, u, by apply Array.toList_inj.1; simpa [Value.cells] using hc, hu⟩
  subst hUc1

  have hn3 : -9223372036854775808 ≤ n3 ∧ n3 ≤ 9223372036854775807 := by
    obtain ⟨fuel, hf⟩ := h3
    obtain ⟨a, e0, -, wa⟩ := DataW.trod_int Tryd.underlying3 hf
    simp [Value.cells] at e0
    subst e0
    exact bounds_i64 wa
  refine (uberTorn_walk W aF aR hErr uv0 U0 hU0 uv1 U1 hU1 f2 n3 hn3.1 hn3.2).mono fun e W' ⟨he, hk⟩ => ?_
  subst he
  have bel := hk.below
  exact ⟨_, rfl, _, _, _, [], _, [], hW', trodAll_mk1 (shut_bool Tryd.underlying4 _), (trodAll_cons_mk (Below.trod laidOut (by kernel_rfl) (of_decide_eq_true (by kernel_rfl)) k0 bel lt0) (trodAll_cons_mk (Below.trod laidOut (by kernel_rfl) (of_decide_eq_true (by kernel_rfl)) k1 bel lt1) (trodAll_cons_mk (Below.trod laidOut (by kernel_rfl) (of_decide_eq_true (by kernel_rfl)) k2 bel lt2) (trodAll_cons_mk (Below.trod laidOut (by kernel_rfl) (of_decide_eq_true (by kernel_rfl)) k3 bel lt3) trodAll_mk0)))), rfl, bel.frame _, fun h => by cases h⟩

theorem uberTorn_said : Rows.UberTornSaid :=
  OpenClaim.holds_of_cond 5 Tryd.f5 rfl rfl rfl rfl rfl rfl rfl ⟨rfl, rfl, rfl, rfl, rfl⟩ rfl rfl rfl rfl rfl (by kernel_rfl) Tryd.func5 (by kernel_rfl)
    (of_decide_eq_true (by kernel_rfl)) (by unfold Func.isWrapper; first | (rw [if_pos (by decide +kernel)]; kernel_rfl) | (rw [if_neg (by decide +kernel)]; exact ⟨rfl, rfl⟩))
    (fun os started H enc _ F => by rw [OpenClaim.pre_eq_preRow]; exact uberTorn_lifted os started H enc F)
theorem uberTorn_plain (f : FuncId) (fn : Func) (hf : Tryd.pinned.checked.prog.funcNamed "caulker/caulkerlaw09.UberTorn" = some f) (hfn : Tryd.pinned.checked.prog.funcs[f]? = some fn) :
    true = Tryd.pinned.checked.prog.looks [] ∧ ∀ (j : Nat) t, fn.params[j]? = some t → Tryd.pinned.checked.prog.wantsStandIn t = false := by
  obtain rfl : f = 5 := Option.some.inj ((show Tryd.prog.funcNamed "caulker/caulkerlaw09.UberTorn" = some 5 by kernel_rfl).symm.trans hf) |>.symm
  obtain rfl : fn = Tryd.f5 := (Option.some.inj (Tryd.func5.symm.trans hfn)).symm
  refine ⟨by kernel_rfl, fun j t ht => ?_⟩
  rw [Tryd.params5] at ht
  have hm := Array.mem_of_getElem? ht
  simp only [List.mem_toArray, List.mem_cons, List.not_mem_nil, or_false] at hm
  rcases hm with rfl | rfl | rfl | rfl
  · exact (show Tryd.prog.wantsStandIn 28 = false by kernel_rfl)
  · exact (show Tryd.prog.wantsStandIn 28 = false by kernel_rfl)
  · exact (show Tryd.prog.wantsStandIn 4 = false by kernel_rfl)
  · exact (show Tryd.prog.wantsStandIn 3 = false by kernel_rfl)
theorem uberTorn_proved : Rows.UberTornCardSaid :=
  Claim7.holds_tied_plain_at .later [] _ _ _ _ uberTorn_said (fun _ h => by cases h) (by kernel_rfl) (fun _ h => by cases h) uberTorn_row_tie rfl ⟨rfl, rfl⟩ (by kernel_rfl) rfl uberTorn_plain (by kernel_rfl)
#print axioms uberTorn_proved
end Go.Proofs.YtpkpopgcfgonoaaDoor
