/-
  The law UberBack holds: for every input, caulkerlaw09.UberBack returns true, and what was handed in reads as it did.
  Conditions: none but those of the given row.
-/
import Derived.Test.YtpkpopgcfgonoaaDoorArgsUb
import Derived.Test.YtpkpopgcfgonoaaDoorUBack
import Derived.Test.YtpkpopgcfgonoaaDoorErrLaid
import Derived.Test.YtpkpopgcfgonoaaDoorCards
import Derived.Test.YtpkpopgcfgonoaaDoorTie
import Derived.WalkKit
import Derived.SevenTiedAt
namespace Go.Proofs.YtpkpopgcfgonoaaDoor
open Go.ChangeShapes Go.WideShapes Go.ChangeAt Go.RowKit
set_option linter.unusedVariables false
set_option maxRecDepth 100000

theorem uberBack_pre (os : Os) {H : Type} (enc : TypeId × Value → H) :
    (OpenSpec.ofChange Rows.uberBackSpec).preRow enc Tryd.prog Tryd.f4 Rows.uberBackRow.domain false Rows.uberBackRow.laid ((laidWorld os).forCall (fun _ _ => 0) ⟨#[], #[.agg (ubCs (.slice none 0 0) zUb).toArray, .slice none 0 0], []⟩).memory #[.agg (ubCs (.slice none 0 0) zUb).toArray, .slice none 0 0] := by
  have hw : (DataW.whole enc Tryd.prog ((laidWorld os).forCall (fun _ _ => 0) ⟨#[], #[.agg (ubCs (.slice none 0 0) zUb).toArray, .slice none 0 0], []⟩).memory Tryd.f4.params.toList Rows.uberBackSpec.vars false (#[.agg (ubCs (.slice none 0 0) zUb).toArray, .slice none 0 0] : Array Value).toList 16).map (fun x => (x.1, x.2.1)) =
      some ([.agg [.lit (.int .i64 0), .agg [.nil, .lit (.int .i64 0), .lit (.int .i64 0), .agg (List.replicate 32 (.lit (.int .u8 0)))], .lit (.int .i64 0), .agg (List.replicate 32 (.lit (.int .u8 0)))], .nil], []) := by kernel_rfl
  obtain ⟨⟨x1, x2, x3⟩, hx, hx1⟩ := Option.map_eq_some_iff.1 hw
  simp only [Prod.mk.injEq] at hx1
  obtain ⟨rfl, rfl⟩ := hx1
  exact OpenSpec.preRow_of_cond 16 hx (by kernel_rfl) (fun k hk => by cases hk) (by kernel_rfl) (laid_met os _)
set_option maxHeartbeats 4000000 in
theorem uberBack_lifted (os : Os) (started : os.Started) (H : Type) (enc : TypeId × Value → H) (F : Stop.Interp) :
    ReturnsInHanded {} Tryd.checked os 4 .any ((OpenSpec.ofChange Rows.uberBackSpec).preRow enc Tryd.prog Tryd.f4 Rows.uberBackRow.domain false Rows.uberBackRow.laid) (((OpenSpec.ofChange Rows.uberBackSpec).at F).post enc Tryd.prog Tryd.f4 false true false false) := by
  refine returnsInHanded_of_row (C := Tryd.checked) (s := OpenSpec.ofChange Rows.uberBackSpec) own started (by kernel_rfl) Tryd.func4
    (witness_row_atRef (enc := enc) (C := Tryd.checked) false (laidWorld os) #[.agg (ubCs (.slice none 0 0) zUb).toArray, .slice none 0 0] rfl (by kernel_rfl) (by kernel_rfl) (by kernel_rfl) (uberBack_pre os enc)) ?_
  intro W base args ds gs before hval0 hW hcnd _ _ hL _ _
  obtain ⟨aF, aR, hErr⟩ := errG_of_laid (W := W) hL
  have hval : ∀ (j : Nat) t v, Tryd.f4.params[j]? = some t → args[j]? = some v → Value.okWide Tryd.prog W .any base t v := hval0
  have hW' := hW
  obtain ⟨p, q, hA0, hV, rfl, hfz, hnd⟩ := hW
  have hA : DataW.TrodAll enc Tryd.prog W 0 (fun _ => true) true Tryd.f4.params.toList args.toList ds p := hA0
  rw [Tryd.params4] at hA hval
  obtain ⟨v0, vs0, d0, ds0, p0, q0, hargs0, rfl, rfl, h0, r0⟩ := trodAll_cons hA
  obtain ⟨v1, vs1, d1, ds1, p1, q1, hargs1, rfl, rfl, h1, r1⟩ := trodAll_cons r0
  obtain ⟨hv1, rfl, rfl⟩ := trodAll_nil r1
  obtain rfl : args = #[v0, v1] := by apply Array.toList_inj.1; rw [hargs0]; simp only [hargs1, hv1]
  clear hargs0 hargs1 hv1
  obtain ⟨rfl, rfl⟩ := trodVars_none hV
  obtain ⟨cs0, rfl, hcs0⟩ := okWide_struct ubUnder (hval 0 28 v0 rfl rfl)
  obtain ⟨a1, len1, cap1, rfl⟩ := okWide_slice Tryd.underlying36 (hval 1 36 v1 rfl rfl)
  have k0 := h0
  have lt0 : ∀ x ∈ p0, x.block < W.heap.size := by obtain ⟨m, hm⟩ := k0; exact DataW.trod_lt m _ _ _ hm
  have k1 := h1
  have lt1 : ∀ x ∈ p1, x.block < W.heap.size := by obtain ⟨m, hm⟩ := k1; exact DataW.trod_lt m _ _ _ hm
  clear hA0 hval0 hval
  obtain ⟨uv0, U0, hUc0, hU0⟩ : ∃ v u, cs0 = (ubCs v u).toArray ∧ UbV W v u := by
    obtain ⟨fuel, hf⟩ := h0
    obtain ⟨v, u, hc, hu⟩ := ub_of_trod hf
    exact ⟨v, u, by apply Array.toList_inj.1; simpa [Value.cells] using hc, hu⟩
  subst hUc0
  obtain ⟨b1, hbl1, hrd1⟩ : ∃ b : List UInt8, b.length = len1 ∧ Rd W 1 (.slice a1 len1 cap1) len1 (b.map vb) := by
    obtain ⟨fuel, hf⟩ := h1
    exact bytes_of_trod (by simpa [Value.cells] using hf)
  subst hbl1
  refine (uberBack_walk W aF aR hErr uv0 U0 hU0 _ b1 hrd1).mono fun e W' ⟨he, hk⟩ => ?_
  subst he
  have bel := hk.below
  exact ⟨_, rfl, _, _, _, [], _, [], hW', trodAll_mk1 (shut_bool Tryd.underlying4 _), (trodAll_cons_mk (Below.trod laidOut (by kernel_rfl) (of_decide_eq_true (by kernel_rfl)) k0 bel lt0) (trodAll_cons_mk (Below.trod laidOut (by kernel_rfl) (of_decide_eq_true (by kernel_rfl)) k1 bel lt1) trodAll_mk0)), rfl, bel.frame _, fun h => by cases h⟩

theorem uberBack_said : Rows.UberBackSaid :=
  OpenClaim.holds_of_cond 4 Tryd.f4 rfl rfl rfl rfl rfl rfl rfl ⟨rfl, rfl, rfl, rfl, rfl⟩ rfl rfl rfl rfl rfl (by kernel_rfl) Tryd.func4 (by kernel_rfl)
    (of_decide_eq_true (by kernel_rfl)) (by unfold Func.isWrapper; first | (rw [if_pos (by decide +kernel)]; kernel_rfl) | (rw [if_neg (by decide +kernel)]; exact ⟨rfl, rfl⟩))
    (fun os started H enc _ F => by rw [OpenClaim.pre_eq_preRow]; exact uberBack_lifted os started H enc F)
theorem uberBack_plain (f : FuncId) (fn : Func) (hf : Tryd.pinned.checked.prog.funcNamed "caulker/caulkerlaw09.UberBack" = some f) (hfn : Tryd.pinned.checked.prog.funcs[f]? = some fn) :
    true = Tryd.pinned.checked.prog.looks [] ∧ ∀ (j : Nat) t, fn.params[j]? = some t → Tryd.pinned.checked.prog.wantsStandIn t = false := by
  obtain rfl : f = 4 := Option.some.inj ((show Tryd.prog.funcNamed "caulker/caulkerlaw09.UberBack" = some 4 by kernel_rfl).symm.trans hf) |>.symm
  obtain rfl : fn = Tryd.f4 := (Option.some.inj (Tryd.func4.symm.trans hfn)).symm
  refine ⟨by kernel_rfl, fun j t ht => ?_⟩
  rw [Tryd.params4] at ht
  have hm := Array.mem_of_getElem? ht
  simp only [List.mem_toArray, List.mem_cons, List.not_mem_nil, or_false] at hm
  rcases hm with rfl | rfl
  · exact (show Tryd.prog.wantsStandIn 28 = false by kernel_rfl)
  · exact (show Tryd.prog.wantsStandIn 36 = false by kernel_rfl)
theorem uberBack_proved : Rows.UberBackCardSaid :=
  Claim7.holds_tied_plain_at .later [] _ _ _ _ uberBack_said (fun _ h => by cases h) (by kernel_rfl) (fun _ h => by cases h) uberBack_row_tie rfl ⟨rfl, rfl⟩ (by kernel_rfl) rfl uberBack_plain (by kernel_rfl)
#print axioms uberBack_proved
end Go.Proofs.YtpkpopgcfgonoaaDoor
