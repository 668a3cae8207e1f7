/- A part of the proof. Conditions: those told. -/
import Derived.Test.YtjkbekifgobeaaaGreatS1
import Derived.Test.YtjkbekifgobeaaaGreatS34
import Derived.Test.YtjkbekifgobeaaaGreatRows
import Derived.Test.YtjkbekifgobeaaaGreatChecked
import Derived.ProofKit
import Derived.OpenShut
import Derived.ShutString
import Derived.ChangeOld
import Derived.Below
import Derived.Lib.SmallJoins
namespace Go.Proofs.YtjkbekifgobeaaaGreat
set_option maxHeartbeats 64000000
set_option maxRecDepth 100000
set_option linter.unusedVariables false
section
open Go.ChangeShapes Go.WideShapes Go.ChangeAt Go.RowKit
theorem own:ownKnob Tryz.prog.godebug=none:=by kernel_rfl
theorem vU(os:Os)(started:os.Started)(H:Type)(enc:TypeId×Value->H) :
 ReturnsInHanded {} Tryz.checked os 5 .any (Rows.treeKnownSpec.pre6 enc Tryz.prog Tryz.f5 Rows.treeKnownRow.domain false) (Rows.treeKnownSpec.post enc Tryz.prog Tryz.f5 false true false false):=by
 refine returnsInHanded_of_change (C:=Tryz.checked) own started (by kernel_rfl) Tryz.func5
  (ChangeSpec.witness6 (enc:=enc) (C:=Tryz.checked) false ⟨#[],#[],[]⟩ 64 (by kernel_rfl) (by kernel_rfl) (by kernel_rfl) (by kernel_rfl)) ?_
 intro W base args ds gs before hval0 hW hcnd _;have hval:∀(j:Nat) t v,Tryz.f5.params[j]?=some t->args[j]?=some v->Value.okWide Tryz.prog W .any base t v:=hval0;have hW':=hW;obtain⟨p,q,hA0,hV,rfl,hfz,hnd⟩:=hW;have hA:DataW.TrodAll enc Tryz.prog W 0 (fun _=>true) true Tryz.f5.params.toList args.toList ds p:=hA0;rw[Tryz.params5] at hA hval;obtain⟨hv,rfl,rfl⟩:=trodAll_nil hA;obtain rfl:args=#[]:=by apply Array.toList_inj.1;exact hv
 obtain⟨rfl,rfl⟩:=trodVars_none hV;clear hA0 hval0 hval;refine(yS  W).mono fun e W' ⟨he,hk⟩=>?_
 subst he;have bel:=hk.below;exact⟨_,rfl,_,_,_,[],_,[],hW',trodAll_mk1 (shut_bool Tryz.underlying4 _),trodAll_mk0,rfl,bel.frame _,fun h=>by cases h⟩
theorem cK{a b:Bool}(h:a=true)(k:b=true):(a && b)=true:=by rw[h,k];rfl
theorem cl0:(Rows.treeKnownRow.wf (OpenSpec.ofChange Rows.treeKnownSpec))=true:=by kernel_rfl
theorem cl1:(laidOutB Tryz.pinned.checked.prog)=true:=by kernel_rfl
theorem cl2:(mapsRowed Tryz.pinned.checked.prog)=true:=by kernel_rfl
theorem cl3:(Tryz.f5.params.all (Tryz.pinned.checked.prog.readableRec ·))=true:=by kernel_rfl
theorem cl4:(namedTie Tryz.pinned.checked.prog Rows.treeKnownRow.named Rows.treeKnownSpec.vars)=true:=by kernel_rfl
theorem cl5:(Rows.treeKnownRow.stops == [])=true:=by kernel_rfl
theorem cl6:(Tryz.pinned.checked.prog.stops == [])=true:=by kernel_rfl
theorem cl7:(Rows.treeKnownRow.knobs == [])=true:=by kernel_rfl
theorem cl8:(Tryz.pinned.checked.prog.stopKnobs == [])=true:=by kernel_rfl
theorem cl9:(Rows.treeKnownRow.inPlace == Tryz.pinned.checked.prog.inPlace 5)=true:=by kernel_rfl
theorem LL:(Rows.treeKnownRow.unfollowed == Tryz.pinned.checked.prog.unfollowed 5)=true:=by kernel_rfl
theorem LM:(Rows.treeKnownRow.recurses == Tryz.pinned.checked.prog.recurses 5)=true:=by kernel_rfl
theorem LN:(Rows.treeKnownRow.named == Tryz.pinned.checked.prog.varsNamed 5)=true:=by kernel_rfl
theorem LO:(Rows.treeKnownRow.maps == (Tryz.f5.params.toList++Rows.treeKnownSpec.plain.varTypes Tryz.pinned.checked.prog).any (Tryz.pinned.checked.prog.mapsRec ·))=true:=by kernel_rfl
theorem LP:(Rows.treeKnownRow.ifaces == (Tryz.f5.params.toList++Rows.treeKnownSpec.plain.varTypes Tryz.pinned.checked.prog).any (Tryz.pinned.checked.prog.ifacesRec ·))=true:=by kernel_rfl
theorem LQ:(Rows.treeKnownRow.mapsOut == Tryz.pinned.checked.prog.mapsAmong Tryz.f5.resultTypes.toList)=true:=by kernel_rfl
theorem LR:(Rows.treeKnownRow.loops == (Tryz.f5.params.toList++Rows.treeKnownSpec.plain.varTypes Tryz.pinned.checked.prog).any (Tryz.pinned.checked.prog.loopsFrom ·))=true:=by kernel_rfl
theorem LS:(Rows.treeKnownRow.wideKeys == ((Tryz.f5.params.toList++Rows.treeKnownSpec.plain.varTypes Tryz.pinned.checked.prog)++Tryz.f5.resultTypes.toList).any (Tryz.pinned.checked.prog.wideKeysFrom ·))=true:=by kernel_rfl
theorem LT:(Rows.treeKnownSpec.vars.all (Tryz.pinned.checked.prog.varReadable ·))=true:=by kernel_rfl
theorem LU:(Tryz.f5.resultTypes.all (fun t=>Tryz.pinned.checked.prog.readableRec t && decide (t<Tryz.pinned.checked.prog.types.size)))=true:=by kernel_rfl
theorem LV:(Rows.treeKnownRow.ifacesOut == Tryz.f5.resultTypes.toList.any (Tryz.pinned.checked.prog.ifacesRec ·))=true:=by kernel_rfl
theorem LW:(Rows.treeKnownRow.loopsOut == Tryz.f5.resultTypes.toList.any (Tryz.pinned.checked.prog.loopsFrom ·))=true:=by kernel_rfl
theorem LX:(Rows.treeKnownRow.plainKeys == Tryz.pinned.checked.prog.plainKeys)=true:=by kernel_rfl
theorem LY:(Rows.treeKnownRow.shortTexts.isNone)=true:=by kernel_rfl
theorem LZ:(Tryz.pinned.checked.prog.stopsHeard)=true:=by kernel_rfl
theorem L0:(Tryz.pinned.checked.prog.mayEnter)=true:=by kernel_rfl
theorem L1:(Rows.treeKnownRow.lifted == Tryz.pinned.checked.prog.liftsFinal)=true:=by kernel_rfl
theorem L2:(Tryz.pinned.checked.prog.make == some Rows.treeKnownRow.make)=true:=by kernel_rfl
theorem L3:(Rows.treeKnownRow.kinds == (if Rows.treeKnownRow.domain.isEmpty then [] else Tryz.f5.params.toList.map fun t=>match Tryz.pinned.checked.prog.underlying t with|some (.int k)=>some k|_=>none))=true:=by kernel_rfl
theorem L4:(Rows.treeKnownRow.pinned == Rows.treeKnownRow.pinnedBy)=true:=by kernel_rfl
theorem L5:(Rows.treeKnownRow.veiled == ((Tryz.f5.params.toList++Rows.treeKnownSpec.plain.varTypes Tryz.pinned.checked.prog)++Tryz.f5.resultTypes.toList).any (Tryz.pinned.checked.prog.veiledRec ·))=true:=by kernel_rfl
theorem L6:(Rows.treeKnownRow.veiledFits Tryz.pinned.checked.prog Tryz.f5.params.toList ((Tryz.f5.params.toList++Rows.treeKnownSpec.plain.varTypes Tryz.pinned.checked.prog)++Tryz.f5.resultTypes.toList))=true:=by kernel_rfl
theorem vV:joinedFacts Tryz.pinned.checked.prog 5 Tryz.f5 Rows.treeKnownSpec Rows.treeKnownRow=true:=by
 unfold joinedFacts;exact(cK (cK (cK (cK (cK (cK (cK (cK (cK (cK (cK (cK (cK (cK (cK (cK (cK (cK (cK (cK (cK (cK (cK (cK (cK (cK (cK (cK (cK (cK (cK cl0 cl1) cl2) cl3) cl4) cl5) cl6) cl7) cl8) cl9) LL) LM) LN) LO) LP) LQ) LR) LS) LT) LU) LV) LW) LX) LY) LZ) L0) L1) L2) L3) L4) L5) L6)
theorem yT:Tryz.f5.isWrapper Tryz.pinned.checked.prog Rows.treeKnownRow.wrapper Rows.treeKnownRow.mainSum:=by unfold Func.isWrapper;first|(rw[if_pos (by decide +kernel)];kernel_rfl)|(rw[if_neg (by decide +kernel)];exact⟨rfl,rfl⟩)
theorem xP:Tryz.pinned.checked.prog.funcNamed Rows.treeKnownRow.func=some 5:=by kernel_rfl
theorem treeKnown_proved:Rows.TreeKnownSaid:=
 OpenClaim.holds_of_wide 5 Tryz.f5 rfl rfl rfl rfl rfl rfl rfl ⟨rfl,rfl,rfl,rfl,rfl⟩ rfl rfl rfl rfl rfl xP Tryz.func5 vV (of_decide_eq_true (by kernel_rfl)) yT
  (fun os started H enc _=>vU os started H enc)
end
end Go.Proofs.YtjkbekifgobeaaaGreat
