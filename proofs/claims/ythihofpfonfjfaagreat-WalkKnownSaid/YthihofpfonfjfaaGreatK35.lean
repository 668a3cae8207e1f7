import Derived.Test.YthihofpfonfjfaaGreatK1
import Derived.Test.YthihofpfonfjfaaGreatK34
import Derived.Test.YthihofpfonfjfaaGreatRows
import Derived.Test.YthihofpfonfjfaaGreatChecked
import Derived.ProofKit
import Derived.OpenShut
import Derived.ShutString
import Derived.ChangeOld
import Derived.Below
import Derived.Lib.SmallJoins
namespace Go.Proofs.YthihofpfonfjfaaGreat
set_option maxHeartbeats 64000000
set_option maxRecDepth 100000
set_option linter.unusedVariables false
section
open Go.ChangeShapes Go.WideShapes Go.ChangeAt Go.RowKit
theorem own:ownKnob Tryz.prog.godebug=none:=by kernel_rfl
theorem yL(os:Os)(started:os.Started)(H:Type)(enc:TypeId×Value->H) :
 ReturnsInHanded {} Tryz.checked os 4 .any (Rows.walkKnownSpec.pre6 enc Tryz.prog Tryz.f4 Rows.walkKnownRow.domain false) (Rows.walkKnownSpec.post enc Tryz.prog Tryz.f4 false true false false):=by
 refine returnsInHanded_of_change (C:=Tryz.checked) own started (by kernel_rfl) Tryz.func4
  (ChangeSpec.witness6 (enc:=enc) (C:=Tryz.checked) false ⟨#[],#[],[]⟩ 64 (by kernel_rfl) (by kernel_rfl) (by kernel_rfl) (by kernel_rfl)) ?_
 intro W base args ds gs before hval0 hW hcnd _;have hval:∀(j:Nat) t v,Tryz.f4.params[j]?=some t->args[j]?=some v->Value.okWide Tryz.prog W .any base t v:=hval0;have hW':=hW;obtain⟨p,q,hA0,hV,rfl,hfz,hnd⟩:=hW;have hA:DataW.TrodAll enc Tryz.prog W 0 (fun _=>true) true Tryz.f4.params.toList args.toList ds p:=hA0;rw[Tryz.params4] at hA hval;obtain⟨hv,rfl,rfl⟩:=trodAll_nil hA;obtain rfl:args=#[]:=by apply Array.toList_inj.1;exact hv
 obtain⟨rfl,rfl⟩:=trodVars_none hV;clear hA0 hval0 hval;refine(AV  W).mono fun e W' ⟨he,hk⟩=>?_
 subst he;have bel:=hk.below;exact⟨_,rfl,_,_,_,[],_,[],hW',trodAll_mk1 (shut_bool Tryz.underlying4 _),trodAll_mk0,rfl,bel.frame _,fun h=>by cases h⟩
theorem cN{a b:Bool}(h:a=true)(k:b=true):(a && b)=true:=by rw[h,k];rfl
theorem cl0:(Rows.walkKnownRow.wf (OpenSpec.ofChange Rows.walkKnownSpec))=true:=by kernel_rfl
theorem cl1:(laidOutB Tryz.pinned.checked.prog)=true:=by kernel_rfl
theorem cl2:(mapsRowed Tryz.pinned.checked.prog)=true:=by kernel_rfl
theorem cl3:(Tryz.f4.params.all (Tryz.pinned.checked.prog.readableRec ·))=true:=by kernel_rfl
theorem cl4:(namedTie Tryz.pinned.checked.prog Rows.walkKnownRow.named Rows.walkKnownSpec.vars)=true:=by kernel_rfl
theorem cl5:(Rows.walkKnownRow.stops == [])=true:=by kernel_rfl
theorem cl6:(Tryz.pinned.checked.prog.stops == [])=true:=by kernel_rfl
theorem cl7:(Rows.walkKnownRow.knobs == [])=true:=by kernel_rfl
theorem cl8:(Tryz.pinned.checked.prog.stopKnobs == [])=true:=by kernel_rfl
theorem cl9:(Rows.walkKnownRow.inPlace == Tryz.pinned.checked.prog.inPlace 4)=true:=by kernel_rfl
theorem OH:(Rows.walkKnownRow.unfollowed == Tryz.pinned.checked.prog.unfollowed 4)=true:=by kernel_rfl
theorem OI:(Rows.walkKnownRow.recurses == Tryz.pinned.checked.prog.recurses 4)=true:=by kernel_rfl
theorem OJ:(Rows.walkKnownRow.named == Tryz.pinned.checked.prog.varsNamed 4)=true:=by kernel_rfl
theorem OK:(Rows.walkKnownRow.maps == (Tryz.f4.params.toList++Rows.walkKnownSpec.plain.varTypes Tryz.pinned.checked.prog).any (Tryz.pinned.checked.prog.mapsRec ·))=true:=by kernel_rfl
theorem OL:(Rows.walkKnownRow.ifaces == (Tryz.f4.params.toList++Rows.walkKnownSpec.plain.varTypes Tryz.pinned.checked.prog).any (Tryz.pinned.checked.prog.ifacesRec ·))=true:=by kernel_rfl
theorem OM:(Rows.walkKnownRow.mapsOut == Tryz.pinned.checked.prog.mapsAmong Tryz.f4.resultTypes.toList)=true:=by kernel_rfl
theorem ON:(Rows.walkKnownRow.loops == (Tryz.f4.params.toList++Rows.walkKnownSpec.plain.varTypes Tryz.pinned.checked.prog).any (Tryz.pinned.checked.prog.loopsFrom ·))=true:=by kernel_rfl
theorem OO:(Rows.walkKnownRow.wideKeys == ((Tryz.f4.params.toList++Rows.walkKnownSpec.plain.varTypes Tryz.pinned.checked.prog)++Tryz.f4.resultTypes.toList).any (Tryz.pinned.checked.prog.wideKeysFrom ·))=true:=by kernel_rfl
theorem OP:(Rows.walkKnownSpec.vars.all (Tryz.pinned.checked.prog.varReadable ·))=true:=by kernel_rfl
theorem OQ:(Tryz.f4.resultTypes.all (fun t=>Tryz.pinned.checked.prog.readableRec t && decide (t<Tryz.pinned.checked.prog.types.size)))=true:=by kernel_rfl
theorem OR:(Rows.walkKnownRow.ifacesOut == Tryz.f4.resultTypes.toList.any (Tryz.pinned.checked.prog.ifacesRec ·))=true:=by kernel_rfl
theorem OS:(Rows.walkKnownRow.loopsOut == Tryz.f4.resultTypes.toList.any (Tryz.pinned.checked.prog.loopsFrom ·))=true:=by kernel_rfl
theorem OT:(Rows.walkKnownRow.plainKeys == Tryz.pinned.checked.prog.plainKeys)=true:=by kernel_rfl
theorem OU:(Rows.walkKnownRow.shortTexts.isNone)=true:=by kernel_rfl
theorem OV:(Tryz.pinned.checked.prog.stopsHeard)=true:=by kernel_rfl
theorem OW:(Tryz.pinned.checked.prog.mayEnter)=true:=by kernel_rfl
theorem OX:(Rows.walkKnownRow.lifted == Tryz.pinned.checked.prog.liftsFinal)=true:=by kernel_rfl
theorem OY:(Tryz.pinned.checked.prog.make == some Rows.walkKnownRow.make)=true:=by kernel_rfl
theorem OZ:(Rows.walkKnownRow.kinds == (if Rows.walkKnownRow.domain.isEmpty then [] else Tryz.f4.params.toList.map fun t=>match Tryz.pinned.checked.prog.underlying t with|some (.int k)=>some k|_=>none))=true:=by kernel_rfl
theorem O0:(Rows.walkKnownRow.pinned == Rows.walkKnownRow.pinnedBy)=true:=by kernel_rfl
theorem O1:(Rows.walkKnownRow.veiled == ((Tryz.f4.params.toList++Rows.walkKnownSpec.plain.varTypes Tryz.pinned.checked.prog)++Tryz.f4.resultTypes.toList).any (Tryz.pinned.checked.prog.veiledRec ·))=true:=by kernel_rfl
theorem O2:(Rows.walkKnownRow.veiledFits Tryz.pinned.checked.prog Tryz.f4.params.toList ((Tryz.f4.params.toList++Rows.walkKnownSpec.plain.varTypes Tryz.pinned.checked.prog)++Tryz.f4.resultTypes.toList))=true:=by kernel_rfl
theorem yM:joinedFacts Tryz.pinned.checked.prog 4 Tryz.f4 Rows.walkKnownSpec Rows.walkKnownRow=true:=by
 unfold joinedFacts;exact(cN (cN (cN (cN (cN (cN (cN (cN (cN (cN (cN (cN (cN (cN (cN (cN (cN (cN (cN (cN (cN (cN (cN (cN (cN (cN (cN (cN (cN (cN (cN cl0 cl1) cl2) cl3) cl4) cl5) cl6) cl7) cl8) cl9) OH) OI) OJ) OK) OL) OM) ON) OO) OP) OQ) OR) OS) OT) OU) OV) OW) OX) OY) OZ) O0) O1) O2)
theorem AW:Tryz.f4.isWrapper Tryz.pinned.checked.prog Rows.walkKnownRow.wrapper Rows.walkKnownRow.mainSum:=by unfold Func.isWrapper;first|(rw[if_pos (by decide +kernel)];kernel_rfl)|(rw[if_neg (by decide +kernel)];exact⟨rfl,rfl⟩)
theorem Ap:Tryz.pinned.checked.prog.funcNamed Rows.walkKnownRow.func=some 4:=by kernel_rfl
theorem walkKnown_proved:Rows.WalkKnownSaid:=
 OpenClaim.holds_of_wide 4 Tryz.f4 rfl rfl rfl rfl rfl rfl rfl ⟨rfl,rfl,rfl,rfl,rfl⟩ rfl rfl rfl rfl rfl Ap Tryz.func4 yM (of_decide_eq_true (by kernel_rfl)) AW
  (fun os started H enc _=>yL os started H enc)
end
end Go.Proofs.YthihofpfonfjfaaGreat
