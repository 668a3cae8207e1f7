/- A part of the proof. Conditions: those told. -/
import Derived.Test.YtjkbekifgobeaaaGreatDoorQ1
import Derived.Test.YtjkbekifgobeaaaGreatDoorQ29
import Derived.Test.YtjkbekifgobeaaaGreatDoorQ30
import Derived.Test.YtjkbekifgobeaaaGreatDoorCards
import Derived.Test.YtjkbekifgobeaaaGreatDoorTie
import Derived.OpenShut
import Derived.ShutString
import Derived.ChangeOld
import Derived.Below
import Derived.Lib.SmallJoins
import Derived.SevenTiedAt
namespace Go.Proofs.YtjkbekifgobeaaaGreatDoor
set_option maxHeartbeats 64000000
set_option maxRecDepth 100000
set_option linter.unusedVariables false
section
open Go.ChangeShapes Go.WideShapes Go.ChangeAt Go.RowKit
theorem AZ(os:Os){H:Type}(enc:TypeId×Value->H) :
 (OpenSpec.ofChange Rows.metaKnownSpec).preRow enc Tryz.prog Tryz.f4 Rows.metaKnownRow.domain false Rows.metaKnownRow.laid ((oV os).forCall (fun _ _=>0) ⟨#[],#[],[]⟩).memory #[]:=by
 have hw:(DataW.whole enc Tryz.prog ((oV os).forCall (fun _ _=>0) ⟨#[],#[],[]⟩).memory Tryz.f4.params.toList Rows.metaKnownSpec.vars false (#[]:Array Value).toList 16).map (fun x=>(x.1,x.2.1)) =
  some ([],[]):=by kernel_rfl
 obtain⟨⟨x1,x2,x3⟩,hx,hx1⟩:=Option.map_eq_some_iff.1 hw;simp only[Prod.mk.injEq] at hx1;obtain⟨rfl,rfl⟩:=hx1;exact OpenSpec.preRow_of_cond 16 hx (by kernel_rfl) (fun k hk=>by cases hk) (by kernel_rfl) (JH os _)
theorem vT(os:Os)(started:os.Started)(H:Type)(enc:TypeId×Value->H)(F:Stop.Interp) :
 ReturnsInHanded {} Tryz.checked os 4 .any ((OpenSpec.ofChange Rows.metaKnownSpec).preRow enc Tryz.prog Tryz.f4 Rows.metaKnownRow.domain false Rows.metaKnownRow.laid) (((OpenSpec.ofChange Rows.metaKnownSpec).at F).post enc Tryz.prog Tryz.f4 false true false false):=by
 refine returnsInHanded_of_row (C:=Tryz.checked) (s:=OpenSpec.ofChange Rows.metaKnownSpec) own started (by kernel_rfl) Tryz.func4
  (witness_row_atRef (enc:=enc) (C:=Tryz.checked) false (oV os) #[] rfl (by kernel_rfl) (by kernel_rfl) (by kernel_rfl) (AZ os enc)) ?_
 intro W base args ds gs before hval0 hW hcnd _ _ hL _ _;have hval:∀(j:Nat) t v,Tryz.f4.params[j]?=some t->args[j]?=some v->Value.okWide Tryz.prog W .any base t v:=hval0;have hW':=hW;obtain⟨p,q,hA0,hV,rfl,hfz,hnd⟩:=hW;have hA:DataW.TrodAll enc Tryz.prog W 0 (fun _=>true) true Tryz.f4.params.toList args.toList ds p:=hA0;rw[Tryz.params4] at hA hval;obtain⟨hv,rfl,rfl⟩:=trodAll_nil hA;obtain rfl:args=#[]:=by apply Array.toList_inj.1;exact hv
 obtain⟨rfl,rfl⟩:=trodVars_none hV;clear hA0 hval0 hval;refine(zC W ).mono fun e W' ⟨he,hk⟩=>?_
 subst he;have bel:=hk.below;exact⟨_,rfl,_,_,_,[],_,[],hW',trodAll_mk1 (shut_bool Tryz.underlying4 _),trodAll_mk0,rfl,bel.frame _,fun h=>by cases h⟩
theorem bY{a b:Bool}(h:a=true)(k:b=true):(a && b)=true:=by rw[h,k];rfl
theorem cl0:(Rows.metaKnownRow.wf (OpenSpec.ofChange Rows.metaKnownSpec))=true:=by kernel_rfl
theorem cl1:(laidOutB Tryz.pinned.checked.prog)=true:=by kernel_rfl
theorem cl2:(mapsRowed Tryz.pinned.checked.prog)=true:=by kernel_rfl
theorem cl3:(Tryz.f4.params.all (Tryz.pinned.checked.prog.readableRec ·))=true:=by kernel_rfl
theorem cl4:(namedTie Tryz.pinned.checked.prog Rows.metaKnownRow.named Rows.metaKnownSpec.vars)=true:=by kernel_rfl
theorem cl5:(Rows.metaKnownRow.stops == [])=true:=by kernel_rfl
theorem cl6:(Tryz.pinned.checked.prog.stops == [])=true:=by kernel_rfl
theorem cl7:(Rows.metaKnownRow.knobs == [])=true:=by kernel_rfl
theorem cl8:(Tryz.pinned.checked.prog.stopKnobs == [])=true:=by kernel_rfl
theorem cl9:(Rows.metaKnownRow.inPlace == Tryz.pinned.checked.prog.inPlace 4)=true:=by kernel_rfl
theorem Mh:(Rows.metaKnownRow.unfollowed == Tryz.pinned.checked.prog.unfollowed 4)=true:=by kernel_rfl
theorem Mi:(Rows.metaKnownRow.recurses == Tryz.pinned.checked.prog.recurses 4)=true:=by kernel_rfl
theorem Mj:(Rows.metaKnownRow.named == Tryz.pinned.checked.prog.varsNamed 4)=true:=by kernel_rfl
theorem Mk:(Rows.metaKnownRow.maps == (Tryz.f4.params.toList++Rows.metaKnownSpec.plain.varTypes Tryz.pinned.checked.prog).any (Tryz.pinned.checked.prog.mapsRec ·))=true:=by kernel_rfl
theorem Ml:(Rows.metaKnownRow.ifaces == (Tryz.f4.params.toList++Rows.metaKnownSpec.plain.varTypes Tryz.pinned.checked.prog).any (Tryz.pinned.checked.prog.ifacesRec ·))=true:=by kernel_rfl
theorem Mn:(Rows.metaKnownRow.mapsOut == Tryz.pinned.checked.prog.mapsAmong Tryz.f4.resultTypes.toList)=true:=by kernel_rfl
theorem Mo:(Rows.metaKnownRow.loops == (Tryz.f4.params.toList++Rows.metaKnownSpec.plain.varTypes Tryz.pinned.checked.prog).any (Tryz.pinned.checked.prog.loopsFrom ·))=true:=by kernel_rfl
theorem Mp:(Rows.metaKnownRow.wideKeys == ((Tryz.f4.params.toList++Rows.metaKnownSpec.plain.varTypes Tryz.pinned.checked.prog)++Tryz.f4.resultTypes.toList).any (Tryz.pinned.checked.prog.wideKeysFrom ·))=true:=by kernel_rfl
theorem Mq:(Rows.metaKnownSpec.vars.all (Tryz.pinned.checked.prog.varReadable ·))=true:=by kernel_rfl
theorem Mr:(Tryz.f4.resultTypes.all (fun t=>Tryz.pinned.checked.prog.readableRec t && decide (t<Tryz.pinned.checked.prog.types.size)))=true:=by kernel_rfl
theorem Ms:(Rows.metaKnownRow.ifacesOut == Tryz.f4.resultTypes.toList.any (Tryz.pinned.checked.prog.ifacesRec ·))=true:=by kernel_rfl
theorem Mt:(Rows.metaKnownRow.loopsOut == Tryz.f4.resultTypes.toList.any (Tryz.pinned.checked.prog.loopsFrom ·))=true:=by kernel_rfl
theorem Mu:(Rows.metaKnownRow.plainKeys == Tryz.pinned.checked.prog.plainKeys)=true:=by kernel_rfl
theorem Mv:(Rows.metaKnownRow.shortTexts.isNone)=true:=by kernel_rfl
theorem Mw:(Tryz.pinned.checked.prog.stopsHeard)=true:=by kernel_rfl
theorem Mx:(Tryz.pinned.checked.prog.mayEnter)=true:=by kernel_rfl
theorem My:(Rows.metaKnownRow.lifted == Tryz.pinned.checked.prog.liftsFinal)=true:=by kernel_rfl
theorem Mz:(Tryz.pinned.checked.prog.make == some Rows.metaKnownRow.make)=true:=by kernel_rfl
theorem MA:(Rows.metaKnownRow.kinds == (if Rows.metaKnownRow.domain.isEmpty then [] else Tryz.f4.params.toList.map fun t=>match Tryz.pinned.checked.prog.underlying t with|some (.int k)=>some k|_=>none))=true:=by kernel_rfl
theorem MB:(Rows.metaKnownRow.pinned == Rows.metaKnownRow.pinnedBy)=true:=by kernel_rfl
theorem MC:(Rows.metaKnownRow.veiled == ((Tryz.f4.params.toList++Rows.metaKnownSpec.plain.varTypes Tryz.pinned.checked.prog)++Tryz.f4.resultTypes.toList).any (Tryz.pinned.checked.prog.veiledRec ·))=true:=by kernel_rfl
theorem MD:(Rows.metaKnownRow.veiledFits Tryz.pinned.checked.prog Tryz.f4.params.toList ((Tryz.f4.params.toList++Rows.metaKnownSpec.plain.varTypes Tryz.pinned.checked.prog)++Tryz.f4.resultTypes.toList))=true:=by kernel_rfl
theorem vU:joinedFacts Tryz.pinned.checked.prog 4 Tryz.f4 Rows.metaKnownSpec Rows.metaKnownRow=true:=by
 unfold joinedFacts;exact(bY (bY (bY (bY (bY (bY (bY (bY (bY (bY (bY (bY (bY (bY (bY (bY (bY (bY (bY (bY (bY (bY (bY (bY (bY (bY (bY (bY (bY (bY (bY cl0 cl1) cl2) cl3) cl4) cl5) cl6) cl7) cl8) cl9) Mh) Mi) Mj) Mk) Ml) Mn) Mo) Mp) Mq) Mr) Ms) Mt) Mu) Mv) Mw) Mx) My) Mz) MA) MB) MC) MD)
theorem zD:Tryz.f4.isWrapper Tryz.pinned.checked.prog Rows.metaKnownRow.wrapper Rows.metaKnownRow.mainSum:=by unfold Func.isWrapper;first|(rw[if_pos (by decide +kernel)];kernel_rfl)|(rw[if_neg (by decide +kernel)];exact⟨rfl,rfl⟩)
theorem xU:Tryz.pinned.checked.prog.funcNamed Rows.metaKnownRow.func=some 4:=by kernel_rfl
theorem zE:Rows.MetaKnownSaid:=
 OpenClaim.holds_of_cond 4 Tryz.f4 rfl rfl rfl rfl rfl rfl rfl ⟨rfl,rfl,rfl,rfl,rfl⟩ rfl rfl rfl rfl rfl xU Tryz.func4 vU (of_decide_eq_true (by kernel_rfl)) zD
  (fun os started H enc _ F=>by rw[OpenClaim.pre_eq_preRow];exact vT os started H enc F)
theorem xV(f : FuncId)(fn : Func)(hf : Tryz.pinned.checked.prog.funcNamed "caulker/caulkerlaw21.MetaKnown" = some f)(hfn : Tryz.pinned.checked.prog.funcs[f]? = some fn) :
 true=Tryz.pinned.checked.prog.looks []/\∀(j:Nat) t,fn.params[j]?=some t->Tryz.pinned.checked.prog.wantsStandIn t=false:=by
 obtain rfl : f = 4 := Option.some.inj ((show Tryz.prog.funcNamed "caulker/caulkerlaw21.MetaKnown" = some 4 by kernel_rfl).symm.trans hf) |>.symm;obtain rfl:fn=Tryz.f4:=(Option.some.inj (Tryz.func4.symm.trans hfn)).symm;refine⟨by kernel_rfl,fun j t ht=>?_⟩;rw[Tryz.params4] at ht;simp at ht
theorem metaKnown_proved:Rows.MetaKnownCardSaid:=
 Claim7.holds_tied_plain_at .later [] _ _ _ _ zE (fun _ h=>by cases h) (by kernel_rfl) (fun _ h=>by cases h) metaKnown_row_tie rfl ⟨rfl,rfl⟩ (by kernel_rfl) rfl xV (by kernel_rfl)
end
end Go.Proofs.YtjkbekifgobeaaaGreatDoor
