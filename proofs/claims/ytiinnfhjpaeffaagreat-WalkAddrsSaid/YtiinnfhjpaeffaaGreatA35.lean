import Derived.Test.YtiinnfhjpaeffaaGreatA1
import Derived.Test.YtiinnfhjpaeffaaGreatA33
import Derived.Test.YtiinnfhjpaeffaaGreatA34
namespace Go.Proofs.YtiinnfhjpaeffaaGreat
set_option maxHeartbeats 64000000
set_option maxRecDepth 100000
set_option linter.unusedVariables false
section
open Go.ChangeShapes Go.WideShapes Go.ChangeAt Go.RowKit
section
variable {H:Type}{enc:TypeId×Value->H}{w:World}{base:Nat}{spare:Nat->Bool}{held:Bool}{fuel:Nat}
theorem EX{a:Option Addr}{len cap:Nat}{x:DataW H×List MemPlace}(h:DataW.trod enc Tryz.prog w base spare held fuel 22 [.slice a len cap]=some x) :
 ∃c:List (Value×Pt),c.length=len/\jW w (.slice a len cap) c:=by
 obtain⟨l,b,d,e⟩:=vO (f:=fun(x:Value×Pt)=>aE x.1 x.2) (ok:=fun x=>PtV w x.1 x.2) Tryz.underlying22 FE (by decide) (fun y j=>aJ j.sum) (fun n k x i=>by
  obtain⟨v,p,rfl,g⟩:=Hq i;exact⟨(v,p),g,rfl⟩) h
 exact⟨l,b,by rw[b];exact e,d⟩
end
theorem yJ(os:Os)(d:os.Started)(H:Type)(enc:TypeId×Value->H) :
 ReturnsInHanded {} Tryz.checked os 3 .any (Rows.walkAddrsSpec.pre6 enc Tryz.prog Tryz.f3 Rows.walkAddrsRow.domain false) (Rows.walkAddrsSpec.post enc Tryz.prog Tryz.f3 false true false false):=by
 refine returnsInHanded_of_change (C:=Tryz.checked) own d (by kernel_rfl) Tryz.func3
  (ChangeSpec.witness6 (enc:=enc) (C:=Tryz.checked) false ⟨#[],#[.slice none 0 0],[]⟩ 64 (by kernel_rfl) (by kernel_rfl) (by kernel_rfl) (by kernel_rfl)) ?_
 intro W base args G Y s c A B _;have b:∀(j:Nat) t v,Tryz.f3.params[j]?=some t->args[j]?=some v->Value.okWide Tryz.prog W .any base t v:=c;have u:=A;obtain⟨p,q,k,J,rfl,M,Q⟩:=A;have z:DataW.TrodAll enc Tryz.prog W 0 (fun _=>true) true Tryz.f3.params.toList args.toList G p:=k;rw[Tryz.params3] at z b;obtain⟨E,U,X,I,S,Z,a,rfl,rfl,h0,T⟩:=trodAll_cons z;obtain⟨r,rfl,rfl⟩:=trodAll_nil T;obtain rfl:args=#[E]:=by apply Array.toList_inj.1;rw[a];simp only[r]
 clear a  r;obtain⟨rfl,rfl⟩:=trodVars_none J;obtain⟨F,f,i,rfl⟩:=okWide_slice Tryz.underlying22 (b 0 22 E rfl rfl);have D:=h0;have y:∀x∈S,x.block<W.heap.size:=by obtain⟨m,P⟩:=D;exact DataW.trod_lt m _ _ _ P
 clear k c b
 obtain⟨R,n,o⟩:∃l:List (Value×Pt),l.length=f/\jW W (.slice F f i) l:=by
  obtain⟨fuel,L⟩:=h0;exact EX (by simpa [Value.cells] using L)
 subst n;refine(AU W _ R o).mono fun e V ⟨K,N⟩=>?_
 subst K;have g:=N.below;exact⟨_,rfl,_,_,_,[],_,[],u,trodAll_mk1 (shut_bool Tryz.underlying4 _),(trodAll_cons_mk (Below.trod Nn (by kernel_rfl) (of_decide_eq_true (by kernel_rfl)) D g y) trodAll_mk0),rfl,g.frame _,fun h=>by cases h⟩
theorem cO{a b:Bool}(h:a=true)(k:b=true):(a && b)=true:=by rw[h,k];rfl
theorem cl0:(Rows.walkAddrsRow.wf (OpenSpec.ofChange Rows.walkAddrsSpec))=true:=by kernel_rfl
theorem cl1:(laidOutB Tryz.pinned.checked.prog)=true:=by kernel_rfl
theorem cl2:(mapsRowed Tryz.pinned.checked.prog)=true:=by kernel_rfl
theorem cl3:(Tryz.f3.params.all (Tryz.pinned.checked.prog.readableRec ·))=true:=by kernel_rfl
theorem cl4:(namedTie Tryz.pinned.checked.prog Rows.walkAddrsRow.named Rows.walkAddrsSpec.vars)=true:=by kernel_rfl
theorem cl5:(Rows.walkAddrsRow.stops == [])=true:=by kernel_rfl
theorem cl6:(Tryz.pinned.checked.prog.stops == [])=true:=by kernel_rfl
theorem cl7:(Rows.walkAddrsRow.knobs == [])=true:=by kernel_rfl
theorem cl8:(Tryz.pinned.checked.prog.stopKnobs == [])=true:=by kernel_rfl
theorem cl9:(Rows.walkAddrsRow.inPlace == Tryz.pinned.checked.prog.inPlace 3)=true:=by kernel_rfl
theorem OK:(Rows.walkAddrsRow.unfollowed == Tryz.pinned.checked.prog.unfollowed 3)=true:=by kernel_rfl
theorem OL:(Rows.walkAddrsRow.recurses == Tryz.pinned.checked.prog.recurses 3)=true:=by kernel_rfl
theorem OM:(Rows.walkAddrsRow.named == Tryz.pinned.checked.prog.varsNamed 3)=true:=by kernel_rfl
theorem ON:(Rows.walkAddrsRow.maps == (Tryz.f3.params.toList++Rows.walkAddrsSpec.plain.varTypes Tryz.pinned.checked.prog).any (Tryz.pinned.checked.prog.mapsRec ·))=true:=by kernel_rfl
theorem OO:(Rows.walkAddrsRow.ifaces == (Tryz.f3.params.toList++Rows.walkAddrsSpec.plain.varTypes Tryz.pinned.checked.prog).any (Tryz.pinned.checked.prog.ifacesRec ·))=true:=by kernel_rfl
theorem OP:(Rows.walkAddrsRow.mapsOut == Tryz.pinned.checked.prog.mapsAmong Tryz.f3.resultTypes.toList)=true:=by kernel_rfl
theorem OQ:(Rows.walkAddrsRow.loops == (Tryz.f3.params.toList++Rows.walkAddrsSpec.plain.varTypes Tryz.pinned.checked.prog).any (Tryz.pinned.checked.prog.loopsFrom ·))=true:=by kernel_rfl
theorem OR:(Rows.walkAddrsRow.wideKeys == ((Tryz.f3.params.toList++Rows.walkAddrsSpec.plain.varTypes Tryz.pinned.checked.prog)++Tryz.f3.resultTypes.toList).any (Tryz.pinned.checked.prog.wideKeysFrom ·))=true:=by kernel_rfl
theorem OS:(Rows.walkAddrsSpec.vars.all (Tryz.pinned.checked.prog.varReadable ·))=true:=by kernel_rfl
theorem OT:(Tryz.f3.resultTypes.all (fun t=>Tryz.pinned.checked.prog.readableRec t && decide (t<Tryz.pinned.checked.prog.types.size)))=true:=by kernel_rfl
theorem OU:(Rows.walkAddrsRow.ifacesOut == Tryz.f3.resultTypes.toList.any (Tryz.pinned.checked.prog.ifacesRec ·))=true:=by kernel_rfl
theorem OV:(Rows.walkAddrsRow.loopsOut == Tryz.f3.resultTypes.toList.any (Tryz.pinned.checked.prog.loopsFrom ·))=true:=by kernel_rfl
theorem OW:(Rows.walkAddrsRow.plainKeys == Tryz.pinned.checked.prog.plainKeys)=true:=by kernel_rfl
theorem OX:(Rows.walkAddrsRow.shortTexts.isNone)=true:=by kernel_rfl
theorem OY:(Tryz.pinned.checked.prog.stopsHeard)=true:=by kernel_rfl
theorem OZ:(Tryz.pinned.checked.prog.mayEnter)=true:=by kernel_rfl
theorem O0:(Rows.walkAddrsRow.lifted == Tryz.pinned.checked.prog.liftsFinal)=true:=by kernel_rfl
theorem O1:(Tryz.pinned.checked.prog.make == some Rows.walkAddrsRow.make)=true:=by kernel_rfl
theorem O2:(Rows.walkAddrsRow.kinds == (if Rows.walkAddrsRow.domain.isEmpty then [] else Tryz.f3.params.toList.map fun t=>match Tryz.pinned.checked.prog.underlying t with|some (.int k)=>some k|_=>none))=true:=by kernel_rfl
theorem O3:(Rows.walkAddrsRow.pinned == Rows.walkAddrsRow.pinnedBy)=true:=by kernel_rfl
theorem O4:(Rows.walkAddrsRow.veiled == ((Tryz.f3.params.toList++Rows.walkAddrsSpec.plain.varTypes Tryz.pinned.checked.prog)++Tryz.f3.resultTypes.toList).any (Tryz.pinned.checked.prog.veiledRec ·))=true:=by kernel_rfl
theorem O5:(Rows.walkAddrsRow.veiledFits Tryz.pinned.checked.prog Tryz.f3.params.toList ((Tryz.f3.params.toList++Rows.walkAddrsSpec.plain.varTypes Tryz.pinned.checked.prog)++Tryz.f3.resultTypes.toList))=true:=by kernel_rfl
theorem yK:joinedFacts Tryz.pinned.checked.prog 3 Tryz.f3 Rows.walkAddrsSpec Rows.walkAddrsRow=true:=by
 unfold joinedFacts;exact(cO (cO (cO (cO (cO (cO (cO (cO (cO (cO (cO (cO (cO (cO (cO (cO (cO (cO (cO (cO (cO (cO (cO (cO (cO (cO (cO (cO (cO (cO (cO cl0 cl1) cl2) cl3) cl4) cl5) cl6) cl7) cl8) cl9) OK) OL) OM) ON) OO) OP) OQ) OR) OS) OT) OU) OV) OW) OX) OY) OZ) O0) O1) O2) O3) O4) O5)
theorem AW:Tryz.f3.isWrapper Tryz.pinned.checked.prog Rows.walkAddrsRow.wrapper Rows.walkAddrsRow.mainSum:=by unfold Func.isWrapper;first|(rw[if_pos (by decide +kernel)];kernel_rfl)|(rw[if_neg (by decide +kernel)];exact⟨rfl,rfl⟩)
theorem Am:Tryz.pinned.checked.prog.funcNamed Rows.walkAddrsRow.func=some 3:=by kernel_rfl
theorem walkAddrs_proved:Rows.WalkAddrsSaid:=
 OpenClaim.holds_of_wide 3 Tryz.f3 rfl rfl rfl rfl rfl rfl rfl ⟨rfl,rfl,rfl,rfl,rfl⟩ rfl rfl rfl rfl rfl Am Tryz.func3 yK (of_decide_eq_true (by kernel_rfl)) AW
  (fun os a H enc _=>yJ os a H enc)
end
end Go.Proofs.YtiinnfhjpaeffaaGreat
