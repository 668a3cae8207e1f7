/- A part of the proof. Conditions: those told. -/
import Derived.Test.YthihofpfonfjfaaGreatDoorB1
import Derived.Test.YthihofpfonfjfaaGreatDoorB32
import Derived.Test.YthihofpfonfjfaaGreatDoorB33
import Derived.Test.YthihofpfonfjfaaGreatDoorB34
import Derived.Test.YthihofpfonfjfaaGreatDoorCards
import Derived.Test.YthihofpfonfjfaaGreatDoorTie
import Derived.SevenTiedAt
namespace Go.Proofs.YthihofpfonfjfaaGreatDoor
set_option maxHeartbeats 64000000
set_option maxRecDepth 100000
set_option linter.unusedVariables false
section
open Go.ChangeShapes Go.WideShapes Go.ChangeAt Go.RowKit
theorem Dt(os:Os){H:Type}(enc:TypeId×Value->H) :
 (OpenSpec.ofChange Rows.metaBackSpec).preRow enc Tryz.prog Tryz.f3 Rows.metaBackRow.domain false Rows.metaBackRow.laid ((pS os).forCall (fun _ _=>0) ⟨#[],#[.slice none 0 0,.int .i64 0,.int .i64 0],[]⟩).memory #[.slice none 0 0,.int .i64 0,.int .i64 0]:=by
 have hw:(DataW.whole enc Tryz.prog ((pS os).forCall (fun _ _=>0) ⟨#[],#[.slice none 0 0,.int .i64 0,.int .i64 0],[]⟩).memory Tryz.f3.params.toList Rows.metaBackSpec.vars false (#[.slice none 0 0,.int .i64 0,.int .i64 0]:Array Value).toList 16).map (fun x=>(x.1,x.2.1)) =
  some ([.nil,.lit (.int .i64 0),.lit (.int .i64 0)],[]):=by kernel_rfl
 obtain⟨⟨x1,x2,x3⟩,hx,hx1⟩:=Option.map_eq_some_iff.1 hw;simp only[Prod.mk.injEq] at hx1;obtain⟨rfl,rfl⟩:=hx1;exact OpenSpec.preRow_of_cond 16 hx (by kernel_rfl) (fun k hk=>by cases hk) (by kernel_rfl) (KO os _)
theorem zI(os:Os)(started:os.Started)(H:Type)(enc:TypeId×Value->H)(F:Stop.Interp) :
 ReturnsInHanded {} Tryz.checked os 3 .any ((OpenSpec.ofChange Rows.metaBackSpec).preRow enc Tryz.prog Tryz.f3 Rows.metaBackRow.domain false Rows.metaBackRow.laid) (((OpenSpec.ofChange Rows.metaBackSpec).at F).post enc Tryz.prog Tryz.f3 false true false false):=by
 refine returnsInHanded_of_row (C:=Tryz.checked) (s:=OpenSpec.ofChange Rows.metaBackSpec) own started (by kernel_rfl) Tryz.func3
  (witness_row_atRef (enc:=enc) (C:=Tryz.checked) false (pS os) #[.slice none 0 0,.int .i64 0,.int .i64 0] rfl (by kernel_rfl) (by kernel_rfl) (by kernel_rfl) (Dt os enc)) ?_
 intro W base args ds gs before hval0 hW hcnd _ _ hL _ _;have hval:∀(j:Nat) t v,Tryz.f3.params[j]?=some t->args[j]?=some v->Value.okWide Tryz.prog W .any base t v:=hval0;have hW':=hW;obtain⟨p,q,hA0,hV,rfl,hfz,hnd⟩:=hW;have hA:DataW.TrodAll enc Tryz.prog W 0 (fun _=>true) true Tryz.f3.params.toList args.toList ds p:=hA0;rw[Tryz.params3] at hA hval;obtain⟨v0,vs0,d0,ds0,p0,q0,hargs0,rfl,rfl,h0,r0⟩:=trodAll_cons hA;obtain⟨v1,vs1,d1,ds1,p1,q1,hargs1,rfl,rfl,h1,r1⟩:=trodAll_cons r0;obtain⟨v2,vs2,d2,ds2,p2,q2,hargs2,rfl,rfl,h2,r2⟩:=trodAll_cons r1;obtain⟨hv2,rfl,rfl⟩:=trodAll_nil r2;obtain rfl:args=#[v0,v1,v2]:=by apply Array.toList_inj.1;rw[hargs0];simp only[hargs1,hargs2,hv2]
 clear hargs0 hargs1 hargs2 hv2;obtain⟨rfl,rfl⟩:=trodVars_none hV;obtain⟨a0,len0,cap0,rfl⟩:=okWide_slice Tryz.underlying22 (hval 0 22 v0 rfl rfl);obtain⟨n1,rfl⟩:=okWide_int Tryz.underlying3 (hval 1 3 v1 rfl rfl);obtain⟨n2,rfl⟩:=okWide_int Tryz.underlying3 (hval 2 3 v2 rfl rfl);have k0:=h0;have lt0:∀x∈p0,x.block<W.heap.size:=by obtain⟨m,hm⟩:=k0;exact DataW.trod_lt m _ _ _ hm
 have k1:=h1;have lt1:∀x∈p1,x.block<W.heap.size:=by obtain⟨m,hm⟩:=k1;exact DataW.trod_lt m _ _ _ hm
 have k2:=h2;have lt2:∀x∈p2,x.block<W.heap.size:=by obtain⟨m,hm⟩:=k2;exact DataW.trod_lt m _ _ _ hm
 clear hA0 hval0 hval
 obtain⟨b0,hbl0,hrd0⟩:∃b:List UInt8,b.length=len0/\Rd W 1 (.slice a0 len0 cap0) len0 (b.map vb):=by
  obtain⟨fuel,hf⟩:=h0;exact BJ (by simpa [Value.cells] using hf)
 subst hbl0
 have hn1:-9223372036854775808≤n1/\n1≤9223372036854775807:=by
  obtain⟨fuel,hf⟩:=h1;obtain⟨a,e0,-,wa⟩:=DataW.trod_int Tryz.underlying3 hf;simp[Value.cells] at e0;subst e0;exact bounds_i64 wa
 have hn2:-9223372036854775808≤n2/\n2≤9223372036854775807:=by
  obtain⟨fuel,hf⟩:=h2;obtain⟨a,e0,-,wa⟩:=DataW.trod_int Tryz.underlying3 hf;simp[Value.cells] at e0;subst e0;exact bounds_i64 wa
 refine(BI W _ b0 hrd0 n1 hn1.1 hn1.2 n2 hn2.1 hn2.2).mono fun e W' ⟨he,hk⟩=>?_
 subst he;have bel:=hk.below;exact⟨_,rfl,_,_,_,[],_,[],hW',trodAll_mk1 (shut_bool Tryz.underlying4 _),(trodAll_cons_mk (Below.trod Ax (by kernel_rfl) (of_decide_eq_true (by kernel_rfl)) k0 bel lt0) (trodAll_cons_mk (Below.trod Ax (by kernel_rfl) (of_decide_eq_true (by kernel_rfl)) k1 bel lt1) (trodAll_cons_mk (Below.trod Ax (by kernel_rfl) (of_decide_eq_true (by kernel_rfl)) k2 bel lt2) trodAll_mk0))),rfl,bel.frame _,fun h=>by cases h⟩
theorem cI{a b:Bool}(h:a=true)(k:b=true):(a && b)=true:=by rw[h,k];rfl
theorem cl0:(Rows.metaBackRow.wf (OpenSpec.ofChange Rows.metaBackSpec))=true:=by kernel_rfl
theorem cl1:(laidOutB Tryz.pinned.checked.prog)=true:=by kernel_rfl
theorem cl2:(mapsRowed Tryz.pinned.checked.prog)=true:=by kernel_rfl
theorem cl3:(Tryz.f3.params.all (Tryz.pinned.checked.prog.readableRec ·))=true:=by kernel_rfl
theorem cl4:(namedTie Tryz.pinned.checked.prog Rows.metaBackRow.named Rows.metaBackSpec.vars)=true:=by kernel_rfl
theorem cl5:(Rows.metaBackRow.stops == [])=true:=by kernel_rfl
theorem cl6:(Tryz.pinned.checked.prog.stops == [])=true:=by kernel_rfl
theorem cl7:(Rows.metaBackRow.knobs == [])=true:=by kernel_rfl
theorem cl8:(Tryz.pinned.checked.prog.stopKnobs == [])=true:=by kernel_rfl
theorem cl9:(Rows.metaBackRow.inPlace == Tryz.pinned.checked.prog.inPlace 3)=true:=by kernel_rfl
theorem Ns:(Rows.metaBackRow.unfollowed == Tryz.pinned.checked.prog.unfollowed 3)=true:=by kernel_rfl
theorem Nt:(Rows.metaBackRow.recurses == Tryz.pinned.checked.prog.recurses 3)=true:=by kernel_rfl
theorem Nu:(Rows.metaBackRow.named == Tryz.pinned.checked.prog.varsNamed 3)=true:=by kernel_rfl
theorem Nv:(Rows.metaBackRow.maps == (Tryz.f3.params.toList++Rows.metaBackSpec.plain.varTypes Tryz.pinned.checked.prog).any (Tryz.pinned.checked.prog.mapsRec ·))=true:=by kernel_rfl
theorem Nw:(Rows.metaBackRow.ifaces == (Tryz.f3.params.toList++Rows.metaBackSpec.plain.varTypes Tryz.pinned.checked.prog).any (Tryz.pinned.checked.prog.ifacesRec ·))=true:=by kernel_rfl
theorem Nx:(Rows.metaBackRow.mapsOut == Tryz.pinned.checked.prog.mapsAmong Tryz.f3.resultTypes.toList)=true:=by kernel_rfl
theorem Ny:(Rows.metaBackRow.loops == (Tryz.f3.params.toList++Rows.metaBackSpec.plain.varTypes Tryz.pinned.checked.prog).any (Tryz.pinned.checked.prog.loopsFrom ·))=true:=by kernel_rfl
theorem Nz:(Rows.metaBackRow.wideKeys == ((Tryz.f3.params.toList++Rows.metaBackSpec.plain.varTypes Tryz.pinned.checked.prog)++Tryz.f3.resultTypes.toList).any (Tryz.pinned.checked.prog.wideKeysFrom ·))=true:=by kernel_rfl
theorem NA:(Rows.metaBackSpec.vars.all (Tryz.pinned.checked.prog.varReadable ·))=true:=by kernel_rfl
theorem NB:(Tryz.f3.resultTypes.all (fun t=>Tryz.pinned.checked.prog.readableRec t && decide (t<Tryz.pinned.checked.prog.types.size)))=true:=by kernel_rfl
theorem NC:(Rows.metaBackRow.ifacesOut == Tryz.f3.resultTypes.toList.any (Tryz.pinned.checked.prog.ifacesRec ·))=true:=by kernel_rfl
theorem ND:(Rows.metaBackRow.loopsOut == Tryz.f3.resultTypes.toList.any (Tryz.pinned.checked.prog.loopsFrom ·))=true:=by kernel_rfl
theorem NE:(Rows.metaBackRow.plainKeys == Tryz.pinned.checked.prog.plainKeys)=true:=by kernel_rfl
theorem NF:(Rows.metaBackRow.shortTexts.isNone)=true:=by kernel_rfl
theorem NG:(Tryz.pinned.checked.prog.stopsHeard)=true:=by kernel_rfl
theorem NH:(Tryz.pinned.checked.prog.mayEnter)=true:=by kernel_rfl
theorem NI:(Rows.metaBackRow.lifted == Tryz.pinned.checked.prog.liftsFinal)=true:=by kernel_rfl
theorem NJ:(Tryz.pinned.checked.prog.make == some Rows.metaBackRow.make)=true:=by kernel_rfl
theorem NK:(Rows.metaBackRow.kinds == (if Rows.metaBackRow.domain.isEmpty then [] else Tryz.f3.params.toList.map fun t=>match Tryz.pinned.checked.prog.underlying t with|some (.int k)=>some k|_=>none))=true:=by kernel_rfl
theorem NL:(Rows.metaBackRow.pinned == Rows.metaBackRow.pinnedBy)=true:=by kernel_rfl
theorem NM:(Rows.metaBackRow.veiled == ((Tryz.f3.params.toList++Rows.metaBackSpec.plain.varTypes Tryz.pinned.checked.prog)++Tryz.f3.resultTypes.toList).any (Tryz.pinned.checked.prog.veiledRec ·))=true:=by kernel_rfl
theorem NN:(Rows.metaBackRow.veiledFits Tryz.pinned.checked.prog Tryz.f3.params.toList ((Tryz.f3.params.toList++Rows.metaBackSpec.plain.varTypes Tryz.pinned.checked.prog)++Tryz.f3.resultTypes.toList))=true:=by kernel_rfl
theorem zJ:joinedFacts Tryz.pinned.checked.prog 3 Tryz.f3 Rows.metaBackSpec Rows.metaBackRow=true:=by
 unfold joinedFacts;exact(cI (cI (cI (cI (cI (cI (cI (cI (cI (cI (cI (cI (cI (cI (cI (cI (cI (cI (cI (cI (cI (cI (cI (cI (cI (cI (cI (cI (cI (cI (cI cl0 cl1) cl2) cl3) cl4) cl5) cl6) cl7) cl8) cl9) Ns) Nt) Nu) Nv) Nw) Nx) Ny) Nz) NA) NB) NC) ND) NE) NF) NG) NH) NI) NJ) NK) NL) NM) NN)
theorem BK:Tryz.f3.isWrapper Tryz.pinned.checked.prog Rows.metaBackRow.wrapper Rows.metaBackRow.mainSum:=by unfold Func.isWrapper;first|(rw[if_pos (by decide +kernel)];kernel_rfl)|(rw[if_neg (by decide +kernel)];exact⟨rfl,rfl⟩)
theorem Ay:Tryz.pinned.checked.prog.funcNamed Rows.metaBackRow.func=some 3:=by kernel_rfl
theorem BL:Rows.MetaBackSaid:=
 OpenClaim.holds_of_cond 3 Tryz.f3 rfl rfl rfl rfl rfl rfl rfl ⟨rfl,rfl,rfl,rfl,rfl⟩ rfl rfl rfl rfl rfl Ay Tryz.func3 zJ (of_decide_eq_true (by kernel_rfl)) BK
  (fun os started H enc _ F=>by rw[OpenClaim.pre_eq_preRow];exact zI os started H enc F)
theorem Az(f : FuncId)(fn : Func)(hf : Tryz.pinned.checked.prog.funcNamed "caulker/caulkerlaw21.MetaBack" = some f)(hfn : Tryz.pinned.checked.prog.funcs[f]? = some fn) :
 true=Tryz.pinned.checked.prog.looks []/\∀(j:Nat) t,fn.params[j]?=some t->Tryz.pinned.checked.prog.wantsStandIn t=false:=by
 obtain rfl : f = 3 := Option.some.inj ((show Tryz.prog.funcNamed "caulker/caulkerlaw21.MetaBack" = some 3 by kernel_rfl).symm.trans hf) |>.symm;obtain rfl:fn=Tryz.f3:=(Option.some.inj (Tryz.func3.symm.trans hfn)).symm;refine⟨by kernel_rfl,fun j t ht=>?_⟩;rw[Tryz.params3] at ht;have hm:=Array.mem_of_getElem? ht;simp only[List.mem_toArray,List.mem_cons,List.not_mem_nil,or_false] at hm;rcases hm with rfl|rfl|rfl
 ·exact(show Tryz.prog.wantsStandIn 22=false by kernel_rfl)
 ·exact(show Tryz.prog.wantsStandIn 3=false by kernel_rfl)
 ·exact(show Tryz.prog.wantsStandIn 3=false by kernel_rfl)
theorem metaBack_proved:Rows.MetaBackCardSaid:=
 Claim7.holds_tied_plain_at .later [] _ _ _ _ BL (fun _ h=>by cases h) (by kernel_rfl) (fun _ h=>by cases h) metaBack_row_tie rfl ⟨rfl,rfl⟩ (by kernel_rfl) rfl Az (by kernel_rfl)
end
end Go.Proofs.YthihofpfonfjfaaGreatDoor
