import Derived.Test.YtoeinblfcbpcmaaGreatDoorC6
import Derived.Test.YtoeinblfcbpcmaaGreatDoorC43
import Derived.Test.YtoeinblfcbpcmaaGreatDoorC44
import Derived.Test.YtoeinblfcbpcmaaGreatDoorCards
import Derived.Test.YtoeinblfcbpcmaaGreatDoorTie
import Derived.SevenTiedAt
namespace Go.Proofs.YtoeinblfcbpcmaaGreatDoor
open Go.Proofs.Tryz Go.Proofs.YtoeinblfcbpcmaaGreatDoor.Tryz
set_option maxHeartbeats 0
set_option maxRecDepth 100000
set_option linter.unusedVariables false
section
open Go.ChangeShapes Go.WideShapes Go.ChangeAt Go.RowKit
theorem own:ownKnob prog.godebug=none:=by kernel_rfl
theorem FX(os:Os){H:Type}(a:TypeId×Value->H) :
 (OpenSpec.ofChange Rows.coreRoomSpec).preRow a prog f3 Rows.coreRoomRow.domain false Rows.coreRoomRow.laid ((sR os).forCall (fun _ _=>0) ⟨#[],#[.int .i64 0,.int .i64 0,.slice none 0 0],[]⟩).memory #[.int .i64 0,.int .i64 0,.slice none 0 0]:=by
 have d:(DataW.whole a prog ((sR os).forCall (fun _ _=>0) ⟨#[],#[.int .i64 0,.int .i64 0,.slice none 0 0],[]⟩).memory f3.params.toList Rows.coreRoomSpec.vars false (#[.int .i64 0,.int .i64 0,.slice none 0 0]:Array Value).toList 16).map (fun x=>(x.1,x.2.1)) =
  some ([.lit (.int .i64 0),.lit (.int .i64 0),.nil],[]):=by kernel_rfl
 obtain⟨⟨f,g,h⟩,e,b⟩:=Option.map_eq_some_iff.1 d;simp only[Prod.mk.injEq] at b;obtain⟨rfl,rfl⟩:=b;exact OpenSpec.preRow_of_cond 16 e (by kernel_rfl) (fun k c=>by cases c) (by kernel_rfl) (Ov os _)
theorem B9(os:Os)(n:os.Started)(H:Type)(i:TypeId×Value->H)(F:Stop.Interp) :
 ReturnsInHanded {} Tryz.checked os 3 .any ((OpenSpec.ofChange Rows.coreRoomSpec).preRow i prog f3 Rows.coreRoomRow.domain false Rows.coreRoomRow.laid) (((OpenSpec.ofChange Rows.coreRoomSpec).at F).post i prog f3 false true false false):=by
 refine returnsInHanded_of_row (C:=Tryz.checked) (s:=OpenSpec.ofChange Rows.coreRoomSpec) own n (by kernel_rfl) func3
  (witness_row_atRef (enc:=i) (C:=Tryz.checked) false (sR os) #[.int .i64 0,.int .i64 0,.slice none 0 0] rfl (by kernel_rfl) (by kernel_rfl) (by kernel_rfl) (FX os i)) ?_
 intro W base args ds gs G k V X _ _ hL _ _;obtain⟨aF,aR,y⟩:=FW (W:=W) hL;have c:∀(j:Nat) t v,f3.params[j]?=some t->args[j]?=some v->Value.okWide prog W .any base t v:=k;have I:=V;obtain⟨p,q,w,hV,rfl,qe,qf⟩:=V;have U:DataW.TrodAll i prog W 0 (fun _=>true) true f3.params.toList args.toList ds p:=w;rw[params3] at U c;obtain⟨v0,qg,d0,qa,p0,q0,d,rfl,rfl,h0,r0⟩:=trodAll_cons U;obtain⟨v1,qh,d1,qc,p1,q1,f,rfl,rfl,S,r1⟩:=trodAll_cons r0;obtain⟨v2,qi,d2,qd,p2,q2,g,rfl,rfl,T,r2⟩:=trodAll_cons r1;obtain⟨E,rfl,rfl⟩:=trodAll_nil r2;obtain rfl:args=#[v0,v1,v2]:=by apply Array.toList_inj.1;rw[d];simp only[f,g,E]
 clear d f g E;obtain⟨rfl,rfl⟩:=trodVars_none hV;obtain⟨P,rfl⟩:=okWide_int underlying3 (c 0 3 v0 rfl rfl);obtain⟨Q,rfl⟩:=okWide_int underlying3 (c 1 3 v1 rfl rfl);obtain⟨a2,l,r,rfl⟩:=okWide_slice underlying22 (c 2 22 v2 rfl rfl);have Y:=h0;have L:∀x∈p0,x.block<W.heap.size:=by obtain⟨m,B⟩:=Y;exact DataW.trod_lt m _ _ _ B
 have Z:=S;have M:∀x∈p1,x.block<W.heap.size:=by obtain⟨m,B⟩:=Z;exact DataW.trod_lt m _ _ _ B
 have k2:=T;have N:∀x∈p2,x.block<W.heap.size:=by obtain⟨m,B⟩:=k2;exact DataW.trod_lt m _ _ _ B
 clear w k c
 have J:-9223372036854775808≤P/\P≤9223372036854775807:=by
  obtain⟨fuel,A⟩:=h0;obtain⟨a,u,-,R⟩:=DataW.trod_int underlying3 A;simp[Value.cells] at u;subst u;exact bounds_i64 R
 have K:-9223372036854775808≤Q/\Q≤9223372036854775807:=by
  obtain⟨fuel,A⟩:=S;obtain⟨a,u,-,R⟩:=DataW.trod_int underlying3 A;simp[Value.cells] at u;subst u;exact bounds_i64 R
 obtain⟨b2,z,D⟩:∃b:List UInt8,b.length=l/\Rd W 1 (.slice a2 l r) l (b.map vb):=by
  obtain⟨fuel,A⟩:=T;exact DI (by simpa [Value.cells] using A)
 subst z;refine(D4 W aF aR y P J Q K _ b2 D).mono fun e W' ⟨he,hk⟩=>?_
 subst he;have o:=hk.below;exact⟨_,rfl,_,_,_,[],_,[],I,trodAll_mk1 (shut_bool underlying4 _),(trodAll_cons_mk (Below.trod Cc (by kernel_rfl) (of_decide_eq_true (by kernel_rfl)) Y o L) (trodAll_cons_mk (Below.trod Cc (by kernel_rfl) (of_decide_eq_true (by kernel_rfl)) Z o M) (trodAll_cons_mk (Below.trod Cc (by kernel_rfl) (of_decide_eq_true (by kernel_rfl)) k2 o N) trodAll_mk0))),rfl,o.frame _,fun h=>by cases h⟩
theorem cV{a b:Bool}(h:a=true)(k:b=true):(a && b)=true:=by rw[h,k];rfl
theorem cl0:(Rows.coreRoomRow.wf (OpenSpec.ofChange Rows.coreRoomSpec))=true:=by kernel_rfl
theorem cl1:(laidOutB Tryz.pinned.checked.prog)=true:=by kernel_rfl
theorem cl2:(mapsRowed Tryz.pinned.checked.prog)=true:=by kernel_rfl
theorem cl3:(f3.params.all (Tryz.pinned.checked.prog.readableRec ·))=true:=by kernel_rfl
theorem cl4:(namedTie Tryz.pinned.checked.prog Rows.coreRoomRow.named Rows.coreRoomSpec.vars)=true:=by kernel_rfl
theorem cl5:(Rows.coreRoomRow.stops == [])=true:=by kernel_rfl
theorem cl6:(Tryz.pinned.checked.prog.stops == [])=true:=by kernel_rfl
theorem cl7:(Rows.coreRoomRow.knobs == [])=true:=by kernel_rfl
theorem cl8:(Tryz.pinned.checked.prog.stopKnobs == [])=true:=by kernel_rfl
theorem cl9:(Rows.coreRoomRow.inPlace == Tryz.pinned.checked.prog.inPlace 3)=true:=by kernel_rfl
theorem Rf:(Rows.coreRoomRow.unfollowed == Tryz.pinned.checked.prog.unfollowed 3)=true:=by kernel_rfl
theorem Rg:(Rows.coreRoomRow.recurses == Tryz.pinned.checked.prog.recurses 3)=true:=by kernel_rfl
theorem Rh:(Rows.coreRoomRow.named == Tryz.pinned.checked.prog.varsNamed 3)=true:=by kernel_rfl
theorem Ri:(Rows.coreRoomRow.maps == (f3.params.toList++Rows.coreRoomSpec.plain.varTypes Tryz.pinned.checked.prog).any (Tryz.pinned.checked.prog.mapsRec ·))=true:=by kernel_rfl
theorem Rj:(Rows.coreRoomRow.ifaces == (f3.params.toList++Rows.coreRoomSpec.plain.varTypes Tryz.pinned.checked.prog).any (Tryz.pinned.checked.prog.ifacesRec ·))=true:=by kernel_rfl
theorem Rk:(Rows.coreRoomRow.mapsOut == Tryz.pinned.checked.prog.mapsAmong f3.resultTypes.toList)=true:=by kernel_rfl
theorem Rl:(Rows.coreRoomRow.loops == (f3.params.toList++Rows.coreRoomSpec.plain.varTypes Tryz.pinned.checked.prog).any (Tryz.pinned.checked.prog.loopsFrom ·))=true:=by kernel_rfl
theorem Ro:(Rows.coreRoomRow.wideKeys == ((f3.params.toList++Rows.coreRoomSpec.plain.varTypes Tryz.pinned.checked.prog)++f3.resultTypes.toList).any (Tryz.pinned.checked.prog.wideKeysFrom ·))=true:=by kernel_rfl
theorem Rp:(Rows.coreRoomSpec.vars.all (Tryz.pinned.checked.prog.varReadable ·))=true:=by kernel_rfl
theorem Rq:(f3.resultTypes.all (fun t=>Tryz.pinned.checked.prog.readableRec t && decide (t<Tryz.pinned.checked.prog.types.size)))=true:=by kernel_rfl
theorem Rr:(Rows.coreRoomRow.ifacesOut == f3.resultTypes.toList.any (Tryz.pinned.checked.prog.ifacesRec ·))=true:=by kernel_rfl
theorem Rs:(Rows.coreRoomRow.loopsOut == f3.resultTypes.toList.any (Tryz.pinned.checked.prog.loopsFrom ·))=true:=by kernel_rfl
theorem Rt:(Rows.coreRoomRow.plainKeys == Tryz.pinned.checked.prog.plainKeys)=true:=by kernel_rfl
theorem Ru:(Rows.coreRoomRow.shortTexts.isNone)=true:=by kernel_rfl
theorem Rv:(Tryz.pinned.checked.prog.stopsHeard)=true:=by kernel_rfl
theorem Rw:(Tryz.pinned.checked.prog.mayEnter)=true:=by kernel_rfl
theorem Rx:(Rows.coreRoomRow.lifted == Tryz.pinned.checked.prog.liftsFinal)=true:=by kernel_rfl
theorem Ry:(Tryz.pinned.checked.prog.make == some Rows.coreRoomRow.make)=true:=by kernel_rfl
theorem Rz:(Rows.coreRoomRow.kinds == (if Rows.coreRoomRow.domain.isEmpty then [] else f3.params.toList.map fun t=>match Tryz.pinned.checked.prog.underlying t with|some (.int k)=>some k|_=>none))=true:=by kernel_rfl
theorem RA:(Rows.coreRoomRow.pinned == Rows.coreRoomRow.pinnedBy)=true:=by kernel_rfl
theorem RB:(Rows.coreRoomRow.veiled == ((f3.params.toList++Rows.coreRoomSpec.plain.varTypes Tryz.pinned.checked.prog)++f3.resultTypes.toList).any (Tryz.pinned.checked.prog.veiledRec ·))=true:=by kernel_rfl
theorem RC:(Rows.coreRoomRow.veiledFits Tryz.pinned.checked.prog f3.params.toList ((f3.params.toList++Rows.coreRoomSpec.plain.varTypes Tryz.pinned.checked.prog)++f3.resultTypes.toList))=true:=by kernel_rfl
theorem Ca:joinedFacts Tryz.pinned.checked.prog 3 f3 Rows.coreRoomSpec Rows.coreRoomRow=true:=by
 unfold joinedFacts;exact(cV (cV (cV (cV (cV (cV (cV (cV (cV (cV (cV (cV (cV (cV (cV (cV (cV (cV (cV (cV (cV (cV (cV (cV (cV (cV (cV (cV (cV (cV (cV cl0 cl1) cl2) cl3) cl4) cl5) cl6) cl7) cl8) cl9) Rf) Rg) Rh) Ri) Rj) Rk) Rl) Ro) Rp) Rq) Rr) Rs) Rt) Ru) Rv) Rw) Rx) Ry) Rz) RA) RB) RC)
theorem D5:f3.isWrapper Tryz.pinned.checked.prog Rows.coreRoomRow.wrapper Rows.coreRoomRow.mainSum:=by unfold Func.isWrapper;first|(rw[if_pos (by decide +kernel)];kernel_rfl)|(rw[if_neg (by decide +kernel)];exact⟨rfl,rfl⟩)
theorem CD:Tryz.pinned.checked.prog.funcNamed Rows.coreRoomRow.func=some 3:=by kernel_rfl
theorem D6:Rows.CoreRoomSaid:=
 OpenClaim.holds_of_cond 3 f3 rfl rfl rfl rfl rfl rfl rfl ⟨rfl,rfl,rfl,rfl,rfl⟩ rfl rfl rfl rfl rfl CD func3 Ca (of_decide_eq_true (by kernel_rfl)) D5
  (fun os a H b _ F=>by rw[OpenClaim.pre_eq_preRow];exact B9 os a H b F)
theorem CE(f : FuncId)(a : Func)(e : Tryz.pinned.checked.prog.funcNamed "caulker/caulkerlaw18.CoreRoom" = some f)(b : Tryz.pinned.checked.prog.funcs[f]? = some a) :
 true=Tryz.pinned.checked.prog.looks []/\∀(j:Nat) t,a.params[j]?=some t->Tryz.pinned.checked.prog.wantsStandIn t=false:=by
 obtain rfl : f = 3 := Option.some.inj ((show prog.funcNamed "caulker/caulkerlaw18.CoreRoom" = some 3 by kernel_rfl).symm.trans e) |>.symm;obtain rfl:a=f3:=(Option.some.inj (func3.symm.trans b)).symm;refine⟨by kernel_rfl,fun j t d=>?_⟩;rw[params3] at d;have c:=Array.mem_of_getElem? d;simp only[List.mem_toArray,List.mem_cons,List.not_mem_nil,or_false] at c;rcases c with rfl|rfl|rfl
 ·exact(show prog.wantsStandIn 3=false by kernel_rfl)
 ·exact(show prog.wantsStandIn 3=false by kernel_rfl)
 ·exact(show prog.wantsStandIn 22=false by kernel_rfl)
theorem coreRoom_proved:Rows.CoreRoomCardSaid:=
 Claim7.holds_tied_plain_at .later [] _ _ _ _ D6 (fun _ h=>by cases h) (by kernel_rfl) (fun _ h=>by cases h) coreRoom_row_tie rfl ⟨rfl,rfl⟩ (by kernel_rfl) rfl CE (by kernel_rfl)
end
end Go.Proofs.YtoeinblfcbpcmaaGreatDoor
