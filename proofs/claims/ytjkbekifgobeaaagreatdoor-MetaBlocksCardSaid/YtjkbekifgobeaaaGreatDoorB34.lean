/- A part of the proof. Conditions: those told. -/
import Derived.Test.YtjkbekifgobeaaaGreatDoorB1
import Derived.Test.YtjkbekifgobeaaaGreatDoorB31
import Derived.Test.YtjkbekifgobeaaaGreatDoorB32
import Derived.Test.YtjkbekifgobeaaaGreatDoorB33
import Derived.Test.YtjkbekifgobeaaaGreatDoorCards
import Derived.Test.YtjkbekifgobeaaaGreatDoorTie
import Derived.SevenTiedAt
namespace Go.Proofs.YtjkbekifgobeaaaGreatDoor
set_option maxHeartbeats 64000000
set_option maxRecDepth 100000
set_option linter.unusedVariables false
section
open Go.ChangeShapes Go.WideShapes Go.ChangeAt Go.RowKit
theorem AF(os:Os){H:Type}(enc:TypeId×Value->H) :
 (OpenSpec.ofChange Rows.metaBlocksSpec).preRow enc Tryz.prog Tryz.f6 Rows.metaBlocksRow.domain false Rows.metaBlocksRow.laid ((pU os).forCall (fun _ _=>0) ⟨#[],#[.slice none 0 0,.int .i64 0,.int .u8 0],[]⟩).memory #[.slice none 0 0,.int .i64 0,.int .u8 0]:=by
 have hw:(DataW.whole enc Tryz.prog ((pU os).forCall (fun _ _=>0) ⟨#[],#[.slice none 0 0,.int .i64 0,.int .u8 0],[]⟩).memory Tryz.f6.params.toList Rows.metaBlocksSpec.vars false (#[.slice none 0 0,.int .i64 0,.int .u8 0]:Array Value).toList 16).map (fun x=>(x.1,x.2.1)) =
  some ([.nil,.lit (.int .i64 0),.lit (.int .u8 0)],[]):=by kernel_rfl
 obtain⟨⟨x1,x2,x3⟩,hx,hx1⟩:=Option.map_eq_some_iff.1 hw;simp only[Prod.mk.injEq] at hx1;obtain⟨rfl,rfl⟩:=hx1;exact OpenSpec.preRow_of_cond 16 hx (by kernel_rfl) (fun k hk=>by cases hk) (by kernel_rfl) (Lk os _)
theorem vK(os:Os)(started:os.Started)(H:Type)(enc:TypeId×Value->H)(F:Stop.Interp) :
 ReturnsInHanded {} Tryz.checked os 6 .any ((OpenSpec.ofChange Rows.metaBlocksSpec).preRow enc Tryz.prog Tryz.f6 Rows.metaBlocksRow.domain false Rows.metaBlocksRow.laid) (((OpenSpec.ofChange Rows.metaBlocksSpec).at F).post enc Tryz.prog Tryz.f6 false true false false):=by
 refine returnsInHanded_of_row (C:=Tryz.checked) (s:=OpenSpec.ofChange Rows.metaBlocksSpec) own started (by kernel_rfl) Tryz.func6
  (witness_row_atRef (enc:=enc) (C:=Tryz.checked) false (pU os) #[.slice none 0 0,.int .i64 0,.int .u8 0] rfl (by kernel_rfl) (by kernel_rfl) (by kernel_rfl) (AF os enc)) ?_
 intro W base args ds gs before hval0 hW hcnd _ _ hL _ _;have hval:∀(j:Nat) t v,Tryz.f6.params[j]?=some t->args[j]?=some v->Value.okWide Tryz.prog W .any base t v:=hval0;have hW':=hW;obtain⟨p,q,hA0,hV,rfl,hfz,hnd⟩:=hW;have hA:DataW.TrodAll enc Tryz.prog W 0 (fun _=>true) true Tryz.f6.params.toList args.toList ds p:=hA0;rw[Tryz.params6] at hA hval;obtain⟨v0,vs0,d0,ds0,p0,q0,hargs0,rfl,rfl,h0,r0⟩:=trodAll_cons hA;obtain⟨v1,vs1,d1,ds1,p1,q1,hargs1,rfl,rfl,h1,r1⟩:=trodAll_cons r0;obtain⟨v2,vs2,d2,ds2,p2,q2,hargs2,rfl,rfl,h2,r2⟩:=trodAll_cons r1;obtain⟨hv2,rfl,rfl⟩:=trodAll_nil r2;obtain rfl:args=#[v0,v1,v2]:=by apply Array.toList_inj.1;rw[hargs0];simp only[hargs1,hargs2,hv2]
 clear hargs0 hargs1 hargs2 hv2;obtain⟨rfl,rfl⟩:=trodVars_none hV;obtain⟨a0,len0,cap0,rfl⟩:=okWide_slice Tryz.underlying27 (hval 0 27 v0 rfl rfl);obtain⟨n1,rfl⟩:=okWide_int Tryz.underlying3 (hval 1 3 v1 rfl rfl);obtain⟨n2,rfl⟩:=okWide_int Tryz.underlying5 (hval 2 5 v2 rfl rfl);have k0:=h0;have lt0:∀x∈p0,x.block<W.heap.size:=by obtain⟨m,hm⟩:=k0;exact DataW.trod_lt m _ _ _ hm
 have k1:=h1;have lt1:∀x∈p1,x.block<W.heap.size:=by obtain⟨m,hm⟩:=k1;exact DataW.trod_lt m _ _ _ hm
 have k2:=h2;have lt2:∀x∈p2,x.block<W.heap.size:=by obtain⟨m,hm⟩:=k2;exact DataW.trod_lt m _ _ _ hm
 clear hA0 hval0 hval
 obtain⟨b0,hbl0,hrd0⟩:∃b:List UInt8,b.length=len0/\Rd W 1 (.slice a0 len0 cap0) len0 (b.map vb):=by
  obtain⟨fuel,hf⟩:=h0;exact BV (by simpa [Value.cells] using hf)
 subst hbl0
 have hn1:-9223372036854775808≤n1/\n1≤9223372036854775807:=by
  obtain⟨fuel,hf⟩:=h1;obtain⟨a,e0,-,wa⟩:=DataW.trod_int Tryz.underlying3 hf;simp[Value.cells] at e0;subst e0;exact bounds_i64 wa
 obtain⟨m2,rfl⟩:∃m:UInt8,n2=(m.toNat:Int):=by
  obtain⟨fuel,hf⟩:=h2;obtain⟨b,hb⟩:=DK hf;simp[Value.cells,vb] at hb;exact⟨b,hb⟩
 refine(zP W _ b0 hrd0 n1 hn1.1 hn1.2 m2).mono fun e W' ⟨he,hk⟩=>?_
 subst he;have bel:=hk.below;exact⟨_,rfl,_,_,_,[],_,[],hW',trodAll_mk1 (shut_bool Tryz.underlying4 _),(trodAll_cons_mk (Below.trod AE (by kernel_rfl) (of_decide_eq_true (by kernel_rfl)) k0 bel lt0) (trodAll_cons_mk (Below.trod AE (by kernel_rfl) (of_decide_eq_true (by kernel_rfl)) k1 bel lt1) (trodAll_cons_mk (Below.trod AE (by kernel_rfl) (of_decide_eq_true (by kernel_rfl)) k2 bel lt2) trodAll_mk0))),rfl,bel.frame _,fun h=>by cases h⟩
theorem cO{a b:Bool}(h:a=true)(k:b=true):(a && b)=true:=by rw[h,k];rfl
theorem cl0:(Rows.metaBlocksRow.wf (OpenSpec.ofChange Rows.metaBlocksSpec))=true:=by kernel_rfl
theorem cl1:(laidOutB Tryz.pinned.checked.prog)=true:=by kernel_rfl
theorem cl2:(mapsRowed Tryz.pinned.checked.prog)=true:=by kernel_rfl
theorem cl3:(Tryz.f6.params.all (Tryz.pinned.checked.prog.readableRec ·))=true:=by kernel_rfl
theorem cl4:(namedTie Tryz.pinned.checked.prog Rows.metaBlocksRow.named Rows.metaBlocksSpec.vars)=true:=by kernel_rfl
theorem cl5:(Rows.metaBlocksRow.stops == [])=true:=by kernel_rfl
theorem cl6:(Tryz.pinned.checked.prog.stops == [])=true:=by kernel_rfl
theorem cl7:(Rows.metaBlocksRow.knobs == [])=true:=by kernel_rfl
theorem cl8:(Tryz.pinned.checked.prog.stopKnobs == [])=true:=by kernel_rfl
theorem cl9:(Rows.metaBlocksRow.inPlace == Tryz.pinned.checked.prog.inPlace 6)=true:=by kernel_rfl
theorem NU:(Rows.metaBlocksRow.unfollowed == Tryz.pinned.checked.prog.unfollowed 6)=true:=by kernel_rfl
theorem NV:(Rows.metaBlocksRow.recurses == Tryz.pinned.checked.prog.recurses 6)=true:=by kernel_rfl
theorem NW:(Rows.metaBlocksRow.named == Tryz.pinned.checked.prog.varsNamed 6)=true:=by kernel_rfl
theorem NX:(Rows.metaBlocksRow.maps == (Tryz.f6.params.toList++Rows.metaBlocksSpec.plain.varTypes Tryz.pinned.checked.prog).any (Tryz.pinned.checked.prog.mapsRec ·))=true:=by kernel_rfl
theorem NY:(Rows.metaBlocksRow.ifaces == (Tryz.f6.params.toList++Rows.metaBlocksSpec.plain.varTypes Tryz.pinned.checked.prog).any (Tryz.pinned.checked.prog.ifacesRec ·))=true:=by kernel_rfl
theorem NZ:(Rows.metaBlocksRow.mapsOut == Tryz.pinned.checked.prog.mapsAmong Tryz.f6.resultTypes.toList)=true:=by kernel_rfl
theorem N3:(Rows.metaBlocksRow.loops == (Tryz.f6.params.toList++Rows.metaBlocksSpec.plain.varTypes Tryz.pinned.checked.prog).any (Tryz.pinned.checked.prog.loopsFrom ·))=true:=by kernel_rfl
theorem N4:(Rows.metaBlocksRow.wideKeys == ((Tryz.f6.params.toList++Rows.metaBlocksSpec.plain.varTypes Tryz.pinned.checked.prog)++Tryz.f6.resultTypes.toList).any (Tryz.pinned.checked.prog.wideKeysFrom ·))=true:=by kernel_rfl
theorem N5:(Rows.metaBlocksSpec.vars.all (Tryz.pinned.checked.prog.varReadable ·))=true:=by kernel_rfl
theorem N6:(Tryz.f6.resultTypes.all (fun t=>Tryz.pinned.checked.prog.readableRec t && decide (t<Tryz.pinned.checked.prog.types.size)))=true:=by kernel_rfl
theorem N7:(Rows.metaBlocksRow.ifacesOut == Tryz.f6.resultTypes.toList.any (Tryz.pinned.checked.prog.ifacesRec ·))=true:=by kernel_rfl
theorem N8:(Rows.metaBlocksRow.loopsOut == Tryz.f6.resultTypes.toList.any (Tryz.pinned.checked.prog.loopsFrom ·))=true:=by kernel_rfl
theorem N9:(Rows.metaBlocksRow.plainKeys == Tryz.pinned.checked.prog.plainKeys)=true:=by kernel_rfl
theorem Oa:(Rows.metaBlocksRow.shortTexts.isNone)=true:=by kernel_rfl
theorem Ob:(Tryz.pinned.checked.prog.stopsHeard)=true:=by kernel_rfl
theorem Oc:(Tryz.pinned.checked.prog.mayEnter)=true:=by kernel_rfl
theorem Od:(Rows.metaBlocksRow.lifted == Tryz.pinned.checked.prog.liftsFinal)=true:=by kernel_rfl
theorem Oe:(Tryz.pinned.checked.prog.make == some Rows.metaBlocksRow.make)=true:=by kernel_rfl
theorem Of:(Rows.metaBlocksRow.kinds == (if Rows.metaBlocksRow.domain.isEmpty then [] else Tryz.f6.params.toList.map fun t=>match Tryz.pinned.checked.prog.underlying t with|some (.int k)=>some k|_=>none))=true:=by kernel_rfl
theorem Og:(Rows.metaBlocksRow.pinned == Rows.metaBlocksRow.pinnedBy)=true:=by kernel_rfl
theorem Oh:(Rows.metaBlocksRow.veiled == ((Tryz.f6.params.toList++Rows.metaBlocksSpec.plain.varTypes Tryz.pinned.checked.prog)++Tryz.f6.resultTypes.toList).any (Tryz.pinned.checked.prog.veiledRec ·))=true:=by kernel_rfl
theorem Oi:(Rows.metaBlocksRow.veiledFits Tryz.pinned.checked.prog Tryz.f6.params.toList ((Tryz.f6.params.toList++Rows.metaBlocksSpec.plain.varTypes Tryz.pinned.checked.prog)++Tryz.f6.resultTypes.toList))=true:=by kernel_rfl
theorem vL:joinedFacts Tryz.pinned.checked.prog 6 Tryz.f6 Rows.metaBlocksSpec Rows.metaBlocksRow=true:=by
 unfold joinedFacts;exact(cO (cO (cO (cO (cO (cO (cO (cO (cO (cO (cO (cO (cO (cO (cO (cO (cO (cO (cO (cO (cO (cO (cO (cO (cO (cO (cO (cO (cO (cO (cO cl0 cl1) cl2) cl3) cl4) cl5) cl6) cl7) cl8) cl9) NU) NV) NW) NX) NY) NZ) N3) N4) N5) N6) N7) N8) N9) Oa) Ob) Oc) Od) Oe) Of) Og) Oh) Oi)
theorem zQ:Tryz.f6.isWrapper Tryz.pinned.checked.prog Rows.metaBlocksRow.wrapper Rows.metaBlocksRow.mainSum:=by unfold Func.isWrapper;first|(rw[if_pos (by decide +kernel)];kernel_rfl)|(rw[if_neg (by decide +kernel)];exact⟨rfl,rfl⟩)
theorem xL:Tryz.pinned.checked.prog.funcNamed Rows.metaBlocksRow.func=some 6:=by kernel_rfl
theorem zR:Rows.MetaBlocksSaid:=
 OpenClaim.holds_of_cond 6 Tryz.f6 rfl rfl rfl rfl rfl rfl rfl ⟨rfl,rfl,rfl,rfl,rfl⟩ rfl rfl rfl rfl rfl xL Tryz.func6 vL (of_decide_eq_true (by kernel_rfl)) zQ
  (fun os started H enc _ F=>by rw[OpenClaim.pre_eq_preRow];exact vK os started H enc F)
theorem xM(f : FuncId)(fn : Func)(hf : Tryz.pinned.checked.prog.funcNamed "caulker/caulkerlaw21.MetaBlocks" = some f)(hfn : Tryz.pinned.checked.prog.funcs[f]? = some fn) :
 true=Tryz.pinned.checked.prog.looks []/\∀(j:Nat) t,fn.params[j]?=some t->Tryz.pinned.checked.prog.wantsStandIn t=false:=by
 obtain rfl : f = 6 := Option.some.inj ((show Tryz.prog.funcNamed "caulker/caulkerlaw21.MetaBlocks" = some 6 by kernel_rfl).symm.trans hf) |>.symm;obtain rfl:fn=Tryz.f6:=(Option.some.inj (Tryz.func6.symm.trans hfn)).symm;refine⟨by kernel_rfl,fun j t ht=>?_⟩;rw[Tryz.params6] at ht;have hm:=Array.mem_of_getElem? ht;simp only[List.mem_toArray,List.mem_cons,List.not_mem_nil,or_false] at hm;rcases hm with rfl|rfl|rfl
 ·exact(show Tryz.prog.wantsStandIn 27=false by kernel_rfl)
 ·exact(show Tryz.prog.wantsStandIn 3=false by kernel_rfl)
 ·exact(show Tryz.prog.wantsStandIn 5=false by kernel_rfl)
theorem metaBlocks_proved:Rows.MetaBlocksCardSaid:=
 Claim7.holds_tied_plain_at .later [] _ _ _ _ zR (fun _ h=>by cases h) (by kernel_rfl) (fun _ h=>by cases h) metaBlocks_row_tie rfl ⟨rfl,rfl⟩ (by kernel_rfl) rfl xM (by kernel_rfl)
end
end Go.Proofs.YtjkbekifgobeaaaGreatDoor
