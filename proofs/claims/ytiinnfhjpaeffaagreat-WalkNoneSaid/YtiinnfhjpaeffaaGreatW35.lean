import Derived.Test.YtiinnfhjpaeffaaGreatW1
import Derived.Test.YtiinnfhjpaeffaaGreatW33
import Derived.Test.YtiinnfhjpaeffaaGreatW34
namespace Go.Proofs.YtiinnfhjpaeffaaGreat
set_option maxHeartbeats 64000000
set_option maxRecDepth 100000
set_option linter.unusedVariables false
section
open Go.RowKit Go.Maps Go.ChangeMaps
theorem bs2{P:Program}{w:World}{ops:Array Oper}{rest:List Oper}{o:Oper}{a:Act}{Q:Exit->Act->World->Prop}(t e:TypeId)(x y:Operand)(u v:Value)(hsz:(P.info? e).map (·.size)=some 1)(hz:((P.info? e).bind (·.zero)).isSome=true)(hu:P.underlying t=some (.slice e))(h1:u.cells=#[u])(h2:v.cells=#[v])
 (h:∀b w',w.heap.size=b->aA aB w w'->w'.heap[b]?=some (.cells #[u,v] e (0,0))->wpList P ops Q rest (a.put o.dst (.slice (some ⟨b,0,none⟩) 2 2)) w') (hx:a.eval x=u:=by rfl) (hy:a.eval y=v:=by rfl) (hg:o.guard=none:=by rfl) (ho:o.op=.buildSlice t 2 #[(0,x),(1,y)]:=by rfl):wpList P ops Q (o::rest) a w:=by
 cases hie:P.info? e with
 | none=>simp[hie] at hsz
 | some ie =>
   simp only[hie,Option.map_some,Option.some.injEq,Option.bind_some] at hsz hz;obtain⟨z,hzz⟩:=Option.isSome_iff_exists.1 hz;refine wpList_buildSlice hg t e 2 _ ho #[u,v] ie z hu hie hzz (by rw[hsz];omega) (by rw[hsz];omega) ?_ (h _ _ rfl ((aA.refl _ _).alloc _) (heap_alloc_new _ _));rw[hsz];have e1:((#[((0:Nat),x),(1,y)]:Array (Nat×Operand)).map fun(i,x)=>(i,a.eval x)).toList=([u,v].zipIdx 0).map fun x=>(x.2,x.1):=by simp[hx,hy]
   rw[e1];exact Great.fill_flat [u,v] _ (fun q hq=>by rcases List.mem_cons.1 hq with rfl|hq;exact h1;rcases List.mem_singleton.1 hq with rfl;exact h2) (by simp)
def Jr:List Value:=.pointer none::.pointer none::(eA.map vb++(.int .i64 0::.slice none 0 0::.pointer none::.slice none 0 0::.slice none 0 0::gC mN))
theorem GT(w:World):(Instr.build nF #[]).run Tryz.prog w=.ok (.agg Jr.toArray) w:=by kernel_rfl
theorem Og:(Tryz.prog.info? 36).map (fun i=>(i.zero,i.size,i.bytes))=some (some (.agg (wCs ⟨0,0,0,false,none,0,0,.int .i64 0::.int .i64 0::eA.map vb⟩).toArray),39,104):=by kernel_rfl
theorem Oh:(Tryz.prog.info? 36).map (·.size)=some 39:=by kernel_rfl
theorem kN{w:World}{b o:Nat}{cs ps:List Value}{t:TypeId}{fr:Nat×Nat}(hb:w.heap[b]?=some (.cells cs.toArray t fr))(h:∀j u,ps[j]?=some u->cs.toArray[o+j]?=some u):w.rangeAt b o ps:=fun j u hj=>aC hb (h j u hj)
theorem BT(a:iV)(ha:a.Ok)(w:World):Calls Tryz.prog 4 #[.agg (wCs a).toArray] w (LB w):=by
 have h6:∀j u,a.p[j]?=some u->(wCs a).toArray[4+j]?=some u:=fun j u hj=>by
  rw[List.getElem?_toArray];unfold wCs;rw[List.getElem?_append_right (by show 4≤_;omega),show 4+j-(GR a).length=j by show 4+j-4=j;omega];exact hj
 have h1:(wCs a).toArray[2]?=some (.int .i64 a.x):=rfl;have hnc:=Fb ha;have hno:=MX ha;have hpc:=ha.len;have hpo:=ha.one;have hcl:Lp [a]=wCs a:=by show wCs a++[]=_;exact List.append_nil _
 have HAL:Hid (WOk [a]):=O (fun y hy=>by cases List.mem_singleton.1 hy;exact ha);obtain⟨pc,hpe⟩:∃x,a.p=x:=⟨_,rfl⟩
 obtain⟨nc,hne⟩:∃x,wCs a=x:=⟨_,rfl⟩
 obtain⟨x,hn⟩:∃x,a.x=x:=⟨_,rfl⟩
 rw[hpe,hne] at h6;rw[hne,hn] at h1;rw[hne] at hnc hno hcl ⊢;rw[hpe] at hpc hpo;have H6:=O h6;have H1:=O h1;have HON:=O hno;have HOP:=O hpo;have HCL:=O hcl;clear ha hpe hne hn h6 h1 hno hpo hcl;obtain⟨zc,hzce⟩:∃x,Jr=x:=⟨_,rfl⟩
 have HZB2:Hid (∀w,(Instr.build nF #[]).run Tryz.prog w=.ok (.agg zc.toArray) w):=O (by rw[←hzce];exact GT);have hzc:zc.length=109:=by rw[←hzce];rfl
 have HZ0:Hid (zc.toArray[0]?=some (.pointer none)):=O (by rw[←hzce];rfl);have HOZC:Hid (∀u∈zc,u.oneCell'=true):=O (by rw[←hzce];exact of_decide_eq_true (by kernel_rfl));clear hzce;have HL:=lN w;go_in
 go_wp2_with ((with_reducible show WL _ _);refine bxL HL 36 (.tmp 0) (nc.toArray) ?_)
 intro b1 w1 hk HL;clear hk
 go_wp2_with ((with_reducible show WL _ _);first
  | refine wpList_load_mid rfl 36 (.tmp 1) rfl b1 0 rfl nc _ (aD (HL.out.b 0)) uW rfl (by rw[hnc];exact Oh) ?_
  | refine bsA 38 36 (.tmp 13) Tryz.underlying38 Og (by omega) (nc) hnc (by omega) ?_)
 intro b14 w2 hbs hk hb;replace HL:=lW HL hbs hk hb;have HRD:=O (show Rd w2 39 (.slice (some ⟨b14,0,none⟩) 1 1) 1 (Lp [a]) from by rw[HCL.out];exact eE (n:=1) (size:=39) hb hnc (by unfold maxLen;omega));clear hbs hk hb;go_wp2_with fail;refine((GS w2 (.slice (some ⟨b14,0,none⟩) 1 1) [a] HAL.out HRD.out)).mono ?_;rintro e w3 ⟨⟨bb,rfl⟩,hk⟩;replace HL:=O (HL.out.keeps hk);clear hk;clear HRD HAL HCL;cases bb with
 | true =>
   go_wp2_with fail;refine((wQ w3)).mono ?_;rintro e w4 ⟨rfl,hk⟩;replace HL:=O (HL.out.keeps hk);clear hk;go_wp2;go_ret;exact⟨rfl,HL.out.keep⟩
 | false =>
   go_wp2_with ((with_reducible show WL _ _);first
    | refine bld nF #[] [] (.agg zc.toArray) HZB2.out ?_
    | refine bxL HL 47 (.tmp 17) (zc.toArray) ?_)
   intro b18 w5 hk HL;clear hk
   go_wp2_with ((with_reducible show WL _ _);refine bs2 48 39 (.const (.pointer none)) (.tmp 18) (.pointer none) (.pointer (some ⟨b18,0,none⟩)) (by kernel_rfl) (by kernel_rfl) Tryz.underlying48 rfl rfl ?_)
   intro b19 w6 hbs hk hb;replace HL:=lW HL hbs hk hb;clear hbs hk hb;go_wp2_with fail
   go_loopw [4] (fun i wr=>∃k:Nat,k≤2/\i=.int .i64 (k:Int)/\Hid (Loc aB aB w wr [(b19,#[.pointer none,.pointer (some ⟨b18,0,none⟩)],39),(b18,zc.toArray,47),(b14,nc.toArray,36),(b1,nc.toArray,36)])) (fun i _=>2-(intOf i).toNat)
   case atStart=>exact⟨0,by omega,rfl,HL⟩
   case round =>
   clear HL;obtain⟨k,hk,rfl,HL⟩:=hrel
   by_cases hlt:k<2
   ·have hki:(k:Int)<2:=by omega
    have hk0:(0:Int)≤(k:Int):=by omega
    obtain⟨cv,hcv,hN⟩:∃cv,wr.cell? ⟨b19,k,none⟩=some cv/\dL wr cv:=by
     have hc:k=0\/k=1:=by omega
     rcases hc with rfl|rfl
     ·exact⟨_,aC (HL.out.b 0) rfl,.inl rfl⟩
     ·exact⟨_,aC (HL.out.b 0) rfl,.inr ⟨_,_,rfl,HL.out.b 1,HZ0.out⟩⟩
    have HN:=O hN;have HO1:=O hN.one;have HCV:=O hcv;clear hN hcv;go_wp2_with fail;refine dwA aB (by kernel_rfl) ?_;intro w7 S HSE HSI hS hkd;replace HL:=O (HL.out.keeps hkd);replace HN:=O (dL.keep0 HN.out hkd);replace HCV:=O (hkd.cell HCV.out id);clear hkd;have HLs:=HL;have HNs:=HN;have HCVs:=HCV;refine tna 0 (.slice (some ⟨b19,0,none⟩) 2 2) rfl hS ?_;refine tna 1 (.int .i64 (k:Int)) rfl hS ?_;refine tnd 2 (.pointer (some ⟨b19,k,none⟩)) rfl (.inl ⟨by rfl,fun _ _=>by go_simp⟩) hS ?_;refine tnd 3 cv rfl (.inl ⟨by rfl,fun w' hw'=>by have c:World.cell? w' ⟨b19,k,none⟩=some (cv):=(HSE.out w' hw').cell HCVs.out id;go_simp⟩) hS ?_;refine tnb 4 (.pointer (some ⟨b1,4,none⟩)) rfl hS ?_;refine tnd 5 (.agg pc.toArray) rfl (yieldsIf_load_mid (by rfl) 27 (.tmp 31) rfl b1 4 rfl pc _ (fun w' h=>(kN ((HSE.out w' h).blk (HLs.out.b 3) id) H6.out)) aF rfl (szP9 hpc)) hS ?_;refine wA9 6 ?_;go_wp2_with fail;refine((DT (xW HN.out pc) HO1.out.1 hpc HOP.out:Calls _ _ _ w7 (aK w7 (.tuple #[.slice none 0 0,.int .i64 1])))).mono ?_;rintro e w8 ⟨rfl,hk⟩;have hS1:=HSI.out _ ((HSE.out _ hS).trans hk);replace HL:=O (HL.out.keeps hk);replace HN:=O (dL.keep0 HN.out hk);replace HCV:=O (hk.cell HCV.out id);clear hS hk;go_wp2_with fail;refine⟨hS1,?_⟩;refine tna 7 (.tuple #[.slice none 0 0,.int .i64 1]) rfl hS1 ?_;refine tnb 8 (.slice none 0 0) rfl hS1 ?_;refine tnb 9 (.int .i64 1) rfl hS1 ?_;refine tna 10 (.slice none 0 0) rfl hS1 ?_;refine tna 11 (.int .i64 1) rfl hS1 ?_;refine wpAnyH_done (by kernel_rfl) ?_ _;clear hS1 HSE HSI HLs HNs HCVs;go_wp2_with fail;refine dwA aB (by kernel_rfl) ?_;intro w9 S HSE HSI hS hkd;replace HL:=O (HL.out.keeps hkd);replace HN:=O (dL.keep0 HN.out hkd);replace HCV:=O (hkd.cell HCV.out id);clear hkd;have HLs:=HL;have HNs:=HN;have HCVs:=HCV;refine tna 0 (.slice (some ⟨b19,0,none⟩) 2 2) rfl hS ?_;refine tna 1 (.int .i64 (k:Int)) rfl hS ?_;refine tnd 2 (.pointer (some ⟨b19,k,none⟩)) rfl (.inl ⟨by rfl,fun _ _=>by go_simp⟩) hS ?_;refine tnd 3 cv rfl (.inl ⟨by rfl,fun w' hw'=>by have c:World.cell? w' ⟨b19,k,none⟩=some (cv):=(HSE.out w' hw').cell HCVs.out id;go_simp⟩) hS ?_;refine tnb 4 (.pointer (some ⟨b1,4,none⟩)) rfl hS ?_;refine tnd 5 (.agg pc.toArray) rfl (yieldsIf_load_mid (by rfl) 27 (.tmp 41) rfl b1 4 rfl pc _ (fun w' h=>(kN ((HSE.out w' h).blk (HLs.out.b 3) id) H6.out)) aF rfl (szP9 hpc)) hS ?_;refine tnb 6 (.pointer (some ⟨b1,2,none⟩)) rfl hS ?_;refine tnd 7 (.int .i64 x) rfl (.inl ⟨by rfl,fun w' hw'=>by have c:World.cell? w' ⟨b1,2,none⟩=some (.int .i64 x):=(aC (i:=2) ((HSE.out w' hw').blk (HLs.out.b 3) id) H1.out);go_simp⟩) hS ?_;refine wA9 8 ?_;go_wp2_with fail;refine((Jp (xW HN.out pc) HO1.out.1 hpc HOP.out x:Calls _ _ _ w9 (aK w9 (.tuple #[.slice none 0 0,.int .i64 1])))).mono ?_;rintro e wa ⟨rfl,hk⟩;have hS1:=HSI.out _ ((HSE.out _ hS).trans hk);replace HL:=O (HL.out.keeps hk);replace HN:=O (dL.keep0 HN.out hk);replace HCV:=O (hk.cell HCV.out id);clear hS hk;go_wp2_with fail;refine⟨hS1,?_⟩;refine tna 9 (.tuple #[.slice none 0 0,.int .i64 1]) rfl hS1 ?_;refine tnb 10 (.slice none 0 0) rfl hS1 ?_;refine tnb 11 (.int .i64 1) rfl hS1 ?_;refine tna 12 (.slice none 0 0) rfl hS1 ?_;refine tna 13 (.int .i64 1) rfl hS1 ?_;refine wpAnyH_done (by kernel_rfl) ?_ _;clear hS1 HSE HSI HLs HNs HCVs;go_wp2_with fail;refine dwA aB (by kernel_rfl) ?_;intro wb S HSE HSI hS hkd;replace HL:=O (HL.out.keeps hkd);replace HN:=O (dL.keep0 HN.out hkd);replace HCV:=O (hkd.cell HCV.out id);clear hkd;have HLs:=HL;have HNs:=HN;have HCVs:=HCV;refine tna 0 (.slice (some ⟨b19,0,none⟩) 2 2) rfl hS ?_;refine tna 1 (.int .i64 (k:Int)) rfl hS ?_;refine tnd 2 (.pointer (some ⟨b19,k,none⟩)) rfl (.inl ⟨by rfl,fun _ _=>by go_simp⟩) hS ?_;refine tnd 3 cv rfl (.inl ⟨by rfl,fun w' hw'=>by have c:World.cell? w' ⟨b19,k,none⟩=some (cv):=(HSE.out w' hw').cell HCVs.out id;go_simp⟩) hS ?_;refine tnb 4 (.pointer (some ⟨b1,4,none⟩)) rfl hS ?_;refine tnd 5 (.agg pc.toArray) rfl (yieldsIf_load_mid (by rfl) 27 (.tmp 53) rfl b1 4 rfl pc _ (fun w' h=>(kN ((HSE.out w' h).blk (HLs.out.b 3) id) H6.out)) aF rfl (szP9 hpc)) hS ?_;refine tnb 6 (.pointer (some ⟨b1,2,none⟩)) rfl hS ?_;refine tnd 7 (.int .i64 x) rfl (.inl ⟨by rfl,fun w' hw'=>by have c:World.cell? w' ⟨b1,2,none⟩=some (.int .i64 x):=(aC (i:=2) ((HSE.out w' hw').blk (HLs.out.b 3) id) H1.out);go_simp⟩) hS ?_;refine wA9 8 ?_;go_wp2_with fail;refine((GP (xW HN.out pc) HO1.out.1 hpc HOP.out x:Calls _ _ _ wb (aK wb (.tuple #[.slice none 0 0,.int .i64 1])))).mono ?_;rintro e wc ⟨rfl,hk⟩;have hS1:=HSI.out _ ((HSE.out _ hS).trans hk);replace HL:=O (HL.out.keeps hk);replace HN:=O (dL.keep0 HN.out hk);replace HCV:=O (hk.cell HCV.out id);clear hS hk;go_wp2_with fail;refine⟨hS1,?_⟩;refine tna 9 (.tuple #[.slice none 0 0,.int .i64 1]) rfl hS1 ?_;refine tnb 10 (.slice none 0 0) rfl hS1 ?_;refine tnb 11 (.int .i64 1) rfl hS1 ?_;refine tna 12 (.slice none 0 0) rfl hS1 ?_;refine tna 13 (.int .i64 1) rfl hS1 ?_;refine wpAnyH_done (by kernel_rfl) ?_ _;clear hS1 HSE HSI HLs HNs HCVs;go_wp2_with fail;refine dwA aB (by kernel_rfl) ?_;intro wd S HSE HSI hS hkd;replace HL:=O (HL.out.keeps hkd);replace HN:=O (dL.keep0 HN.out hkd);replace HCV:=O (hkd.cell HCV.out id);clear hkd;have HLs:=HL;have HNs:=HN;have HCVs:=HCV;refine tna 0 (.slice (some ⟨b19,0,none⟩) 2 2) rfl hS ?_;refine tna 1 (.int .i64 (k:Int)) rfl hS ?_;refine tnd 2 (.pointer (some ⟨b19,k,none⟩)) rfl (.inl ⟨by rfl,fun _ _=>by go_simp⟩) hS ?_;refine tnd 3 cv rfl (.inl ⟨by rfl,fun w' hw'=>by have c:World.cell? w' ⟨b19,k,none⟩=some (cv):=(HSE.out w' hw').cell HCVs.out id;go_simp⟩) hS ?_;refine tnb 4 (.pointer (some ⟨b1,4,none⟩)) rfl hS ?_;refine tnd 5 (.agg pc.toArray) rfl (yieldsIf_load_mid (by rfl) 27 (.tmp 65) rfl b1 4 rfl pc _ (fun w' h=>(kN ((HSE.out w' h).blk (HLs.out.b 3) id) H6.out)) aF rfl (szP9 hpc)) hS ?_;refine tnb 6 (.pointer (some ⟨b1,4,none⟩)) rfl hS ?_;refine tnd 7 (.agg pc.toArray) rfl (yieldsIf_load_mid (by rfl) 27 (.tmp 67) rfl b1 4 rfl pc _ (fun w' h=>(kN ((HSE.out w' h).blk (HLs.out.b 3) id) H6.out)) aF rfl (szP9 hpc)) hS ?_;refine wA9 8 ?_;go_wp2_with fail;refine((GQ HN.out hpc HOP.out:Calls _ _ _ wd (aK wd (.tuple #[.slice none 0 0,.int .i64 1])))).mono ?_;rintro e we ⟨rfl,hk⟩;have hS1:=HSI.out _ ((HSE.out _ hS).trans hk);replace HL:=O (HL.out.keeps hk);replace HN:=O (dL.keep0 HN.out hk);replace HCV:=O (hk.cell HCV.out id);clear hS hk;go_wp2_with fail;refine⟨hS1,?_⟩;refine tna 9 (.tuple #[.slice none 0 0,.int .i64 1]) rfl hS1 ?_;refine tnb 10 (.slice none 0 0) rfl hS1 ?_;refine tnb 11 (.int .i64 1) rfl hS1 ?_;refine tna 12 (.slice none 0 0) rfl hS1 ?_;refine tna 13 (.int .i64 1) rfl hS1 ?_;refine wpAnyH_done (by kernel_rfl) ?_ _;clear hS1 HSE HSI HLs HNs HCVs;clear HN HO1 HCV;go_wp2
    go_roundw
    case rel=>exact⟨k+1,by omega,by go_num,HL⟩
    case measure=>simp[intOf];omega
   ·obtain rfl:k=2:=by omega
    go_wp2_with fail;refine((wQ wr)).mono ?_;rintro e wf ⟨rfl,hk⟩;replace HL:=O (HL.out.keeps hk);clear hk;go_wp2;go_ret;exact⟨rfl,HL.out.keep⟩
end
section
open Go.ChangeShapes Go.WideShapes Go.ChangeAt Go.RowKit
theorem zS(os:Os)(started:os.Started)(H:Type)(enc:TypeId×Value->H) :
 ReturnsInHanded {} Tryz.checked os 4 .any (Rows.walkNoneSpec.pre6 enc Tryz.prog Tryz.f4 Rows.walkNoneRow.domain false) (Rows.walkNoneSpec.post enc Tryz.prog Tryz.f4 false true false false):=by
 refine returnsInHanded_of_change (C:=Tryz.checked) own started (by kernel_rfl) Tryz.func4
  (ChangeSpec.witness6 (enc:=enc) (C:=Tryz.checked) false ⟨#[],#[.agg (#[.int .i64 0,.int .i64 0,.int .i64 0,.bool false,.slice none 0 0,.int .i64 0,.int .i64 0]++Array.replicate 32 (.int .u8 0))],[]⟩ 64 (by kernel_rfl) (by kernel_rfl) (by kernel_rfl) (by kernel_rfl)) ?_
 intro W base args ds gs before hval0 hW hcnd _;have hval:∀(j:Nat) t v,Tryz.f4.params[j]?=some t->args[j]?=some v->Value.okWide Tryz.prog W .any base t v:=hval0;have hW':=hW;obtain⟨p,q,hA0,hV,rfl,hfz,hnd⟩:=hW;have hA:DataW.TrodAll enc Tryz.prog W 0 (fun _=>true) true Tryz.f4.params.toList args.toList ds p:=hA0;rw[Tryz.params4] at hA hval;obtain⟨v0,vs0,d0,ds0,p0,q0,hargs0,rfl,rfl,h0,r0⟩:=trodAll_cons hA;obtain⟨hv0,rfl,rfl⟩:=trodAll_nil r0;obtain rfl:args=#[v0]:=by apply Array.toList_inj.1;rw[hargs0];simp only[hv0]
 clear hargs0  hv0;obtain⟨rfl,rfl⟩:=trodVars_none hV;obtain⟨cs0,rfl,hcs0⟩:=okWide_struct uW (hval 0 36 v0 rfl rfl);have k0:=h0;have lt0:∀x∈p0,x.block<W.heap.size:=by obtain⟨m,hm⟩:=k0;exact DataW.trod_lt m _ _ _ hm
 clear hA0 hval0 hval
 obtain⟨A0,hA0,hAc0⟩:∃A:iV,A.Ok/\cs0=(wCs A).toArray:=by
  obtain⟨fuel,hf⟩:=h0;obtain⟨A,hA,hc⟩:=MY hf;exact⟨A,hA,by apply Array.toList_inj.1;simpa [Value.cells] using hc⟩
 subst hAc0;refine(BT A0 hA0 W).mono fun e W' ⟨he,hk⟩=>?_
 subst he;have bel:=hk.below;exact⟨_,rfl,_,_,_,[],_,[],hW',trodAll_mk1 (shut_bool Tryz.underlying4 _),(trodAll_cons_mk (Below.trod MW (by kernel_rfl) (of_decide_eq_true (by kernel_rfl)) k0 bel lt0) trodAll_mk0),rfl,bel.frame _,fun h=>by cases h⟩
theorem cL{a b:Bool}(h:a=true)(k:b=true):(a && b)=true:=by rw[h,k];rfl
theorem cl0:(Rows.walkNoneRow.wf (OpenSpec.ofChange Rows.walkNoneSpec))=true:=by kernel_rfl
theorem cl1:(laidOutB Tryz.pinned.checked.prog)=true:=by kernel_rfl
theorem cl2:(mapsRowed Tryz.pinned.checked.prog)=true:=by kernel_rfl
theorem cl3:(Tryz.f4.params.all (Tryz.pinned.checked.prog.readableRec ·))=true:=by kernel_rfl
theorem cl4:(namedTie Tryz.pinned.checked.prog Rows.walkNoneRow.named Rows.walkNoneSpec.vars)=true:=by kernel_rfl
theorem cl5:(Rows.walkNoneRow.stops == [])=true:=by kernel_rfl
theorem cl6:(Tryz.pinned.checked.prog.stops == [])=true:=by kernel_rfl
theorem cl7:(Rows.walkNoneRow.knobs == [])=true:=by kernel_rfl
theorem cl8:(Tryz.pinned.checked.prog.stopKnobs == [])=true:=by kernel_rfl
theorem cl9:(Rows.walkNoneRow.inPlace == Tryz.pinned.checked.prog.inPlace 4)=true:=by kernel_rfl
theorem Ow:(Rows.walkNoneRow.unfollowed == Tryz.pinned.checked.prog.unfollowed 4)=true:=by kernel_rfl
theorem Ox:(Rows.walkNoneRow.recurses == Tryz.pinned.checked.prog.recurses 4)=true:=by kernel_rfl
theorem Oy:(Rows.walkNoneRow.named == Tryz.pinned.checked.prog.varsNamed 4)=true:=by kernel_rfl
theorem Oz:(Rows.walkNoneRow.maps == (Tryz.f4.params.toList++Rows.walkNoneSpec.plain.varTypes Tryz.pinned.checked.prog).any (Tryz.pinned.checked.prog.mapsRec ·))=true:=by kernel_rfl
theorem OB:(Rows.walkNoneRow.ifaces == (Tryz.f4.params.toList++Rows.walkNoneSpec.plain.varTypes Tryz.pinned.checked.prog).any (Tryz.pinned.checked.prog.ifacesRec ·))=true:=by kernel_rfl
theorem OC:(Rows.walkNoneRow.mapsOut == Tryz.pinned.checked.prog.mapsAmong Tryz.f4.resultTypes.toList)=true:=by kernel_rfl
theorem OD:(Rows.walkNoneRow.loops == (Tryz.f4.params.toList++Rows.walkNoneSpec.plain.varTypes Tryz.pinned.checked.prog).any (Tryz.pinned.checked.prog.loopsFrom ·))=true:=by kernel_rfl
theorem OE:(Rows.walkNoneRow.wideKeys == ((Tryz.f4.params.toList++Rows.walkNoneSpec.plain.varTypes Tryz.pinned.checked.prog)++Tryz.f4.resultTypes.toList).any (Tryz.pinned.checked.prog.wideKeysFrom ·))=true:=by kernel_rfl
theorem OF:(Rows.walkNoneSpec.vars.all (Tryz.pinned.checked.prog.varReadable ·))=true:=by kernel_rfl
theorem OG:(Tryz.f4.resultTypes.all (fun t=>Tryz.pinned.checked.prog.readableRec t && decide (t<Tryz.pinned.checked.prog.types.size)))=true:=by kernel_rfl
theorem OH:(Rows.walkNoneRow.ifacesOut == Tryz.f4.resultTypes.toList.any (Tryz.pinned.checked.prog.ifacesRec ·))=true:=by kernel_rfl
theorem OI:(Rows.walkNoneRow.loopsOut == Tryz.f4.resultTypes.toList.any (Tryz.pinned.checked.prog.loopsFrom ·))=true:=by kernel_rfl
theorem OJ:(Rows.walkNoneRow.plainKeys == Tryz.pinned.checked.prog.plainKeys)=true:=by kernel_rfl
theorem OK:(Rows.walkNoneRow.shortTexts.isNone)=true:=by kernel_rfl
theorem OL:(Tryz.pinned.checked.prog.stopsHeard)=true:=by kernel_rfl
theorem OM:(Tryz.pinned.checked.prog.mayEnter)=true:=by kernel_rfl
theorem ON:(Rows.walkNoneRow.lifted == Tryz.pinned.checked.prog.liftsFinal)=true:=by kernel_rfl
theorem OO:(Tryz.pinned.checked.prog.make == some Rows.walkNoneRow.make)=true:=by kernel_rfl
theorem OP:(Rows.walkNoneRow.kinds == (if Rows.walkNoneRow.domain.isEmpty then [] else Tryz.f4.params.toList.map fun t=>match Tryz.pinned.checked.prog.underlying t with|some (.int k)=>some k|_=>none))=true:=by kernel_rfl
theorem OQ:(Rows.walkNoneRow.pinned == Rows.walkNoneRow.pinnedBy)=true:=by kernel_rfl
theorem OR:(Rows.walkNoneRow.veiled == ((Tryz.f4.params.toList++Rows.walkNoneSpec.plain.varTypes Tryz.pinned.checked.prog)++Tryz.f4.resultTypes.toList).any (Tryz.pinned.checked.prog.veiledRec ·))=true:=by kernel_rfl
theorem OS:(Rows.walkNoneRow.veiledFits Tryz.pinned.checked.prog Tryz.f4.params.toList ((Tryz.f4.params.toList++Rows.walkNoneSpec.plain.varTypes Tryz.pinned.checked.prog)++Tryz.f4.resultTypes.toList))=true:=by kernel_rfl
theorem zT:joinedFacts Tryz.pinned.checked.prog 4 Tryz.f4 Rows.walkNoneSpec Rows.walkNoneRow=true:=by
 unfold joinedFacts;exact(cL (cL (cL (cL (cL (cL (cL (cL (cL (cL (cL (cL (cL (cL (cL (cL (cL (cL (cL (cL (cL (cL (cL (cL (cL (cL (cL (cL (cL (cL (cL cl0 cl1) cl2) cl3) cl4) cl5) cl6) cl7) cl8) cl9) Ow) Ox) Oy) Oz) OB) OC) OD) OE) OF) OG) OH) OI) OJ) OK) OL) OM) ON) OO) OP) OQ) OR) OS)
theorem BU:Tryz.f4.isWrapper Tryz.pinned.checked.prog Rows.walkNoneRow.wrapper Rows.walkNoneRow.mainSum:=by unfold Func.isWrapper;first|(rw[if_pos (by decide +kernel)];kernel_rfl)|(rw[if_neg (by decide +kernel)];exact⟨rfl,rfl⟩)
theorem AD:Tryz.pinned.checked.prog.funcNamed Rows.walkNoneRow.func=some 4:=by kernel_rfl
theorem walkNone_proved:Rows.WalkNoneSaid:=
 OpenClaim.holds_of_wide 4 Tryz.f4 rfl rfl rfl rfl rfl rfl rfl ⟨rfl,rfl,rfl,rfl,rfl⟩ rfl rfl rfl rfl rfl AD Tryz.func4 zT (of_decide_eq_true (by kernel_rfl)) BU
  (fun os started H enc _=>zS os started H enc)
end
end Go.Proofs.YtiinnfhjpaeffaaGreat
