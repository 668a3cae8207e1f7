import Derived.Test.YthihofpfonfjfaaGreatK1
import Derived.Test.YthihofpfonfjfaaGreatK31
namespace Go.Proofs.YthihofpfonfjfaaGreat
set_option maxHeartbeats 64000000
set_option maxRecDepth 100000
set_option linter.unusedVariables false
section
open Go.RowKit Go.Maps Go.ChangeMaps
theorem OE{P:Program}{ops:Array Oper}{rest:List Oper}{o:Oper}{a:Act}{w:World}{Q:Exit->Act->World->Prop}(t e:TypeId)(x y:Operand)(hu:P.underlying t=some (.slice e)){z:Value}{size bytes:Nat}(hinf:(P.info? e).map (fun i=>(i.zero,i.size,i.bytes))=some (some z,size,bytes))(hsz:0<size)
 (vs us:List Value) (hvs:vs.length=size) (hus:us.length=size) (hsmall:2*size≤2 ^ 24) (h:∀b w',w.heap.size=b->aA aB w w'->w'.heap[b]?=some (.cells (vs++us).toArray e (0,0))->wpList P ops Q rest (a.put o.dst (.slice (some ⟨b,0,none⟩) 2 2)) w')
 (hx:a.eval x=.agg vs.toArray:=by rfl) (hy:a.eval y=.agg us.toArray:=by rfl) (hg:o.guard=none:=by rfl) (ho:o.op=.buildSlice t 2 #[(0,x),(1,y)]:=by rfl):wpList P ops Q (o::rest) a w:=by
 refine oM hg t e 2 _ ho hu hinf hsz [vs,us] (fun l hl=>?_) rfl (by decide) hsmall ?_ (h _ _ rfl ((aA.refl _ _).alloc _) ?_)
 ·simp only[List.mem_cons,List.not_mem_nil,or_false] at hl
  rcases hl with rfl|rfl
  ·exact hvs
  ·exact hus
 ·simp[jJ,hx,hy]
 ·have e1:[vs,us].flatten=vs++us:=by simp
  rw[e1];exact heap_alloc_new _ _
structure wI(w:World)(g n:Nat)(vs:Nat->Value)(ps:Nat->Pt):Prop where
 v:∀k,k<n->PtV w (vs k) (ps k)
 r:∀k,k<n->(ps k).root=true
 a:∀k,k<n->w.rangeAt g (k*35) (aE (vs k) (ps k))
theorem wI.keep0{w w':World}{g n:Nat}{vs:Nat->Value}{ps:Nat->Pt}(h:wI w g n vs ps)(k:aA aB w w'):wI w' g n vs ps:=⟨fun i hi=>(h.v i hi).keep k fun _ _=>id,h.r,fun i hi=>k.rangeAt (h.a i hi)⟩
theorem D6{w:World}{c:Nat}{S:Kor}{B:Nat->Prop}(hK:KI w c S B){g n:Nat}(hn:n≤100)(vs:Nat->Value)(ps:Nat->Pt)(hr:wI w g n vs ps):Calls Tryz.prog 30 #[.pointer (some ⟨c,0,none⟩),.slice (some ⟨g,0,none⟩) n n] w (aK w (.int .i64 0)):=by
 have HCP:=O (by have:=hK.bd.c1;omega:¬((S.cp:Nat):Int)=0);have HK:=O hK;have HR:=O hr;have HL:=lN w;clear hK hr;go_in;go_wp2_with fail;refine((KI.copies HK.out:Calls _ _ _ w (aK w (.int .i64 (S.cp:Int))))).mono ?_;rintro e w1 ⟨rfl,hk⟩;replace HL:=kL HL hk;replace HK:=O (KI.keep0 HK.out hk);replace HR:=O (HR.out.keep0 hk);clear hk;have hcp0:=HCP.out;have d0:decide (((S.cp:Nat):Int)=0)=false:=decide_eq_false hcp0;have d1:(((S.cp:Nat):Int) == 0)=false:=by rw[beq_eq_false_iff_ne];exact hcp0
 go_wp2_with fail;have HK0:=O HL.out.keep;clear HL HK
 go_loopw [13] (fun i wr=>∃k:Nat,k≤n/\i=.int .i64 (k:Int)/\Hid (aA aB w1 wr)) (fun i _=>n-(intOf i).toNat)
 case atStart=>exact⟨0,by omega,rfl,O (aA.refl _ _)⟩
 case round =>
  obtain⟨k,hk,rfl,HKR⟩:=hrel
  by_cases hk8:k<n
  ·have hk0:(0:Int)≤(k:Int):=by omega
   have hk1:(k:Int)<(n:Int):=by omega
   have HL:=lN wr;have HR2:=HR.out.keep0 HKR.out;have HPT:=O (HR2.v k hk8);have HRT:=O (HR2.r k hk8);obtain⟨pc,hpce⟩:∃l,aE (vs k) (ps k)=l:=⟨_,rfl⟩
   have HPC:=O hpce;have hpc:pc.length=35:=by rw[←hpce];exact aI HPT.out.sum
   have HOP:Hid (∀u∈pc,u.oneCell'=true):=O (by rw[←hpce];exact aO HPT.out);have HGR:Hid (wr.rangeAt g (k*35) pc):=O (by rw[←hpce];exact HR2.a k hk8);clear HR2 hpce
   go_wp2_with ((with_reducible show WL _ _);first
    | refine wpList_load_mid rfl 26 (.tmp 15) rfl g (k*35) rfl pc _ (HGR.out) aF rfl (szP9 hpc) ?_
    | refine al 26 (.agg aH.toArray) (aH.toArray) bC ?_)
   intro b6 w2 hbs hk0 hb0_
   go_wp2_with ((with_reducible show WL _ _);refine sta 26 (.tmp 6) (.tmp 16) b6 0 pc hb0_ (by first|decide|(rw[List.size_toArray,hpc];exact Nat.le_refl _)|simp[hpc,aG]) (szP9 hpc) HOP.out ?_)
   intro w3 hk hb;rw[aJ _ _ (by first|rfl|(rw[List.size_toArray,hpc];rfl)|simp[hpc,aG])] at hb;replace hk:=tX hk0 hk (fun i hi e=>by omega);replace HL:=lW HL hbs hk hb;replace HPT:=O (HPT.out.keep hk fun _ _=>id);replace HGR:=O (hk.rangeAt HGR.out);clear hbs hk hb hk0 hb0_
   go_wp2_with ((with_reducible show WL _ _);refine wpList_load_mid rfl 26 (.tmp 6) rfl b6 0 rfl pc _ (aD (HL.out.b 0)) aF rfl (szP9 hpc) ?_)
   refine((by rw[←HPC.out];exact rH w3 (vs k) (ps k) HPT.out HRT.out:Calls _ _ _ w3 (aK w3 (.int .i64 0)))).mono ?_;rintro e w4 ⟨rfl,hk⟩;replace HL:=kL HL hk;replace HPT:=O (HPT.out.keep hk fun _ _=>id);replace HGR:=O (hk.rangeAt HGR.out);clear hk;have HKE:=O (HKR.out.trans HL.out.keep);go_wp2
   go_roundw
   case rel=>exact⟨k+1,by omega,by go_num,HKE⟩
   case measure=>simp[intOf];omega
  ·obtain rfl:k=n:=by omega
   go_wp2;go_ret;exact⟨rfl,HK0.out.trans HKR.out⟩
def sA:List Value:=fF (.slice none 0 0) (.slice none 0 0) zPt zPt 0 0
theorem Ai:sA.length=72:=rfl
theorem NW:Hid (∀w,(zeroValue 87).run Tryz.prog w=.ok (.agg sA.toArray) w):=O fun w=>by kernel_rfl
theorem JG:(Tryz.prog.info? 87).map (·.size)=some 72:=by kernel_rfl
theorem yI:(Tryz.prog.info? 87).map (fun i=>(i.zero,i.size,i.bytes))=some (some (.agg sA.toArray),72,160):=by kernel_rfl
theorem G6(f g:Nat->Value)(l a:Int):Tryz.prog.built 87 [(0,.agg ((List.range 35).map f).toArray),(1,.agg ((List.range 35).map g).toArray),(2,.int .i64 l),(3,.int .i64 a)]=some ((List.range 35).map f++((List.range 35).map g++[Value.int .i64 l,.int .i64 a])).toArray:=by kernel_rfl
theorem BO(v u:Value)(p q:Pt)(l a:Int)(h1:p.sum.length=32)(h2:q.sum.length=32)(w:World):(Instr.build 87 #[(0,.agg (aE v p).toArray),(1,.agg (aE u q).toArray),(2,.int .i64 l),(3,.int .i64 a)]).run Tryz.prog w=.ok (.agg (fF v u p q l a).toArray) w:=by
 refine run_build w 87 _ _ ?_;unfold fF;rw[wG (aE v p) (aI h1),wG (aE u q) (aI h2)];exact G6 _ _ _ _
theorem UnI.top{w:World}{c:Nat}{S:Kor}{B:Nat->Prop}{tot:List Nat}{wr:World}{ka:Option Addr}{kn kc:Nat}{ov:Value}{es:List Ent}{e:Ent}{ns:List Nat}(h:UnI w c S B tot wr (.slice ka kn kc) ov (es++[e]) ns):∃g,ka=some ⟨g,0,none⟩/\wr.rangeAt g (es.length*72) (iN e)/\es.length+1≤kc/\kc≤maxLen/\kc≤9223372036854775807:=by
 have hx:(es++[e])[es.length]?=some e:=by rw[List.getElem?_append_right (Nat.le_refl _),Nat.sub_self];rfl
 obtain⟨g,o,cap,he,hr⟩:=G5 (f:=iN) (s:=72) (fun y hy=>(h.ents y hy).len) (by decide) (Rd.of_owns h.stk) hx;rcases h.stk.2 with⟨h1,h2⟩|⟨g',cap',cur,h1,h2,h3,h4,h5,h6,h7⟩
 ·rw[List.length_append,List.length_singleton] at h2
  omega
 ·injection h1 with h1 h8 h9
  injection he with h10 h11 h12
  rw[h1] at h10;injection h10 with h10
  injection h10 with h13 h14
  subst h13;rw[←h14,Nat.zero_add] at hr;rw[List.length_append,List.length_singleton] at h4;exact⟨g',h1,hr,by omega,by omega,by unfold maxLen at h5;omega⟩
theorem NX{w:World}{b:Nat}{p q:List Value}{t:TypeId}{fr:Nat×Nat}(h:w.heap[b]?=some (.cells (p++q).toArray t fr)):w.rangeAt b (0*35) p:=fun j x hj =>
 aC h (by rw[List.getElem?_toArray,Nat.zero_mul,Nat.zero_add,List.getElem?_append_left (List.getElem?_eq_some_iff.1 hj).1];exact hj)
theorem NY{w:World}{b:Nat}{p q:List Value}{t:TypeId}{fr:Nat×Nat}(hp:p.length=35)(h:w.heap[b]?=some (.cells (p++q).toArray t fr)):w.rangeAt b (1*35) q:=fun j x hj =>
 aC h (by rw[List.getElem?_toArray,List.getElem?_append_right (by omega),hp,show 1*35+j-35=j by omega];exact hj)
theorem Rd.slice_len{w:World}{s n m:Nat}{a:Option Addr}{c:Nat}{xs:List Value}(h:Rd w s (.slice a m c) n xs):m=n:=by
 obtain⟨a',c',e,-,-⟩:=h.form;injection e
theorem tO{w:World}{c:Nat}{S:Kor}{B:Nat->Prop}(hK:KI w c S B)(pv qv:Value)(s t:Tr)(hs:Tr.Ok S 3 s)(ht:Tr.Ok S 3 t)(hp:aX w B pv s.ptr)(hq:aX w B qv t.ptr):Calls Tryz.prog 12 #[.pointer (some ⟨c,0,none⟩),.agg (aE pv s.ptr).toArray,.agg (aE qv t.ptr).toArray] w (fL w (unl 3 s t 0)):=by
 have HTS:=O hs;have HTT:=O ht;have HKI:=O hK;have HRT:Hid (s.ptr.root=true/\t.ptr.root=true):=O ⟨hs.root,ht.root⟩;obtain⟨p,hpe⟩:∃p,s.ptr=p:=⟨_,rfl⟩
 obtain⟨q,hqe⟩:∃p,t.ptr=p:=⟨_,rfl⟩
 have HPE:=O hpe;have HQE:=O hqe;rw[hpe] at hp HRT ⊢;rw[hqe] at hq HRT ⊢;have HPT:=O hp;have HQT:=O hq;have hpc:=aI (v:=pv) hp.pt.sum;have hqc:=aI (v:=qv) hq.pt.sum;have hbp:=BO pv qv p q 3 0 hp.pt.sum hq.pt.sum;obtain⟨pc,hpce⟩:∃l,aE pv p=l:=⟨_,rfl⟩
 obtain⟨qc,hqce⟩:∃l,aE qv q=l:=⟨_,rfl⟩
 obtain⟨xc,hxce⟩:∃l,fF pv qv p q 3 0=l:=⟨_,rfl⟩
 have HOP:Hid (∀u∈pc,u.oneCell'=true):=O (by rw[←hpce];exact aO hp.pt);have HOQ:Hid (∀u∈qc,u.oneCell'=true):=O (by rw[←hqce];exact aO hq.pt);have hxc:xc.length=72:=by rw[←hxce];exact tN hp.pt.sum hq.pt.sum
 have HPC:=O hpce;have HQC:=O hqce;have HXC:=O hxce;rw[hpce] at hpc hbp ⊢;rw[hqce] at hqc hbp ⊢;rw[hxce] at hbp;have HBP:=O hbp;have HBLW:=O (fun i (e:B i)=>hK.lt e);have HPB:=O (fun i hi=>(hp.off i hi).2.lt);have HQB:=O (fun i hi=>(hq.off i hi).2.lt);clear hpce hqce hxce hp hq hs ht hK hpe hqe hbp;have HL:=lN w;go_in
 go_wp2_with ((with_reducible show WL _ _);refine bxL HL 26 (.tmp 1) (pc.toArray) ?_)
 intro b4 w1 hk HL;replace HPT:=pK HPT hk;replace HQT:=pK HQT hk;replace HKI:=O (KI.keep0 HKI.out hk);clear hk
 go_wp2_with ((with_reducible show WL _ _);refine bxL HL 26 (.tmp 2) (qc.toArray) ?_)
 intro b5 w2 hk HL;replace HPT:=pK HPT hk;replace HQT:=pK HQT hk;replace HKI:=O (KI.keep0 HKI.out hk);clear hk
 go_wp2_with ((with_reducible show WL _ _);first
  | refine wpList_load_mid rfl 26 (.tmp 4) rfl b4 0 rfl pc _ (aD (HL.out.b 1)) aF rfl (szP9 hpc) ?_
  | refine wpList_load_mid rfl 26 (.tmp 5) rfl b5 0 rfl qc _ (aD (HL.out.b 0)) aF rfl (szP9 hqc) ?_
  | refine OE 42 26 (.tmp 17) (.tmp 18) Tryz.underlying42 oG (by omega) pc qc hpc hqc (by omega) ?_)
 intro b19 w3 hbs hk hb;replace HL:=lW HL hbs hk hb;replace HPT:=pK HPT hk;replace HQT:=pK HQT hk;replace HKI:=O (KI.keep0 HKI.out hk);clear hbs hk hb;go_wp2_with fail
 refine((D6 HKI.out (g:=b19) (n:=2) (by omega) (fun k=>if k=0 then pv else qv) (fun k=>if k=0 then p else q) ⟨fun k hk=>by
  have:k=0\/k=1:=by omega
  rcases this with rfl|rfl
  ·exact HPT.out.pt
  ·exact HQT.out.pt,fun k hk=>by
  have:k=0\/k=1:=by omega
  rcases this with rfl|rfl
  ·exact HRT.out.1
  ·exact HRT.out.2,fun k hk=>by
  have h:=HL.out.b 0;have:k=0\/k=1:=by omega
  rcases this with rfl|rfl
  ·show World.rangeAt _ b19 (0*35) (aE pv p)
   rw[HPC.out];exact NX h
  ·show World.rangeAt _ b19 (1*35) (aE qv q)
   rw[HQC.out];exact NY hpc h⟩:Calls _ _ _ w3 (aK w3 (.int .i64 0)))).mono ?_
 rintro e w4 ⟨rfl,hk⟩;replace HL:=kL HL hk;replace HPT:=pK HPT hk;replace HQT:=pK HQT hk;replace HKI:=O (KI.keep0 HKI.out hk);clear hk
 go_wp2_with ((with_reducible show WL _ _);first
  | refine wpList_load_mid rfl 26 (.tmp 4) rfl b4 0 rfl pc _ (aD (HL.out.b 2)) aF rfl (szP9 hpc) ?_
  | refine wpList_load_mid rfl 26 (.tmp 5) rfl b5 0 rfl qc _ (aD (HL.out.b 1)) aF rfl (szP9 hqc) ?_
  | refine bld 87 #[(0,.tmp 24),(1,.tmp 25),(2,.const (.int .i64 3)),(3,.const (.int .i64 0))] [(0,.agg pc.toArray),(1,.agg qc.toArray),(2,.int .i64 3),(3,.int .i64 0)] (.agg xc.toArray) HBP.out ?_
  | refine bsA 88 87 (.tmp 26) Tryz.underlying88 yI (by omega) xc hxc (by omega) ?_)
 intro b27 w5 hbs hk hb;have HGE:=O (show w.heap.size≤b27 from by have h:=HL.out.keep.size;omega);have HHS:=O (show w4.heap.size=b27 from hbs);replace HL:=kL HL hk;have HB27:=O hb;replace HPT:=pK HPT hk;replace HQT:=pK HQT hk;replace HKI:=O (KI.keep0 HKI.out hk)
 have HST:Hid (∃es ns,UnI w c S B (unl 3 s t 0) w5 (.slice (some ⟨b27,0,none⟩) 1 1) (.slice none 0 0) es ns):=O ⟨[⟨s,t,pv,qv,3,0⟩],[],HL.out.keep,HKI.out,by
  refine⟨by rw[List.flatMap_cons,List.flatMap_nil,List.append_nil];show (fF pv qv s.ptr t.ptr 3 0).length=1*72;rw[HPE.out,HQE.out,HXC.out,hxc],.inr ⟨b27,1,xc.toArray,rfl,HGE.out,hb,Nat.le_refl _,by unfold maxLen;omega,by rw[List.size_toArray,hxc],?_⟩⟩;rw[List.flatMap_cons,List.flatMap_nil,List.append_nil];show xc.take 72=fF pv qv s.ptr t.ptr 3 0;rw[HPE.out,HQE.out,HXC.out,←hxc,List.take_length],World.ownsRow_nil _ _ _ _,fun i hi e=>(by cases e),fun e he=>by
  rw[List.mem_singleton] at he;subst he;refine⟨HTS.out,HTT.out,Nat.le_refl _,by show 0+4 ^ 3≤64;decide,by show aX _ B pv s.ptr;rw[HPE.out];exact HPT.out,by show aX _ B qv t.ptr;rw[HQE.out];exact HQT.out,fun i hi=>⟨fun e=>?_,fun e=>by cases e⟩⟩;have e2:b27=i:=Option.some.inj e
  have h1:i<w5.heap.size/\i≠b27:=by
   rcases hi with hi|hi
   ·have h2:=HPB.out i hi;have h3:=HGE.out;exact⟨by have h4:=lt_of_block hb;omega,by omega⟩
   ·have h2:=HQB.out i hi;have h3:=HGE.out;exact⟨by have h4:=lt_of_block hb;omega,by omega⟩
  exact h1.2 e2.symm,by rw[List.nil_append];show ([⟨s,t,pv,qv,3,0⟩]:List Ent).flatMap lI=_;rw[List.flatMap_cons,List.flatMap_nil,List.append_nil];rfl,Nat.le_refl 85,HBLW.out⟩
 clear hbs hk hb HL HKI HPT HQT HB27;go_wp2_with fail
 go_loopw [9,10] (fun o k wr=>∃(oa:Option Addr) (on oc:Nat) (ka:Option Addr) (kn kc:Nat),o=.slice oa on oc/\k=.slice ka kn kc/\Hid (∃es ns,UnI w c S B (unl 3 s t 0) wr (.slice ka kn kc) (.slice oa on oc) es ns)) (fun o k wr=>jV (fun es=>∃ns,UnI w c S B (unl 3 s t 0) wr k o es ns) wtE)
 case atStart=>exact⟨none,0,0,some ⟨b27,0,none⟩,1,1,rfl,rfl,HST⟩
 case round =>
  obtain⟨oa,on,oc,ka,kn,kc,rfl,rfl,HU⟩:=hrel;obtain⟨es0,ns0,hU0⟩:=HU.out;obtain⟨es,⟨ns,hU⟩,hWT⟩:=JA (R:=fun es=>∃ns,UnI w c S B (unl 3 s t 0) wr (.slice ka kn kc) (.slice oa on oc) es ns) (wt:=wtE) (a:=es0) ⟨ns0,hU0⟩;have HWT:=O hWT;have hon:on=ns.length:=(Rd.of_owns hU.out).slice_len;have hkn:kn=es.length:=(Rd.of_owns hU.stk).slice_len;have HON:=O hon;clear HU hU0 hWT hon;rcases List.eq_nil_or_concat es with rfl|⟨es,e,rfl⟩
  ·have hk0:kn=0:=hkn
   clear hkn;subst hk0
   have HP:Hid (fL w (unl 3 s t 0) (.returned (.tuple #[.slice oa on oc,.int .i64 0])) wr):=O (by
    have h1:=hU.tot;rw[List.reverse_nil,List.flatMap_nil,List.append_nil] at h1;rw[←h1];exact⟨_,rfl,hU.out,hU.keep⟩)
   clear hU;go_wp2
   go_ret2
   exact HP.out
  ·rw[List.concat_eq_append] at hU hkn HWT
   rw[List.length_append,List.length_singleton] at hkn;obtain⟨n,hn⟩:∃n,es.length=n:=⟨_,rfl⟩
   have HNE:=O hn;rw[hn] at hkn;subst hkn;clear hn;obtain⟨g,rfl,hxr,hnk,hkm,hk63⟩:=hU.top;rw[HNE.out] at hxr hnk;have HPU:=O (hU.pops HNE.out);have HPR:=O (hU.pops HNE.out);have htop:=(hU.pops HNE.out).top;have hwtn:=AU es;have hwt85:=hU.wt;rw[pG] at hwt85;rw[HNE.out] at hwtn;have hn85:n≤85:=by omega
   have HWS:Hid (wtE (es++[e])=wtE es+nA e.l):=O (by rw[pG];unfold wtE;simp);clear hwtn hwt85 hU;obtain⟨p1,hp1⟩:∃p,e.s.ptr=p:=⟨_,rfl⟩
   obtain⟨q1,hq1⟩:∃p,e.t.ptr=p:=⟨_,rfl⟩
   obtain⟨sv,hsv⟩:∃v,e.sv=v:=⟨_,rfl⟩
   obtain⟨tv,htv⟩:∃v,e.tv=v:=⟨_,rfl⟩
   obtain⟨l,hl⟩:∃l,e.l=l:=⟨_,rfl⟩
   obtain⟨a,ha⟩:∃a,e.a=a:=⟨_,rfl⟩
   have HE:=O (And.intro hp1 (And.intro hq1 (And.intro hsv (And.intro htv (And.intro hl ha)))));have hsp:=htop.sp;have htp:=htop.tp;have ha64:=htop.a64;rw[hsv,hp1] at hsp;rw[htv,hq1] at htp;rw[ha,hl] at ha64;have HSP:=O hsp;have HTP:=O htp;have HS12:Hid (p1.sum.length=32/\q1.sum.length=32):=O ⟨hsp.pt.sum,htp.pt.sum⟩;have hxc:(fF sv tv p1 q1 (l:Int) (a:Int)).length=72:=tN hsp.pt.sum htp.pt.sum;have HEC:Hid (iN e=fF sv tv p1 q1 (l:Int) (a:Int)):=O (by unfold iN;rw[hsv,htv,hp1,hq1,hl,ha]);rw[HEC.out] at hxr;obtain⟨xc,hxce⟩:∃x,fF sv tv p1 q1 (l:Int) (a:Int)=x:=⟨_,rfl⟩
   have HOX:Hid (∀u∈xc,u.oneCell'=true):=O (by rw[←hxce];exact D3 hsp.pt htp.pt);have HXC:=O hxce;rw[hxce] at hxr hxc;have HXR:=O hxr;obtain⟨pc,hpce⟩:∃x,aE sv p1=x:=⟨_,rfl⟩
   obtain⟨qc,hqce⟩:∃x,aE tv q1=x:=⟨_,rfl⟩
   have HPC:=O hpce;have HQC:=O hqce;have hpc:pc.length=35:=by rw[←hpce];exact aI hsp.pt.sum
   have hqc:qc.length=35:=by rw[←hqce];exact aI htp.pt.sum
   have HOP:Hid (∀u∈pc,u.oneCell'=true):=O (by rw[←hpce];exact aO hsp.pt);have HOQ:Hid (∀u∈qc,u.oneCell'=true):=O (by rw[←hqce];exact aO htp.pt);have HTR:Hid (Tr.Ok S l e.s/\Tr.Ok S l e.t/\l≤3):=O (by rw[←hl];exact⟨htop.s,htop.t,htop.l3⟩);have HA64:=O ha64;have ha100:a≤64:=Nat.le_trans (Nat.le_add_right _ _) ha64;have hl3:l≤3:=HTR.out.2.2;have HL:=lN wr;have hn0:(0:Int)<(n:Int)+1:=by omega
   clear htop hp1 hq1 hsv htv hl ha hsp htp ha64 hxr hxce hpce hqce
   go_wp2_with ((with_reducible show WL _ _);first
    | refine wpList_load_mid rfl 87 (.tmp 35) rfl g (n*72) rfl xc _ HXR.out Tryz.underlying87 rfl (by rw[hxc];exact JG) ?_
    | refine al 87 (.agg sA.toArray) (sA.toArray) NW ?_)
   intro b11 w7 hbs hk0 hb0_
   go_wp2_with ((with_reducible show WL _ _);refine sta 87 (.tmp 11) (.tmp 36) b11 0 xc hb0_ (by first|decide|(rw[List.size_toArray,hxc];exact Nat.le_refl _)|simp[hxc,Ai]) (by rw[hxc];exact JG) HOX.out ?_)
   intro w8 hk hb;rw[aJ _ _ (by first|rfl|(rw[List.size_toArray,hxc];rfl)|simp[hxc,Ai])] at hb;replace hk:=tX hk0 hk (fun i hi e=>by omega);replace HL:=lW HL hbs hk hb;replace HPU:=O (HPU.out.keep0 hk);replace HSP:=pK HSP hk;replace HTP:=pK HTP hk;replace HXR:=O (hk.rangeAt HXR.out);clear hbs hk hb hk0 hb0_;clear HXR
   go_wp2_with ((with_reducible show WL _ _);first
    | refine wpList_load_mid rfl 26 (.tmp 42) rfl b11 0 rfl pc _ (by rw[←HPC.out];exact JB (by have h:=HL.out.b 0;rw[←HXC.out] at h;exact h)) aF rfl (szP9 hpc) ?_
    | refine wpList_load_mid rfl 26 (.tmp 44) rfl b11 35 rfl qc _ (by rw[←HQC.out];exact JC HS12.out.1 (by have h:=HL.out.b 0;rw[←HXC.out] at h;exact h)) aF rfl (szP9 hqc) ?_)
   refine((by rw[←HPC.out,←HQC.out];exact zC w8 sv tv p1 q1 HSP.out.pt HTP.out.pt:Calls _ _ _ w8 (aW w8 (p1.eqB q1)))).mono ?_;rintro e w9 ⟨rfl,hk⟩;replace HL:=kL HL hk;replace HPU:=O (HPU.out.keep0 hk);replace HSP:=pK HSP hk;replace HTP:=pK HTP hk;clear hk;obtain⟨eb,heb⟩:∃b,p1.eqB q1=b:=⟨_,rfl⟩
   rw[heb];have HEB:=O heb;clear heb;cases eb with
   | true =>
     have HUN:Hid (UnI w c S B (unl 3 s t 0) w9 (.slice (some ⟨g,0,none⟩) n kc) (.slice oa on oc) es ns):=O (HPU.out.skip (by
      have h:=HE.out;unfold lI;have e1:e.s.ptr.eqB e.t.ptr=true:=by rw[h.1,h.2.1];exact HEB.out
      cases e.l with
      | zero=>rw[mY,e1];rfl
      | succ l=>rw[gT,e1];rfl))
     have HNX:Hid (∃es_ ns_,UnI w c S B (unl 3 s t 0) w9 (.slice (some ⟨g,0,none⟩) n kc) (.slice oa on oc) es_ ns_):=O ⟨_,_,HUN.out⟩
     have HLT:Hid (jV (fun es_=>∃ns_,UnI w c S B (unl 3 s t 0) w9 (.slice (some ⟨g,0,none⟩) n kc) (.slice oa on oc) es_ ns_) wtE<jV (fun es=>∃ns,UnI w c S B (unl 3 s t 0) wr (.slice (some ⟨g,0,none⟩) (n+1) kc) (.slice oa on oc) es ns) wtE):=O (by
      rw[HWT.out,HWS.out];refine Nat.lt_of_le_of_lt (vP (a:=es) ⟨_,HUN.out⟩) ?_;have:=yH e.l;omega)
     clear HUN HPU HSP HTP HL;go_wp2
     go_roundw
     case rel=>exact⟨oa,on,oc,some ⟨g,0,none⟩,n,kc,rfl,rfl,HNX⟩
     case measure=>exact HLT.out
   | false =>
     rcases l with _|l
     ·have c1:w9.cell? ⟨b11,70,none⟩=some (.int .i64 0):=(rY HS12.out.1 HS12.out.2 (by have h:=HL.out.b 0;rw[←HXC.out] at h;exact h))
      have c2:w9.cell? ⟨b11,71,none⟩=some (.int .i64 (a:Int)):=(JD HS12.out.1 HS12.out.2 (by have h:=HL.out.b 0;rw[←HXC.out] at h;exact h))
      go_wp2_with ((with_reducible show WL _ _);refine bs1 35 3 (.tmp 52) (.int .i64 (a:Int)) (by kernel_rfl) (by kernel_rfl) Tryz.underlying35 rfl ?_)
      clear c1 c2;intro b53 wa hbs hk hb;have HRN:Hid (Rd wa 1 (.slice (some ⟨b53,0,none⟩) 1 1) 1 [.int .i64 (a:Int)]):=O (dX (n:=1) (size:=1) hb rfl (by unfold maxLen;omega));have HPV:=HPU;have HKX:=O hk;replace HPU:=O (HPU.out.keep0 hk);clear hbs hk hb HL
      have HTL:Hid (lI e=[e.a]):=O (by
       have h:=HE.out;unfold lI;rw[h.2.2.2.2.1,mY,h.1,h.2.1,HEB.out];rfl)
      have HNS:Hid (ns.length+1≤100):=O (by
       have h1:=congrArg List.length HPU.out.tot;have h2:=rZ (l:=3) (s:=s) (t:=t) (a:=0);rw[List.length_append,HTL.out,List.length_append,List.length_singleton] at h1;have h3:4 ^ 3=64:=rfl;omega)
      have HBS:Hid (ns.length+1≤maxLen/\(ns.length+1)*8≤140737488355328/\w.heap.size≤wa.heap.size):=O ⟨by have:=HNS.out;unfold maxLen;omega,by have:=HNS.out;omega,HPU.out.keep.size⟩
      go_wp2_with (at_builtin;refine aN rfl (.tmp 50) (.tmp 53) 35 rfl w.heap.size 3 (.int .i64 0) 1 8 Tryz.underlying35 DZ rfl (by decide) (.slice oa on oc) ns.length (lH ns) rfl HPU.out.out (.slice (some ⟨b53,0,none⟩) 1 1) 1 [.int .i64 (a:Int)] rfl HRN.out (by intro u hu;rcases List.mem_singleton.1 hu with rfl;rfl) HBS.out.1 HBS.out.2.1 HBS.out.2.2 ?_)
      intro v2 w8 ho5 hk5 hn5 hb5;obtain⟨oa2,oc2,rfl,-,-⟩:=(Rd.of_owns ho5).form
      have HUN:Hid (UnI w c S B (unl 3 s t 0) w8 (.slice (some ⟨g,0,none⟩) n kc) (.slice oa2 (ns.length+1) oc2) es (ns++[e.a])):=O (by
       have h:=HE.out;refine UnP.tell HPU.out HTL.out (aA.refl _ _) ?_ hk5 hb5;rw[h.2.2.2.2.2];exact ho5)
      have HNX:Hid (∃es_ ns_,UnI w c S B (unl 3 s t 0) w8 (.slice (some ⟨g,0,none⟩) n kc) (.slice oa2 (ns.length+1) oc2) es_ ns_):=O ⟨_,_,HUN.out⟩
      have HLT:Hid (jV (fun es_=>∃ns_,UnI w c S B (unl 3 s t 0) w8 (.slice (some ⟨g,0,none⟩) n kc) (.slice oa2 (ns.length+1) oc2) es_ ns_) wtE<jV (fun es=>∃ns,UnI w c S B (unl 3 s t 0) wr (.slice (some ⟨g,0,none⟩) (n+1) kc) (.slice oa on oc) es ns) wtE):=O (by
       rw[HWT.out,HWS.out];refine Nat.lt_of_le_of_lt (vP (a:=es) ⟨_,HUN.out⟩) ?_;have:=yH e.l;omega)
      clear HUN HPU HPV HSP HTP ho5 hk5 hn5 hb5 HRN HKX;go_wp2
      go_roundw
      case rel=>exact⟨oa2,ns.length+1,oc2,some ⟨g,0,none⟩,n,kc,rfl,rfl,HNX⟩
      case measure=>exact HLT.out
     ·have hlz:(((l:Int)+1) == 0)=false:=by rw[beq_eq_false_iff_ne];omega
      have hlz2:¬((l:Int)+1=0):=by omega
      have hl2:l≤2:=by omega
      have c1:w9.cell? ⟨b11,70,none⟩=some (.int .i64 ((l+1:Nat):Int)):=(rY HS12.out.1 HS12.out.2 (by have h:=HL.out.b 0;rw[←HXC.out] at h;exact h))
      have c2:w9.cell? ⟨b11,70,none⟩=some (.int .i64 ((l+1:Nat):Int)):=(rY HS12.out.1 HS12.out.2 (by have h:=HL.out.b 0;rw[←HXC.out] at h;exact h))
      go_wp2_with ((with_reducible show WL _ _);refine wpList_load_mid rfl 26 (.tmp 57) rfl b11 0 rfl pc _ (by rw[←HPC.out];exact JB (by have h:=HL.out.b 0;rw[←HXC.out] at h;exact h)) aF rfl (szP9 hpc) ?_)
      clear c1 c2;have HZ61:=O (And.intro HL.out.keep.size (show w9.heap.size≤w9.heap.size from Nat.le_refl _));refine((by rw[←HPC.out,←HE.out.1];exact qT HPU.out.ki hl2 sv e.s HTR.out.1 (by rw[HE.out.1];exact HSP.out.pt):Calls _ _ _ w9 (eI w9 B l e.s))).mono ?_;rintro e wb ⟨vs,rfl,hvs,hnew,hk⟩;have HNvs:=O hvs;have HBvs:Hid (∀q,q<4->∀i,(vs q).ownBlock=some i->w9.heap.size≤i):=O hnew;have hnn:=dI ((l+1:Nat):Int) vs hvs.nv;have HO0:=cV ((l+1:Nat):Int) hvs.nv;obtain⟨nn,hnne⟩:∃x,bV ((l+1:Nat):Int) vs (fun i=>(e.s.kid i).ptr)=x:=⟨_,rfl⟩
      have HON:Hid (∀u∈nn,u.oneCell'=true):=O (by rw[←hnne];exact HO0);have HFN:=O hnne;rw[hnne] at hnn ⊢;clear HO0 hnne hvs hnew;replace HL:=kL HL hk;replace HPU:=O (HPU.out.keep0 hk);replace HSP:=pK HSP hk;replace HTP:=pK HTP hk;clear hk
      go_wp2_with ((with_reducible show WL _ _);refine al 92 (.agg cL.toArray) (cL.toArray) iA ?_)
      intro b12 wc hbs hk0 hb0_
      go_wp2_with ((with_reducible show WL _ _);refine sta 92 (.tmp 12) (.tmp 62) b12 0 nn hb0_ (by first|decide|(rw[List.size_toArray,hnn];exact Nat.le_refl _)|simp[hnn,bK]) (by rw[hnn];exact cX) HON.out ?_)
      intro wd hk hb;rw[aJ _ _ (by first|rfl|(rw[List.size_toArray,hnn];rfl)|simp[hnn,bK])] at hb;replace hk:=tX hk0 hk (fun i hi e=>by omega);have HNb12:=O (show wb.heap.size≤b12 from Nat.le_of_eq hbs);replace HL:=lW HL hbs hk hb;replace HPU:=O (HPU.out.keep0 hk);replace HSP:=pK HSP hk;replace HTP:=pK HTP hk;replace HNvs:=O (bR.keep0 HNvs.out hk);clear hbs hk hb hk0 hb0_;have c1:wd.cell? ⟨b11,70,none⟩=some (.int .i64 ((l+1:Nat):Int)):=(rY HS12.out.1 HS12.out.2 (by have h:=HL.out.b 1;rw[←HXC.out] at h;exact h))
      go_wp2_with ((with_reducible show WL _ _);refine wpList_load_mid rfl 26 (.tmp 69) rfl b11 35 rfl qc _ (by rw[←HQC.out];exact JC HS12.out.1 (by have h:=HL.out.b 1;rw[←HXC.out] at h;exact h)) aF rfl (szP9 hqc) ?_)
      clear c1;have HZ73:=O (And.intro HL.out.keep.size (show wd.heap.size≤wd.heap.size from Nat.le_refl _));refine((by rw[←HQC.out,←HE.out.2.1];exact qT HPU.out.ki hl2 tv e.t HTR.out.2.1 (by rw[HE.out.2.1];exact HTP.out.pt):Calls _ _ _ wd (eI wd B l e.t))).mono ?_;rintro e we ⟨us,rfl,hvs,hnew,hk⟩;have HNus:=O hvs;have HBus:Hid (∀q,q<4->∀i,(us q).ownBlock=some i->wd.heap.size≤i):=O hnew;have hmm:=dI ((l+1:Nat):Int) us hvs.nv;have HO0:=cV ((l+1:Nat):Int) hvs.nv;obtain⟨mm,hnne⟩:∃x,bV ((l+1:Nat):Int) us (fun i=>(e.t.kid i).ptr)=x:=⟨_,rfl⟩
      have HOM:Hid (∀u∈mm,u.oneCell'=true):=O (by rw[←hnne];exact HO0);have HFM:=O hnne;rw[hnne] at hmm ⊢;clear HO0 hnne hvs hnew;replace HL:=kL HL hk;replace HPU:=O (HPU.out.keep0 hk);replace HSP:=pK HSP hk;replace HTP:=pK HTP hk;replace HNvs:=O (bR.keep0 HNvs.out hk);clear hk
      go_wp2_with ((with_reducible show WL _ _);refine al 92 (.agg cL.toArray) (cL.toArray) iA ?_)
      intro b14 wf hbs hk0 hb0_
      go_wp2_with ((with_reducible show WL _ _);refine sta 92 (.tmp 14) (.tmp 74) b14 0 mm hb0_ (by first|decide|(rw[List.size_toArray,hmm];exact Nat.le_refl _)|simp[hmm,bK]) (by rw[hmm];exact cX) HOM.out ?_)
      intro wg hk hb;rw[aJ _ _ (by first|rfl|(rw[List.size_toArray,hmm];rfl)|simp[hmm,bK])] at hb;replace hk:=tX hk0 hk (fun i hi e=>by omega);have HNb14:=O (show we.heap.size≤b14 from Nat.le_of_eq hbs);replace HL:=lW HL hbs hk hb;replace HPU:=O (HPU.out.keep0 hk);replace HSP:=pK HSP hk;replace HTP:=pK HTP hk;replace HNvs:=O (bR.keep0 HNvs.out hk);replace HNus:=O (bR.keep0 HNus.out hk);clear hbs hk hb hk0 hb0_;go_wp2_with fail
      have HQS:Hid (UnQ w c S B (unl 3 s t 0) wg (.slice (some ⟨g,0,none⟩) n kc) (.slice oa on oc) es e l ns vs us b11 b12 b14 0):=O (by
       have h:=HE.out;have hst:∀i,(Value.slice (some ⟨g,0,none⟩) n kc).ownBlock=some i->i<wr.heap.size:=fun i hi=>by (obtain⟨cur,hc⟩:=aL HPR.out.stk hi;exact lt_of_block hc)
       have hot:∀i,(Value.slice oa on oc).ownBlock=some i->i<wr.heap.size:=fun i hi=>by (obtain⟨cur,hc⟩:=aL HPR.out.out hi;exact lt_of_block hc)
       have g11:=(HL.out.lt 2).1;have g12:=(HL.out.lt 1).1;have g14:=(HL.out.lt 0).1;have z1:=HZ61.out.1;have z2:=HZ73.out.1;have h0:=HPU.out;have hle:e.l=l+1:=h.2.2.2.2.1;refine⟨h0.keep,h0.ki,?_,h0.out,fun i hi=>⟨h0.ap i hi,?_,?_,?_⟩,fun y hy=>h0.ents y (by rw[show gC e l vs us 0=[] from rfl,List.append_nil] at hy;exact hy),HNvs.out,HNus.out,fun q hq i hi=>⟨fun e1=>?_,fun e1=>?_⟩,?_,?_,?_,hle,HTR.out.1,HTR.out.2.1,hl2,by rw[h.2.2.2.2.2];exact HA64.out,by rw[h.1,h.2.1];exact HEB.out,h0.tot,h0.wt,h0.bl⟩
       ·rw[show gC e l vs us 0=[] from rfl,List.append_nil,Nat.add_zero]
        exact h0.stk
       ·have:=hst i hi;omega
       ·have:=hst i hi;omega
       ·have:=hst i hi;omega
       ·have h3:=hst i e1
        exact hi.elim (fun hi=>by have:=HBvs.out q hq i hi;omega) fun hi=>by have:=HBus.out q hq i hi;omega
       ·have h3:=hot i e1
        exact hi.elim (fun hi=>by have:=HBvs.out q hq i hi;omega) fun hi=>by have:=HBus.out q hq i hi;omega
       ·have h4:=HL.out.b 2
        rw[HEC.out,HXC.out];exact h4
       ·have h4:=HL.out.b 1
        rw[←HFN.out] at h4;exact h4
       ·have h4:=HL.out.b 0
        rw[←HFM.out] at h4;exact h4)
      have HLTG:=O (fun(kv':Value) (w9:World) (es':List Ent) (ns':List Nat) (h:UnI w c S B (unl 3 s t 0) w9 kv' (.slice oa on oc) es' ns') (hw:wtE es'<wtE es+nA e.l)=>show jV (fun es=>∃ns,UnI w c S B (unl 3 s t 0) w9 kv' (.slice oa on oc) es ns) wtE<jV (fun es=>∃ns,UnI w c S B (unl 3 s t 0) wr (.slice (some ⟨g,0,none⟩) (n+1) kc) (.slice oa on oc) es ns) wtE from by
       rw[HWT.out,HWS.out];exact Nat.lt_of_le_of_lt (vP (a:=es') ⟨_,h⟩) hw)
      clear HL HPU HSP HTP HNvs HNus
      go_loopw [10,15] (fun kk i wq=>∃(k j kn:Nat) (ka:Option Addr) (kc:Nat) (ij:Int),k+j=4/\ij=(j:Int)-1/\i=.int .i64 ij/\kk=.slice ka kn kc/\Hid (UnQ w c S B (unl 3 s t 0) wq (.slice ka kn kc) (.slice oa on oc) es e l ns vs us b11 b12 b14 k)) (fun _ i _=>(intOf i+1).toNat)
      case atStart=>exact⟨0,4,n,some ⟨g,0,none⟩,kc,3,rfl,rfl,rfl,rfl,HQS⟩
      case round =>
       obtain⟨k,j1,kn,ka,kc2,ij,hkj,hij,rfl,rfl,HQ⟩:=hrel;rcases j1 with _|j
       ·obtain rfl:k=4:=by omega
        obtain rfl:ij=-1:=by omega
        have HFI:=O HQ.out.fin;have HUN:=O HFI.out.1;have HNX:Hid (∃es ns,UnI w c S B (unl 3 s t 0) wr (.slice ka kn kc2) (.slice oa on oc) es ns):=O ⟨_,_,HUN.out⟩;have HLT:=O (HLTG.out _ _ _ _ HUN.out HFI.out.2);clear HUN HQ HFI hij hkj;go_wp2
        go_roundw
        case rel=>exact⟨oa,on,oc,ka,kn,kc2,rfl,rfl,HNX⟩
        case measure=>exact HLT.out
       ·obtain rfl:ij=(j:Int):=by omega
        have hkj3:k+j=3:=by omega
        have hj4:j<4:=by omega
        have hj0:(0:Int)≤(j:Int):=by omega
        have hj1:(j:Int)<4:=by omega
        clear hij hkj;have HKJ:=O hkj3;have HVJ:=O (HQ.out.vs_ j hj4);have HUJ:=O (HQ.out.us_ j hj4);have hrx:=lE HQ.out.vs_.nv (aD HQ.out.h12) hj4;have htx:=lE HQ.out.us_.nv (aD HQ.out.h14) hj4;have h11:=HQ.out.h11;rw[HEC.out] at h11;have H7:=O (rY HS12.out.1 HS12.out.2 h11);have H8:=O (JD HS12.out.1 HS12.out.2 h11);have HNI:=O (show ¬(Value.slice ka kn kc2).ownBlock=some b11/\¬(Value.slice ka kn kc2).ownBlock=some b12/\¬(Value.slice ka kn kc2).ownBlock=some b14 from⟨fun e=>(HQ.out.ap _ e).2.1 rfl,fun e=>(HQ.out.ap _ e).2.2.1 rfl,fun e=>(HQ.out.ap _ e).2.2.2 rfl⟩);obtain⟨W,hW⟩:∃W:Nat,4 ^ l=W:=⟨_,rfl⟩
        have HW:=O hW
        have hW16:W≤16:=by
         have:l=0\/l=1\/l=2:=by omega
         rcases this with rfl|rfl|rfl<;>omega
        obtain⟨jw,hjw⟩:∃q:Nat,j*W=q:=⟨_,rfl⟩
        have hjw48:jw≤48:=by rw[←hjw];exact Nat.le_trans (Nat.mul_le_mul (by omega:j≤3) hW16) (by decide)
        have hjwi:(j:Int)*(W:Int)=(jw:Int):=by rw[←hjw];push_cast;rfl
        obtain⟨aj,haj⟩:∃q,a+jw=q:=⟨_,rfl⟩
        have haji:(a:Int)+(jw:Int)=(aj:Int):=by omega
        have HKE:Hid (iN (D4 e l vs us j)=fF (vs j) (us j) (e.s.kid j).ptr (e.t.kid j).ptr (l:Int) (aj:Int)):=O (by
         show fF (vs j) (us j) (e.s.kid j).ptr (e.t.kid j).ptr (l:Int) ((e.a+j*4 ^ l:Nat):Int)=_;rw[HE.out.2.2.2.2.2,hW,hjw,haj])
        have hbq:=BO (vs j) (us j) (e.s.kid j).ptr (e.t.kid j).ptr (l:Int) (aj:Int) HVJ.out.pt.sum HUJ.out.pt.sum;have hyc:(fF (vs j) (us j) (e.s.kid j).ptr (e.t.kid j).ptr (l:Int) (aj:Int)).length=72:=tN HVJ.out.pt.sum HUJ.out.pt.sum;obtain⟨yc,hyce⟩:∃x,fF (vs j) (us j) (e.s.kid j).ptr (e.t.kid j).ptr (l:Int) (aj:Int)=x:=⟨_,rfl⟩
        have HOY:Hid (∀u∈yc,u.oneCell'=true):=O (by rw[←hyce];exact D3 HVJ.out.pt HUJ.out.pt);have HYC:=O hyce;obtain⟨rc,hrce⟩:∃x,aE (vs j) (e.s.kid j).ptr=x:=⟨_,rfl⟩
        obtain⟨tc,htce⟩:∃x,aE (us j) (e.t.kid j).ptr=x:=⟨_,rfl⟩
        have hrc:rc.length=35:=by rw[←hrce];exact aI HVJ.out.pt.sum
        have htc:tc.length=35:=by rw[←htce];exact aI HUJ.out.pt.sum
        rw[hrce] at hrx hbq;rw[htce] at htx hbq;rw[hyce] at hbq hyc;have HBQ:=O hbq;have HRX:=O hrx;have HTX:=O htx;have HL:=lN wr
        have HES:Hid (es.length+k+1≤100):=O (by
         have h1:=AU es;have h2:=HQ.out.wt;omega)
        clear hrx htx h11 hW hjw haj hbq hyce hrce htce;go_wp2_with fail;refine dwA (fun i=>(Value.slice ka kn kc2).ownBlock=some i) (by kernel_rfl) ?_;intro wr S HSE HSI hS hkd;replace HL:=kL HL hkd;replace HQ:=O (HQ.out.keep0 hkd);replace HRX:=O (hkd.rangeAt HRX.out);replace HTX:=O (hkd.rangeAt HTX.out);replace H7:=O (hkd.cell H7.out id);replace H8:=O (hkd.cell H8.out id);clear hkd;have HLs:=HL;have HQs:=HQ;have HRXs:=HRX;have HTXs:=HTX;have H7s:=H7;have H8s:=H8;refine tna 0 (.slice ka kn kc2) rfl hS ?_;refine tna 1 (.int .i64 (j:Int)) rfl hS ?_;refine tnb 2 (.pointer (some ⟨b12,1,none⟩)) rfl hS ?_;refine tnd 3 (.pointer (some ⟨b12,1+j*35,none⟩)) rfl (.inl ⟨by rfl,fun _ _=>by go_simp<;>omega⟩) hS ?_;refine tnd 4 (.agg rc.toArray) rfl (yieldsIf_load_mid (by rfl) 26 (.tmp 86) rfl b12 (1+j*35) rfl rc _ (fun w' h=>(HSE.out w' h).rangeAt2 HRXs.out HNI.out.2.1) aF rfl (szP9 hrc)) hS ?_;refine tna 5 (.int .i64 (j:Int)) rfl hS ?_;refine tnb 6 (.pointer (some ⟨b14,1,none⟩)) rfl hS ?_;refine tnd 7 (.pointer (some ⟨b14,1+j*35,none⟩)) rfl (.inl ⟨by rfl,fun _ _=>by go_simp<;>omega⟩) hS ?_;refine tnd 8 (.agg tc.toArray) rfl (yieldsIf_load_mid (by rfl) 26 (.tmp 90) rfl b14 (1+j*35) rfl tc _ (fun w' h=>(HSE.out w' h).rangeAt2 HTXs.out HNI.out.2.2) aF rfl (szP9 htc)) hS ?_;refine tnb 9 (.pointer (some ⟨b11,70,none⟩)) rfl hS ?_;refine tnd 10 (.int .i64 ((l+1:Nat):Int)) rfl (.inl ⟨by rfl,fun w' hw'=>by have c:World.cell? w' ⟨b11,70,none⟩=some (.int .i64 ((l+1:Nat):Int)):=(HSE.out w' hw').cell H7s.out HNI.out.1;go_simp⟩) hS ?_;refine tnd 11 (.int .i64 (l:Int)) rfl (.inl ⟨by rfl,fun _ _=>by go_simp;exact IntWalk.i64_in _ (by omega)⟩) hS ?_;refine tnb 12 (.pointer (some ⟨b11,71,none⟩)) rfl hS ?_;refine tnd 13 (.int .i64 (a:Int)) rfl (.inl ⟨by rfl,fun w' hw'=>by have c:World.cell? w' ⟨b11,71,none⟩=some (.int .i64 (a:Int)):=(HSE.out w' hw').cell H8s.out HNI.out.1;go_simp⟩) hS ?_;refine tna 14 (.int .i64 (j:Int)) rfl hS ?_;refine tnb 15 (.pointer (some ⟨b11,70,none⟩)) rfl hS ?_;refine tnd 16 (.int .i64 ((l+1:Nat):Int)) rfl (.inl ⟨by rfl,fun w' hw'=>by have c:World.cell? w' ⟨b11,70,none⟩=some (.int .i64 ((l+1:Nat):Int)):=(HSE.out w' hw').cell H7s.out HNI.out.1;go_simp⟩) hS ?_;refine tnd 17 (.int .i64 (l:Int)) rfl (.inl ⟨by rfl,fun _ _=>by go_simp;exact IntWalk.i64_in _ (by omega)⟩) hS ?_;refine wA9 18 ?_;go_wp2_with fail;refine((by rw[←HW.out];exact tJ wr l (by omega):Calls _ _ _ wr (aK wr (.int .i64 (W:Int))))).mono ?_;rintro e ws ⟨rfl,hk⟩;have hS1:=HSI.out _ ((HSE.out _ hS).trans hk.any);replace HL:=kL HL hk;replace HQ:=O (HQ.out.keep0 hk);replace HRX:=O (hk.rangeAt HRX.out);replace HTX:=O (hk.rangeAt HTX.out);replace H7:=O (hk.cell H7.out id);replace H8:=O (hk.cell H8.out id);clear hS hk;go_wp2_with fail;refine⟨hS1,?_⟩;refine tnd 19 (.int .i64 (jw:Int)) rfl (.inl ⟨by rfl,fun _ _=>by go_simp;exact IntWalk.i64_in _ (by omega)⟩) hS1 ?_;refine tnd 20 (.int .i64 (aj:Int)) rfl (.inl ⟨by rfl,fun _ _=>by go_simp;exact IntWalk.i64_in _ (by omega)⟩) hS1 ?_;refine tnd 21 (.agg yc.toArray) rfl (eP 87 #[(0,.tmp 87),(1,.tmp 91),(2,.tmp 94),(3,.tmp 103)] [(0,.agg rc.toArray),(1,.agg tc.toArray),(2,.int .i64 (l:Int)),(3,.int .i64 (aj:Int))] (.agg yc.toArray) HBQ.out) hS1 ?_;refine wA9 22 ?_;refine bsA 88 87 (.tmp 104) Tryz.underlying88 yI (by omega) yc hyc (by omega) ?_;intro b105 wt hbs hk hb;have hS2:=HSI.out _ ((HSE.out _ hS1).trans hk.any);have HRN:Hid (Rd wt 72 (.slice (some ⟨b105,0,none⟩) 1 1) 1 yc):=O (dX (n:=1) (size:=72) hb (by rw[hyc]) (by unfold maxLen;omega));replace HL:=kL HL hk;replace HQ:=O (HQ.out.keep0 hk);replace HRX:=O (hk.rangeAt HRX.out);replace HTX:=O (hk.rangeAt HTX.out);replace H7:=O (hk.cell H7.out id);replace H8:=O (hk.cell H8.out id);clear hbs hk hb hS1;refine wpList_nil ?_;refine⟨hS2,?_⟩;refine wA9 23 ?_;have HBS:Hid (es.length+k+1≤maxLen/\(es.length+k+1)*160≤140737488355328/\w.heap.size≤wt.heap.size):=O ⟨by have:=HES.out;unfold maxLen;omega,by have:=HES.out;omega,HQ.out.keep.size⟩;refine aN rfl (.tmp 83) (.tmp 105) 88 rfl w.heap.size 87 (.agg sA.toArray) 72 160 Tryz.underlying88 yI rfl (by decide) (.slice ka kn kc2) (es.length+k) ((es++gC e l vs us k).flatMap iN) rfl HQ.out.stk (.slice (some ⟨b105,0,none⟩) 1 1) 1 yc rfl HRN.out HOY.out HBS.out.1 HBS.out.2.1 HBS.out.2.2 ?_;intro v2 wu ho5 hk5 hn5 hb5;obtain⟨ka3,kc3,rfl,-,-⟩:=(Rd.of_owns ho5).form;have hS3:=HSI.out _ ((HSE.out _ hS2).trans hk5);have HNQ:=O (HQ.out.push (j:=j) HKJ.out (aA.refl _ _) (by rw[HKE.out,HYC.out];exact ho5) hk5 hb5);clear hS2 ho5 hk5 hn5 hb5 HRN HQ HRX HTX H7 H8 HL;refine wpList_nil ?_;refine⟨hS3,?_⟩;refine tna 24 (.slice ka3 (es.length+k+1) kc3) rfl hS3 ?_;refine wpAnyH_done (by kernel_rfl) ?_ _;clear hS3 HSE HSI HLs HQs HRXs HTXs H7s H8s;go_wp2
        go_roundw
        case rel=>exact⟨k+1,j,es.length+k+1,ka3,kc3,(j:Int)-1,by omega,rfl,by go_num,rfl,HNQ⟩
        case measure=>simp[intOf]<;>omega
structure vQ(w:World)(v:Value)(qs:List (Value×Pt)):Prop where
 rd:Rd w 35 v qs.length (qs.flatMap fun x=>aE x.1 x.2)
 at_:∀x∈qs,PtV w x.1 x.2
theorem vQ.keep0{w w':World}{v:Value}{qs:List (Value×Pt)}(h:vQ w v qs)(k:aA aB w w'):vQ w' v qs:=⟨h.rd.keep k fun _ _=>id,fun x hx=>(h.at_ x hx).keep k fun _ _=>id⟩
def gU(qs:List (Value×Pt)):List Ad:=qs.flatMap fun x=>x.2.addrs
theorem BP{qs:List (Value×Pt)}{k:Nat}{x:Value×Pt}(h:qs[k]?=some x):gU (qs.take (k+1))=gU (qs.take k)++x.2.addrs:=by
 unfold gU;rw[List.take_add_one,h,List.flatMap_append];simp
theorem Fx{qs:List (Value×Pt)}(h:∀x∈qs,x.2.addrs.length≤8):(gU qs).length≤8*qs.length:=by
 induction qs with
 | nil=>exact Nat.zero_le _
 | cons x qs ih =>
   have h1:=ih fun y hy=>h y (List.mem_cons_of_mem _ hy)
   have h2:=h x (List.mem_cons_self ..);unfold gU at h1 ⊢;rw[List.flatMap_cons,List.length_append,List.length_cons];omega
theorem vQ.ok{w:World}{v:Value}{qs:List (Value×Pt)}(h:vQ w v qs):jZ (gU qs):=fun a ha=>by
 obtain⟨x,hx,h2⟩:=List.mem_flatMap.1 ha;exact(h.at_ x hx).ads a h2
theorem Nc:(Tryz.prog.info? 56).map (fun i=>(i.zero,i.size,i.bytes))=some (some (.agg #[.int .i64 0,.int .i64 0]),2,16):=by kernel_rfl
theorem G7(w:World)(v:Value)(qs:List (Value×Pt))(h:vQ w v qs)(hq:qs.length≤1000)(h8:∀x∈qs,x.2.addrs.length≤8):Calls Tryz.prog 21 #[v] w (pO w (jC (gU qs))):=by
 obtain⟨va,vc,rfl,-,-⟩:=h.rd.form;obtain⟨q,hqe⟩:∃n,qs.length=n:=⟨_,rfl⟩
 have HQE:=O hqe;have HP:=O h;have H8:=O h8;have HQ:=O hq;rw[hqe] at hq ⊢;clear h h8 hqe;go_in;go_wp2_with fail
 go_loopw [3,8] (fun a i wr=>∃(k m:Nat) (pa:Option Addr) (pc:Nat),k≤q/\i=.int .i64 (k:Int)/\a=.slice pa m pc/\Hid ((gU (qs.take k)).length=m)/\Hid (aA aB w wr)/\Hid (wr.ownsRow w.heap.size 56 2 (.slice pa m pc) m (aS (gU (qs.take k))))) (fun _ i _=>q-(intOf i).toNat)
 case atStart=>exact⟨0,0,none,0,by omega,rfl,rfl,O rfl,O (aA.refl _ _),O (World.ownsRow_nil _ _ _ _)⟩
 case round =>
  obtain⟨k,m,pa,pcap,hk,rfl,rfl,HM,HK,HO⟩:=hrel
  by_cases hk8:k<q
  ·have hk0:(0:Int)≤(k:Int):=by omega
   have hk1:(k:Int)<(q:Int):=by omega
   obtain⟨x,hx⟩:∃x,qs[k]?=some x:=⟨qs[k]'(by rw[HQE.out];exact hk8),List.getElem?_eq_getElem (by rw[HQE.out];exact hk8)⟩
   have hxm:=List.mem_of_getElem? hx;have hP:=HP.out.keep0 HK.out;have hpt:=hP.at_ x hxm;obtain⟨g,o,cap,he,hr⟩:=G5 (f:=fun(x:Value×Pt)=>aE x.1 x.2) (s:=35) (fun y hy=>aI (hP.at_ y hy).sum) (by decide) hP.rd hx;rw[HQE.out] at he;injection he with he1 he2 he3
   subst he1;obtain⟨⟨pv,p⟩,rfl⟩:∃y,y=x:=⟨_,rfl⟩
   have HPT:Hid (PtV wr pv p):=O hpt;have HX:=O hx;have HP8:Hid (p.addrs.length≤8):=O (H8.out _ hxm);have hpc:=aI (v:=pv) hpt.sum;obtain⟨pc,hpce⟩:∃l,aE pv p=l:=⟨_,rfl⟩
   have HOP:Hid (∀u∈pc,u.oneCell'=true):=O (by rw[←hpce];exact aO HPT.out);have HPC:=O hpce;have hr2:wr.rangeAt g (o+k*35) (aE pv p):=hr;rw[hpce] at hr2 hpc;have HR:=O hr2;have HL:=lN wr;clear hx hxm hP hpt hr hr2 hpce he2 he3
   go_wp2_with ((with_reducible show WL _ _);first
    | refine wpList_load_mid rfl 26 (.tmp 10) rfl g (o+k*35) rfl pc _ HR.out aF rfl (szP9 hpc) ?_
    | refine al 26 (.agg aH.toArray) (aH.toArray) bC ?_)
   intro b5 wb hbs hk0 hb0_
   go_wp2_with ((with_reducible show WL _ _);refine sta 26 (.tmp 5) (.tmp 11) b5 0 pc hb0_ (by first|decide|(rw[List.size_toArray,hpc];exact Nat.le_refl _)|simp[hpc,aG]) (szP9 hpc) HOP.out ?_)
   intro wc hk hb;rw[aJ _ _ (by first|rfl|(rw[List.size_toArray,hpc];rfl)|simp[hpc,aG])] at hb;replace hk:=tX hk0 hk (fun i hi e=>by omega);replace HL:=lW HL hbs hk hb;replace HPT:=O (HPT.out.keep hk fun _ _=>id);replace HR:=O (hk.rangeAt HR.out);replace HO:=O (hk.owns HO.out fun _ _=>id);clear hbs hk hb hk0 hb0_;clear HR;obtain⟨pva,pvc,hpv,-,-⟩:=HPT.out.rd.form;subst hpv;have HKY:=O (HK.out.trans HL.out.keep)
   have HMS:Hid (m≤8000):=O (by
    have h1:=Fx (qs:=qs.take k) fun y hy=>H8.out y (List.mem_of_mem_take hy)
    rw[HM.out,List.length_take] at h1;have h2:=HQ.out;omega)
   have HBS:Hid (m+p.addrs.length≤maxLen/\(m+p.addrs.length)*16≤140737488355328/\w.heap.size≤wc.heap.size):=O ⟨by have h1:=HMS.out;have h2:=HP8.out;unfold maxLen;omega,by have h1:=HMS.out;have h2:=HP8.out;omega,HKY.out.size⟩;have c1:wc.cell? ⟨b5,0,none⟩=some (.slice pva p.addrs.length pvc):=(aC (i:=0) (HL.out.b 0) (by rw[←HPC.out];rfl))
   go_wp2_with (first
    | (at_builtin;refine aN rfl (.tmp 12) (.tmp 14) 22 rfl w.heap.size 56 (.agg #[.int .i64 0,.int .i64 0]) 2 16 Tryz.underlying22 Nc rfl (by decide) (.slice pa m pcap) m (aS (gU (qs.take k))) rfl HO.out (.slice pva p.addrs.length pvc) p.addrs.length (aS p.addrs) rfl HPT.out.rd (wT _) HBS.out.1 HBS.out.2.1 HBS.out.2.2 ?_))
   clear c1;intro v2 w8 ho5 hk5 hn5 hb5;obtain⟨pa2,pc2,rfl,-,-⟩:=(Rd.of_owns ho5).form;have HM2:Hid ((gU (qs.take (k+1))).length=m+p.addrs.length):=O (by rw[BP HX.out,List.length_append,HM.out]);have HO2:Hid (w8.ownsRow w.heap.size 56 2 (.slice pa2 (m+p.addrs.length) pc2) (m+p.addrs.length) (aS (gU (qs.take (k+1))))):=O (by rw[BP HX.out,mI];exact ho5);have HK2:=O (HKY.out.trans' hk5 (fun _ _ h=>h) fun i hi e=>by have h1:=aT HO.out e;omega);clear ho5 hk5 hn5 hb5 HO HPT HK HKY HL;go_wp2
   go_roundw
   case rel=>exact⟨k+1,m+p.addrs.length,pa2,pc2,by omega,by go_num,rfl,HM2,HK2,HO2⟩
   case measure=>simp[intOf];omega
  ·obtain rfl:k=q:=by omega
   have HO2:Hid (wr.ownsRow w.heap.size 56 2 (.slice pa m pcap) (gU qs).length (aS (gU qs))):=O (by
    have h1:=HO.out;have h2:=HM.out;rw[List.take_of_length_le (by rw[HQE.out];exact Nat.le_refl _)] at h1 h2;rw[h2];exact h1)
   have HLN:Hid ((gU qs).length≤65536):=O (by
    have h1:=Fx H8.out;have h2:=HQ.out;omega)
   clear HO HM;go_wp2_with fail;refine(JY wr (.slice pa m pcap) (gU qs) HP.out.ok (Rd.of_owns HO2.out) HLN.out).mono ?_;rintro e w9 ⟨v9,rfl,ho,hk⟩;have HR:Hid (pO w (jC (gU qs)) (.returned v9) w9):=O ⟨v9,rfl,aV ho HK.out.size,HK.out.trans hk⟩;clear ho hk HO2;go_wp2;go_ret;exact HR.out
def vR(qs:List (Value×Pt)):List Value:=qs.map fun x=>.int .i64 x.2.level
def Fy(w:World)(qs:List (Value×Pt))(e:Ending)(w':World):Prop:=∃v,e=.returned v/\w'.ownsRow w.heap.size 3 1 v qs.length (vR qs)/\aA aB w w'
theorem Aj(w:World)(v:Value)(qs:List (Value×Pt))(h:vQ w v qs)(hq:qs.length≤1000):Calls Tryz.prog 15 #[v] w (Fy w qs):=by
 obtain⟨va,vc,rfl,-,-⟩:=h.rd.form;obtain⟨q,hqe⟩:∃n,qs.length=n:=⟨_,rfl⟩
 have HQE:=O hqe;have HP:=O h;have HQ:=O hq;rw[hqe] at hq ⊢;clear h hqe;go_in;go_wp2_with fail
 go_loopw [3,4] (fun a i wr=>∃(k:Nat) (pa:Option Addr) (pc:Nat),k≤q/\i=.int .i64 (k:Int)/\a=.slice pa k pc/\Hid (aA aB w wr)/\Hid (wr.ownsRow w.heap.size 3 1 (.slice pa k pc) k (vR (qs.take k)))) (fun _ i _=>q-(intOf i).toNat)
 case atStart=>exact⟨0,none,0,by omega,rfl,rfl,O (aA.refl _ _),O (World.ownsRow_nil _ _ _ _)⟩
 case round =>
  obtain⟨k,pa,pcap,hk,rfl,rfl,HK,HO⟩:=hrel
  by_cases hk8:k<q
  ·have hk0:(0:Int)≤(k:Int):=by omega
   have hk1:(k:Int)<(q:Int):=by omega
   obtain⟨x,hx⟩:∃x,qs[k]?=some x:=⟨qs[k]'(by rw[HQE.out];exact hk8),List.getElem?_eq_getElem (by rw[HQE.out];exact hk8)⟩
   have hP:=HP.out.keep0 HK.out;obtain⟨g,o,cap,he,hr⟩:=G5 (f:=fun(x:Value×Pt)=>aE x.1 x.2) (s:=35) (fun y hy=>aI (hP.at_ y hy).sum) (by decide) hP.rd hx;rw[HQE.out] at he;injection he with he1 he2 he3
   subst he1;have HX:=O hx;obtain⟨lv,hlv⟩:∃l,x.2.level=l:=⟨_,rfl⟩
   have HC:Hid (wr.cell? ⟨g,o+k*35+2,none⟩=some (.int .i64 lv)):=O (hr 2 _ (by rw[←hlv];rfl));have HLV:=O hlv;have HL:=lN wr;clear hx hP hr he2 he3 hlv;have c1:wr.cell? ⟨g,o+k*35+2,none⟩=some (.int .i64 lv):=HC.out
   go_wp2_with ((with_reducible show WL _ _);refine bs1 35 3 (.tmp 16) (.int .i64 lv) (by kernel_rfl) (by kernel_rfl) Tryz.underlying35 rfl ?_)
   clear c1;intro b17 wb hbs hk hb;replace HL:=lW HL hbs hk hb;replace HO:=O (hk.owns HO.out fun _ _=>id);replace HC:=O (hk.cell HC.out id);clear hbs hk hb;have hrd_:Rd wb 1 (.slice (some ⟨b17,0,none⟩) 1 1) 1 [.int .i64 lv]:=dX (n:=1) (size:=1) (HL.out.b 0) rfl (by unfold maxLen;omega);have HRD_:=O hrd_;have HOE:=HO;have HKE:=O HL.out.keep;clear hrd_
   go_wp2_with (first
    | (at_builtin;refine aN rfl (.tmp 11) (.tmp 17) 35 rfl w.heap.size 3 (.int .i64 0) 1 8 Tryz.underlying35 DC rfl (by decide) (.slice pa k pcap) k (vR (qs.take k)) rfl HO.out (.slice (some ⟨b17,0,none⟩) 1 1) 1 [.int .i64 lv] rfl HRD_.out (by intro u hu;rcases List.mem_singleton.1 hu with rfl;rfl) (by unfold maxLen;omega) (by omega) (Nat.le_trans HK.out.size HKE.out.size) ?_))
   intro v2 w8 ho5 hk5 hn5 hb5;obtain⟨g2,c2,rfl⟩:=ownsRow_succ ho5;have HO5:=O ho5;have HK5:=O hk5;clear ho5 hk5 hn5 hb5 HRD_ HL HO HC;go_wp2_with fail
   have HO2:Hid (w8.ownsRow w.heap.size 3 1 (.slice (some ⟨g2,0,none⟩) (k+1) c2) (k+1) (vR (qs.take (k+1)))):=O (by
    have e:vR (qs.take (k+1))=vR (qs.take k)++[.int .i64 lv]:=by
     unfold vR;rw[List.take_add_one,HX.out,List.map_append,←HLV.out];rfl
    rw[e];exact HO5.out)
   have HK2:=O (xY HK.out HOE.out HKE.out HK5.out);clear HO5 HK5 HOE HKE
   go_roundw
   case rel=>exact⟨k+1,some ⟨g2,0,none⟩,c2,by omega,by go_num,rfl,HK2,HO2⟩
   case measure=>simp[intOf];omega
  ·obtain rfl:k=q:=by omega
   have HP2:Hid (Fy w qs (.returned (.slice pa k pcap)) wr):=O ⟨_,rfl,by have h1:=HO.out;rw[List.take_of_length_le (by rw[HQE.out];exact Nat.le_refl _)] at h1;rw[HQE.out];exact h1,HK.out⟩;clear HO;go_wp2;go_ret;exact HP2.out
theorem JH{S:Kor}(hb:S.Bd){lv:Nat}{b:List UInt8}{p:Pt}{T:Kor}(h:S.put lv b=some (p,T)):p.addrs.length=S.cp/\p.birth=S.txg+1/\p.level=(lv:Int):=by
 unfold Kor.put at h;cases hc:bX (bZ S.L S.D S.Z) S.allUp S.cp with
 | none=>rw[hc] at h;cases h
 | some l =>
   rw[hc] at h;have h:=Option.some.inj h;injection h with h1 h2
   subst h1;refine⟨?_,rfl,rfl⟩;show (bD S.L S.Z l).length=S.cp
   have hup2:upN S.allUp=S.D:=by
    unfold upN Kor.allUp;rw[List.countP_replicate];rfl
   rw[lS,(eZ hc).2.1];unfold kS;rw[hup2];exact Nat.min_eq_left hb.cD
theorem D7{S:Kor}(hb:S.Bd){b:List UInt8}(hz:b≠zB){u:Tr}{T:Kor}(h:S.leaf b=(some u,T)):∃p,u=.leaf p b/\p.birth=S.txg+1/\p.level=0/\p.addrs.length=S.cp:=by
 unfold Kor.leaf at h;rw[if_neg hz] at h;cases hp:S.put 0 b with
 | none=>rw[hp] at h;injection h with h1 h2;cases h1
 | some x =>
   obtain⟨p,U⟩:=x;rw[hp] at h;injection h with h1 h2
   injection h1 with h1
   obtain⟨g1,g2,g3⟩:=JH hb hp;exact⟨p,h1.symm,g2,g3,g1⟩
theorem LC{S:Kor}(hb:S.Bd){l:Nat}{k:Nat->Tr}{u:Tr}{T:Kor}(h:S.lay l k=(some u,T))(hu:u≠.hole):∃p,u=.node p k/\p.birth=S.txg+1/\p.level=(l:Int)/\p.addrs.length=S.cp:=by
 unfold Kor.lay at h
 by_cases hz:fZ k=true
 ·rw[if_pos hz] at h
  injection h with h1 h2
  injection h1 with h1
  exact absurd h1.symm hu
 ·rw[if_neg hz] at h
  cases hp:S.put l (cS l (fA k)) with
  | none=>rw[hp] at h;injection h with h1 h2;cases h1
  | some x =>
    obtain⟨p,U⟩:=x;rw[hp] at h;injection h with h1 h2
    injection h1 with h1
    obtain⟨g1,g2,g3⟩:=JH hb hp;exact⟨p,h1.symm,g2,g3,g1⟩
theorem nC{S:Kor}{l:Nat}(hl:l≤2)(hb:S.Bd){t:Tr}(ht:Tr.Ok S (l+1) t){b:List UInt8}(hbl:b.length=256)(hz:b≠zB){n:Nat}{u:Tr}{T:Kor}(h:eD (l+1) S t n b=(some u,T)) :
 ∃u' T' p,eD l S (t.kid (n / 4 ^ l % 4)) n b=(some u',T')/\u=.node p (eX t.kid (n / 4 ^ l % 4) u')/\p.birth=S.txg+1/\p.level=((l+1:Nat):Int)/\p.addrs.length=S.cp:=by
 have hok:=(pD hbl n (by omega) hb ht h).2 u rfl
 have hne:u≠.hole:=fun e=>by
  have h1:=hok.2.1 n;rw[if_pos rfl,e,Tr.blk_hole] at h1;exact hz h1.symm
 unfold eD at h;cases hs:eD l S (t.kid (n / 4 ^ l % 4)) n b with
 | mk r1 T1 =>
   rw[hs] at h;cases r1 with
   | none=>injection h with h1 h2;cases h1
   | some u1 =>
     have hbe:=(pD hbl n (by omega) hb (ht.kid (gA n l)) hs).1;obtain⟨p,h1,h2,h3,h4⟩:=LC hbe.bd h hne;exact⟨u1,T1,p,rfl,h1,by rw[h2,hbe.txg],h3,by rw[h4,hbe.ext.cp]⟩
structure LD(u1 u2:Tr):Prop where
 lv1:(fK 3 u1).map (·.level)=[3,2,1,0]
 len1:∀x∈fK 3 u1,x.addrs.length=2
 b1:bks (bB 1) 3 u2 0=[6]
 s1:((thr (bB 1) 3 u2 0).map (·.1)).map (·.level)=[3,2,1,0]
 s2:thr (bB 2) 3 u2 0=[]
 b0:bks (bB 0) 3 u2 0=[5,6]
 un:unl 3 u1 u2 0=[6]
 uh:unl 3 u1 .hole 0=[5]
theorem jW{p q:Pt}(h:p.birth≠q.birth):p.eqB q=false:=by
 cases e:p.eqB q with
 | false=>rfl
 | true=>exact absurd (congrArg Pt.birth (Do e)) h
theorem OF{S S2:Kor}(hb:S.Bd)(hb2:S2.Bd)(hx:S.txg=0)(hx2:S2.txg=1)(hcp:S.cp=2){b:List UInt8}(hbl:b.length=256)(hz:b≠zB){u1 u2:Tr}{T1 T2:Kor}(h1:eD 3 S .hole 5 b=(some u1,T1))(ho:Tr.Ok S2 3 u1)(h2:eD 3 S2 u1 6 b=(some u2,T2)):LD u1 u2:=by
 obtain⟨a2,A2,p3,e3,rfl,f3,g3,l3⟩:=nC (by omega) hb (Tr.ok_hole S 3) hbl hz h1;obtain⟨a1,A1,p2,e2,rfl,f2,g2,l2⟩:=nC (by omega) hb (Tr.ok_hole S 2) hbl hz e3;obtain⟨a0,A0,p1,e1,rfl,f1,g1,l1⟩:=nC (by omega) hb (Tr.ok_hole S 1) hbl hz e2;obtain⟨p0,rfl,f0,g0,l0⟩:=D7 hb hz e1;obtain⟨c2,C2,q3,d3,rfl,F3,G3,L3⟩:=nC (by omega) hb2 ho hbl hz h2;obtain⟨c1,C1,q2,d2,rfl,F2,G2,L2⟩:=nC (by omega) hb2 (ho.kid (i:=0) (by omega)) hbl hz d3;obtain⟨c0,C0,q1,d1,rfl,F1,G1,L1⟩:=nC (by omega) hb2 ((ho.kid (i:=0) (by omega)).kid (i:=1) (by omega)) hbl hz d2;obtain⟨q0,rfl,F0,G0,L0⟩:=D7 hb2 hz d1;clear e1 e2 e3 d1 d2 d3 h1 h2 ho;rw[hx] at f0 f1 f2 f3;rw[hx2] at F0 F1 F2 F3;rw[hcp] at l0 l1 l2 l3;clear L0 L1 L2 L3;obtain⟨A3,B3,V3,X3⟩:=p3;obtain⟨A2_,B2,V2,X2⟩:=p2;obtain⟨A1_,B1,V1,X1⟩:=p1;obtain⟨A0_,B0,V0,X0⟩:=p0;obtain⟨a3,b3,v3,x3⟩:=q3;obtain⟨a2,b2,v2,x2⟩:=q2;obtain⟨a1,b1,v1,x1⟩:=q1;obtain⟨a0,b0,v0,x0⟩:=q0;simp only at f0 f1 f2 f3 F0 F1 F2 F3 g0 g1 g2 g3 G0 G1 G2 G3 l0 l1 l2 l3;subst f0 f1 f2 f3 F0 F1 F2 F3 g0 g1 g2 g3 G0 G1 G2 G3;refine⟨rfl,?_,rfl,rfl,rfl,rfl,?_,?_⟩
 ·intro x hx
  have hx:x∈[(⟨A3,0+1,((2+1:Nat):Int),X3⟩:Pt),⟨A2_,0+1,((1+1:Nat):Int),X2⟩,⟨A1_,0+1,((0+1:Nat):Int),X1⟩,⟨A0_,0+1,0,X0⟩]:=hx;simp only[List.mem_cons,List.not_mem_nil,or_false] at hx;rcases hx with rfl|rfl|rfl|rfl
  ·exact l3
  ·exact l2
  ·exact l1
  ·exact l0
 ·rw[gT,jW (by show (0+1:Int)≠1+1;decide),if_neg (by decide)]
  show unl 2 _ _ _++(unl 2 .hole .hole _++(unl 2 .hole .hole _++(unl 2 .hole .hole _++[])))=[6];simp only[lG,List.append_nil];rw[gT,jW (by show (0+1:Int)≠1+1;decide),if_neg (by decide)];show unl 1 .hole .hole _++(unl 1 _ _ _++(unl 1 .hole .hole _++(unl 1 .hole .hole _++[])))=[6];simp only[lG,List.nil_append,List.append_nil];rw[gT,jW (by show (0+1:Int)≠1+1;decide),if_neg (by decide)];show unl 0 .hole .hole _++(unl 0 (.leaf _ b) (.leaf _ b) _++(unl 0 .hole (.leaf _ b) _++(unl 0 .hole .hole _++[])))=[6];simp only[lG,List.nil_append,List.append_nil];rw[mY,jW (by show (0:Int)≠1+1;decide),if_neg (by decide)]
 ·rw[gT,jW (by show (0+1:Int)≠0;decide),if_neg (by decide)]
  show unl 2 _ .hole _++(unl 2 .hole .hole _++(unl 2 .hole .hole _++(unl 2 .hole .hole _++[])))=[5];simp only[lG,List.append_nil];rw[gT,jW (by show (0+1:Int)≠0;decide),if_neg (by decide)];show unl 1 .hole .hole _++(unl 1 _ .hole _++(unl 1 .hole .hole _++(unl 1 .hole .hole _++[])))=[5];simp only[lG,List.nil_append,List.append_nil];rw[gT,jW (by show (0+1:Int)≠0;decide),if_neg (by decide)];show unl 0 .hole .hole _++(unl 0 (.leaf _ b) .hole _++(unl 0 .hole .hole _++(unl 0 .hole .hole _++[])))=[5];simp only[lG,List.nil_append,List.append_nil];rw[mY,jW (by show (0+1:Int)≠0;decide),if_neg (by decide)]
theorem D8{α:Type}[DecidableEq α]:∀{l m:List α},l.Nodup->(∀x∈l,x∈m)->l.length≤m.length
 | [],m,_,_=>Nat.zero_le _
 | x::l,m,hn,hm=>by
   obtain⟨h1,h2⟩:=List.nodup_cons.1 hn;have hx:=hm x (List.mem_cons_self ..);have:=D8 (l:=l) (m:=m.erase x) h2 fun y hy=>(List.mem_erase_of_ne fun e=>h1 (by rw[←e];exact hy)).2 (hm y (List.mem_cons_of_mem _ hy))
   rw[List.length_erase_of_mem hx] at this;have hp:0<m.length:=List.length_pos_of_mem hx;rw[List.length_cons];omega
theorem ET{l:List Ad}(h:l.Nodup):(jC l).length=l.length:=
 Nat.le_antisymm (Ba l) (D8 h fun x hx=>uF.2 hx)
theorem D9{qs:List (Value×Pt)}{l:Nat}{t:Tr}(h:qs.map (·.2)=fK l t):gU qs=eE l t:=by
 unfold gU eE;rw[show (qs.flatMap fun x=>x.2.addrs)=(qs.map (·.2)).flatMap fun p=>p.addrs by rw[List.flatMap_map],h];unfold fK;rw[List.flatMap_map]
theorem Ea:∀{l:List Pt},(∀x∈l,x.addrs.length=2)->(l.flatMap fun p=>p.addrs).length=2*l.length
 | [],_=>rfl
 | x::l,h=>by
   have:=Ea fun y hy=>h y (List.mem_cons_of_mem _ hy)
   rw[List.flatMap_cons,List.length_append,this,h x (List.mem_cons_self ..),List.length_cons];omega
def jX(w:World)(cv:Value)(pc:List Value)(e:Int):Prop:=∀w',aA aB w w'->∀b,w'.heap[b]?=some (.cells pc.toArray 26 (0,0))->Calls Tryz.prog 30 #[cv,.slice (some ⟨b,0,none⟩) 1 1] w' (aK w' (.int .i64 e))
theorem jX.keep0{w w':World}{cv:Value}{pc:List Value}{e:Int}(h:jX w cv pc e)(k:aA aB w w'):jX w' cv pc e:=fun w2 k2 b hb=>h w2 (k.trans k2) b hb
theorem EX{w:World}{c:Nat}{S:Kor}{B:Nat->Prop}(hK:KI w c S B){g:Nat}(pv:Value)(p:Pt)(hp:PtV w pv p)(hh:p.hole=false)(hm:p.may=true)(hl:¬p.level=3)(hg:w.heap[g]?=some (.cells (aE pv p).toArray 26 (0,0))):Calls Tryz.prog 30 #[.pointer (some ⟨c,0,none⟩),.slice (some ⟨g,0,none⟩) 1 1] w (aK w (.int .i64 2)):=by
 have HCP:=O (by have:=hK.bd.c1;omega:¬((S.cp:Nat):Int)=0);have HK:=O hK;have HPT:=O hp;have HH:=O hh;have HM:=O hm;have HV:=O hl;have hpc:=aI (v:=pv) hp.sum;have HOP0:=aO hp;obtain⟨pc,hpce⟩:∃l,aE pv p=l:=⟨_,rfl⟩
 have HOP:Hid (∀u∈pc,u.oneCell'=true):=O (by rw[←hpce];exact HOP0);have HPC:=O hpce;rw[hpce] at hpc hg;have HG:=O hg;have HPT0:=HPT;have HG0:=HG;clear HOP0 hpce hg hp hh hm hl hK;have HL:=lN w;go_in;go_wp2_with fail;refine((KI.copies HK.out:Calls _ _ _ w (aK w (.int .i64 (S.cp:Int))))).mono ?_;rintro e w1 ⟨rfl,hk⟩;replace HL:=kL HL hk;replace HK:=O (KI.keep0 HK.out hk);replace HPT:=O (HPT.out.keep hk fun _ _=>id);replace HG:=O (hk.blk HG.out id);clear hk;have hcp0:=HCP.out;have d0:decide (((S.cp:Nat):Int)=0)=false:=decide_eq_false hcp0;have d1:(((S.cp:Nat):Int) == 0)=false:=by rw[beq_eq_false_iff_ne];exact hcp0
 go_wp2_with fail
 go_loopw [13] (fun i wr=>i=.int .i64 0/\Hid (aA aB w wr)) (fun i _=>1-(intOf i).toNat)
 case atStart=>exact⟨rfl,O HL.out.keep⟩
 case round =>
 clear HL;obtain⟨rfl,HKR⟩:=hrel;have HL:=lN wr;have HPTR:=O (HPT0.out.keep HKR.out fun _ _=>id);have HGR:=O (HKR.out.blk HG0.out id)
 go_wp2_with ((with_reducible show WL _ _);first
  | refine wpList_load_mid rfl 26 (.tmp 15) rfl g 0 rfl pc _ (aD HGR.out) aF rfl (szP9 hpc) ?_
  | refine al 26 (.agg aH.toArray) (aH.toArray) bC ?_)
 intro b6 wl hbs hk0 hb0_
 go_wp2_with ((with_reducible show WL _ _);refine sta 26 (.tmp 6) (.tmp 16) b6 0 pc hb0_ (by first|decide|(rw[List.size_toArray,hpc];exact Nat.le_refl _)|simp[hpc,aG]) (szP9 hpc) HOP.out ?_)
 intro wm hk hb;rw[aJ _ _ (by first|rfl|(rw[List.size_toArray,hpc];rfl)|simp[hpc,aG])] at hb;replace hk:=tX hk0 hk (fun i hi e=>by omega);replace HL:=lW HL hbs hk hb;replace HPTR:=O (HPTR.out.keep hk fun _ _=>id);clear hbs hk hb hk0 hb0_
 go_wp2_with ((with_reducible show WL _ _);refine wpList_load_mid rfl 26 (.tmp 6) rfl b6 0 rfl pc _ (aD (HL.out.b 0)) aF rfl (szP9 hpc) ?_)
 refine((by rw[←HPC.out];exact GK wm pv p HPTR.out HH.out HM.out HV.out:Calls _ _ _ wm (aK wm (.int .i64 2)))).mono ?_;rintro e wn ⟨rfl,hk⟩;replace HL:=kL HL hk;replace HPTR:=O (HPTR.out.keep hk fun _ _=>id);clear hk;have HKE:=O (HKR.out.trans HL.out.keep);go_wp2;go_ret;exact⟨rfl,HKE.out⟩
theorem LK{w:World}{c:Nat}{S:Kor}{B:Nat->Prop}(hK:KI w c S B)(pv:Value)(p:Pt)(hp:PtV w pv p)(hh:p.hole=false)(hm:p.may=true)(hl:¬p.level=3):jX w (.pointer (some ⟨c,0,none⟩)) (aE pv p) 2:=fun w' k b hb=>EX (hK.keep0 k) pv p (hp.keep k fun _ _=>id) hh hm hl hb
theorem Eg{w:World}{cv:Value}{pc:List Value}(hr:jX w cv pc 2)(hc:cv.cells=#[cv])(hpc:pc.length=35)(hop:∀u∈pc,u.oneCell'=true)(g:Nat):Calls Tryz.prog 25 #[cv,.agg pc.toArray,nwV g,owV] w (aK w (.tuple #[.slice none 0 0,.int .i64 2])):=by
 have HR:=O hr;have HOC:=O hc;have HOP:=O hop;have HL:=lN w;clear hr hc hop;go_in
 go_wp2_with ((with_reducible show WL _ _);refine bx 32 (.tmp 0) (#[cv]) ?_ (hcs:=HOC.out))
 intro b4 w1 hbs hk hb;replace HL:=lW HL hbs hk hb;replace HR:=O (jX.keep0 HR.out hk);clear hbs hk hb
 go_wp2_with ((with_reducible show WL _ _);refine bxL HL 26 (.tmp 1) (pc.toArray) ?_)
 intro b5 w2 hk HL;replace HR:=O (jX.keep0 HR.out hk);clear hk
 go_wp2_with ((with_reducible show WL _ _);refine bxL HL 78 (.tmp 2) (#[nwV g]) ?_)
 intro b6 w3 hk HL;replace HR:=O (jX.keep0 HR.out hk);clear hk
 go_wp2_with ((with_reducible show WL _ _);refine bxL HL 80 (.tmp 3) (#[owV]) ?_)
 intro b7 w4 hk HL;replace HR:=O (jX.keep0 HR.out hk);clear hk;have c1:w4.cell? ⟨b4,0,none⟩=some (cv):=(aC (i:=0) (HL.out.b 3) rfl)
 go_wp2_with ((with_reducible show WL _ _);first
  | refine wpList_load_mid rfl 26 (.tmp 5) rfl b5 0 rfl pc _ (aD (HL.out.b 2)) aF rfl (szP9 hpc) ?_
  | refine bsA 42 26 (.tmp 15) Tryz.underlying42 oG (by omega) pc hpc (by omega) ?_)
 clear c1;intro b16 w5 hbs hk hb;replace HL:=lW HL hbs hk hb;replace HR:=O (jX.keep0 HR.out hk);clear hbs hk hb;go_wp2_with fail;refine((HR.out _ (aA.refl _ _) b16 (HL.out.b 0):Calls _ _ _ w5 (aK w5 (.int .i64 2)))).mono ?_;rintro e w6 ⟨rfl,hk⟩;replace HL:=kL HL hk;replace HR:=O (jX.keep0 HR.out hk);clear hk;go_wp2
 go_ret2
 exact⟨rfl,HL.out.keep⟩
theorem Eh{w:World}{cv:Value}{pc:List Value}(hr:jX w cv pc 2)(hc:cv.cells=#[cv])(hpc:pc.length=35)(hop:∀u∈pc,u.oneCell'=true):Calls Tryz.prog 9 #[cv,.agg pc.toArray] w (aK w (.tuple #[.slice none 0 0,.int .i64 2])):=by
 have HR:=O hr;have HOC:=O hc;have HOP:=O hop;have HL:=lN w;clear hr hc hop;go_in
 go_wp2_with ((with_reducible show WL _ _);refine bxL HL 26 (.tmp 1) (pc.toArray) ?_)
 intro b3 w1 hk HL;replace HR:=O (jX.keep0 HR.out hk);clear hk;go_wp2_with fail;refine dwA aB (by kernel_rfl) ?_;intro w2 S HSE HSI hS hkd;replace HL:=kL HL hkd;replace HR:=O (jX.keep0 HR.out hkd);clear hkd;have HLs:=HL;have HRs:=HR;refine tna 0 cv rfl hS ?_;refine tnd 1 (.agg pc.toArray) rfl (yieldsIf_load_mid (by rfl) 26 (.tmp 3) rfl b3 0 rfl pc _ (fun w' h=>aD ((HSE.out w' h).blk (HLs.out.b 0) id)) aF rfl (szP9 hpc)) hS ?_;refine wA9 2 ?_;go_wp2_with fail;refine((qU w2 0)).mono ?_;rintro e w3 ⟨g,rfl,-,-,hk⟩;have hS1:=HSI.out _ ((HSE.out _ hS).trans hk);replace HL:=kL HL hk;replace HR:=O (jX.keep0 HR.out hk);clear hS hk;go_wp2_with fail;refine⟨hS1,?_⟩;refine wA9 3 ?_;go_wp2_with fail;refine((Eg HR.out HOC.out hpc HOP.out g:Calls _ _ _ w3 (aK w3 (.tuple #[.slice none 0 0,.int .i64 2])))).mono ?_;rintro e w4 ⟨rfl,hk⟩;have hS2:=HSI.out _ ((HSE.out _ hS1).trans hk);replace HL:=kL HL hk;replace HR:=O (jX.keep0 HR.out hk);clear hS1 hk;go_wp2_with fail;refine⟨hS2,?_⟩;refine tnb 4 (.slice none 0 0) rfl hS2 ?_;refine tnb 5 (.int .i64 2) rfl hS2 ?_;refine tna 6 (.slice none 0 0) rfl hS2 ?_;refine tna 7 (.int .i64 2) rfl hS2 ?_;refine wpAnyH_done (by kernel_rfl) ?_ _;clear hS2 HSE HSI HLs HRs;go_wp2
 go_ret2
 exact⟨rfl,HL.out.keep⟩
end
end Go.Proofs.YthihofpfonfjfaaGreat
