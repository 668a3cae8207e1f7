import Derived.Test.YtiinnfhjpaeffaaGreatW1
import Derived.Test.YtiinnfhjpaeffaaGreatW30
namespace Go.Proofs.YtiinnfhjpaeffaaGreat
set_option maxHeartbeats 64000000
set_option maxRecDepth 100000
set_option linter.unusedVariables false
section
open Go.RowKit Go.Maps Go.ChangeMaps
theorem GD{w:World}{b:Nat}{v:Value}{p:Pt}{a:Int}{t:TypeId}{fr:Nat×Nat}(hs:p.sum.length=32)(h:w.heap[b]?=some (.cells (dJ v p a).toArray t fr)):w.cell? ⟨b,35,none⟩=some (.int .i64 a):=
 aC h (by
  rw[List.getElem?_toArray];unfold dJ;rw[List.getElem?_append_right (by rw[aJ hs];exact Nat.le_refl _),aJ hs];rfl)
theorem La(f:Nat->Value)(a:Int):Tryz.prog.built 90 [(0,.agg ((List.range 35).map f).toArray),(1,.int .i64 a)]=some ((List.range 35).map f++[Value.int .i64 a]).toArray:=by kernel_rfl
theorem E5(uc:List Value)(h:uc.length=35):uc=(List.range 35).map fun i=>uc.getD i undef:=by
 apply List.ext_getElem?;intro i;rw[List.getElem?_map]
 by_cases hi:i<35
 ·rw[List.getElem?_range hi,List.getElem?_eq_getElem (by omega)]
  simp[List.getD,List.getElem?_eq_getElem (show i<uc.length by omega)]
 ·rw[List.getElem?_eq_none (by omega),List.getElem?_eq_none (by simp;omega)];rfl
theorem E6(v:Value)(p:Pt)(a:Int)(hs:p.sum.length=32)(w:World):(Instr.build 90 #[(0,.agg (aE v p).toArray),(1,.int .i64 a)]).run Tryz.prog w=.ok (.agg (dJ v p a).toArray) w:=by
 refine run_build w 90 _ _ ?_;unfold dJ;rw[E5 (aE v p) (aJ hs)];exact La _ _
theorem DD{w:World}{c:Nat}{S:Kor}{B:Nat->Prop}(hK:KI w c S B){N0 g q6 q7 q11 q4 q12 l:Nat}{x:Int}(hl2:l≤2)(IH:NE B S c N0 g q6 q7 q11 q4 q12 x l)(hB:∀i,B i->i<N0)(hT:Thr B N0 c g x q6 q7 q11 q4 q12 w){v:Value}{ps:List (Value×Pt)}(hO:jR N0 q11 w v ps)(hN:N0≤w.heap.size)(pv:Value)(t:Tr)(a:Nat)(hps:ps.length+(thr (bD x) (l+1) t a).length≤1000)(ha:a+4 ^ (l+1)≤64)(ht:Tr.Ok S (l+1) t)(hp:bA w B pv t.ptr)(hpo:∀i,pv.ownBlock=some i->i≠q11/\v.ownBlock≠some i)(hpl:t.ptr.addrs.length≤65536)(hh:t.isHole=false)(hn:decide (x<t.ptr.birth)=true):Calls Tryz.prog 67 #[.agg (dJ pv t.ptr (a:Int)).toArray,.int .i64 ((l+1:Nat):Int),.pointer (some ⟨q6,0,none⟩),.pointer (some ⟨q7,0,none⟩),.pointer (some ⟨q11,0,none⟩),.pointer (some ⟨q4,0,none⟩),.pointer (some ⟨q12,0,none⟩)] w (pX N0 q11 x (l+1) t a v ps w):=by
 have hhp:t.ptr.hole=false:=by rw[ht.hole_eq,hh]
 have HIH:=O IH;have HBN:=O hB;have HTR:=O ht;have HPSL:=O hps;have HA:=O ha;have HPO:=O hpo;have HHH:Hid (t.isHole=false/\bD x t.ptr=true):=O ⟨hh,hn⟩;have hps1:ps.length≤1000:=by omega
 have HT:=O hT;have HO:=O hO;have HBLT:=O (fun i (e:B i)=>hK.lt e);have HNN:=O hN;have HPS:=O hps1;have HKI:=O hK;have HVO0:Hid (∀i,v.ownBlock=some i->i<w.heap.size):=O fun i hi=>by (obtain⟨cur,hc⟩:=aL hO.row hi;exact lt_of_block hc)
 obtain⟨p,hpe⟩:∃p,t.ptr=p:=⟨_,rfl⟩
 have HPE:=O hpe;rw[hpe] at hp hhp hn hpl ⊢;have HPT:=O hp;have HHP:=O hhp;have HN1:=O hn;have HPL:=O hpl;have HSM:=O hp.pt.sum;have hpc:=aJ (v:=pv) hp.pt.sum;have HOP0:=aU hp.pt;have hlc:=jO (v:=pv) (a:=(a:Int)) hp.pt.sum;have HOL0:=jP (a:=(a:Int)) hp.pt;obtain⟨pc,hpce⟩:∃l,aE pv p=l:=⟨_,rfl⟩
 obtain⟨lc,hlce⟩:∃l,dJ pv p (a:Int)=l:=⟨_,rfl⟩
 have HOP:Hid (∀u∈pc,u.oneCell'=true):=O (by rw[←hpce];exact HOP0);have HOL:Hid (∀u∈lc,u.oneCell'=true):=O (by rw[←hlce];exact HOL0);have HPC:=O hpce;have HLC:=O hlce;rw[hpce] at hpc;rw[hlce] at hlc ⊢;have hl0:(0:Int)≤((l+1:Nat):Int):=by omega
 have hlz:(((l:Int)+1) == 0)=false:=by rw[beq_eq_false_iff_ne];omega
 clear HOP0 HOL0 hpce hlce hp hT hO hh hhp hn hN hps hpl hpe hK IH hB ht ha hpo hps1;have HL:=lN w;go_in
 go_wp2_with ((with_reducible show WL _ _);refine bxL HL 90 (.tmp 0) (lc.toArray) ?_)
 intro b7 w1 hk HL;replace HPT:=pK HPT hk;replace HT:=O (HT.out.keep hk fun _ e=>e.elim);replace HO:=O (HO.out.keep0 hk);replace HKI:=O (KI.keep0 HKI.out hk);clear hk
 go_wp2_with ((with_reducible show WL _ _);refine wpList_load_mid rfl 27 (.tmp 15) rfl b7 0 rfl pc _ (by have h:=HL.out.b 0;rw[←HLC.out] at h;rw[←HPC.out];exact eI h) aF rfl (szP9 hpc) ?_)
 refine((by rw[←HPC.out];exact cJ w1 pv p HPT.out.pt:Calls _ _ _ w1 (aX w1 p.hole))).mono ?_;rintro e w2 ⟨rfl,hk⟩;replace HL:=kL HL hk;replace HPT:=pK HPT hk;replace HT:=O (HT.out.keep hk fun _ e=>e.elim);replace HO:=O (HO.out.keep0 hk);replace HKI:=O (KI.keep0 HKI.out hk);clear hk;rw[HHP.out];have c1:w2.cell? ⟨q6,0,none⟩=some (nwV g):=(cell_of_one HT.out.c6)
 go_wp2_with ((with_reducible show WL _ _);refine aM (by rfl) 27 (.tmp 20) rfl b7 0 rfl pc _ (by have h:=HL.out.b 0;rw[←HLC.out] at h;rw[←HPC.out];exact eI h) aF rfl (szP9 hpc) ?_)
 clear c1;refine((by rw[←HPC.out];exact kC HT.out.cg pv p HPT.out.pt:Calls _ _ _ w2 (aX w2 (decide (x<p.birth))))).mono ?_;rintro e w3 ⟨rfl,hk⟩;replace HL:=kL HL hk;replace HPT:=pK HPT hk;replace HT:=O (HT.out.keep hk fun _ e=>e.elim);replace HO:=O (HO.out.keep0 hk);replace HKI:=O (KI.keep0 HKI.out hk);clear hk;rw[HN1.out];have c1:w3.cell? ⟨q7,0,none⟩=some (owV):=(cell_of_one HT.out.c7)
 go_wp2_with ((with_reducible show WL _ _);refine wpList_load_mid rfl 90 (.tmp 7) rfl b7 0 rfl lc _ (aD (HL.out.b 0)) Tryz.underlying90 rfl (by rw[hlc];exact vP) ?_)
 clear c1;have HSW:=O HL.out.keep.size;refine((by rw[←HLC.out];exact Dx (B:=B) (fun k hk=>Nat.lt_of_lt_of_le (HBLT.out k hk) HL.out.keep.size) pv p HPT.out.pt HPL.out (a:Int):Calls _ _ _ w3 (sZ w3 B p))).mono ?_;rintro e w4 ⟨v1,rfl,hpv1,hnw1,hk⟩;have HV1:Hid (PtV w4 v1 p):=O hpv1.pt;have HVO:Hid (∀i,v1.ownBlock=some i->N0≤i/\v.ownBlock≠some i/\IsC w4 i):=O (fun i hi=>⟨by have h1:=hnw1 i hi;have h2:=HNN.out;have h3:=HSW.out;omega,fun e=>by (obtain⟨cur,hc⟩:=aL HO.out.row e;have h1:=lt_of_block hc;have h2:=hnw1 i hi;omega),(hpv1.off i hi).2⟩);obtain⟨rc,HRC,hrc,HOR⟩:=nmPt hpv1.pt;rw[HRC.out];clear hpv1 hnw1;replace HL:=kL HL hk;replace HPT:=pK HPT hk;replace HT:=O (HT.out.keep hk fun _ e=>e.elim);replace HO:=O (HO.out.keep0 hk);replace HKI:=O (KI.keep0 HKI.out hk);clear hk
 go_wp2_with ((with_reducible show WL _ _);refine al 27 (.agg aH.toArray) (aH.toArray) bG ?_)
 intro b10 w5 hbs hk0 hb0_
 go_wp2_with ((with_reducible show WL _ _);refine sta 27 (.tmp 10) (.tmp 29) b10 0 rc hb0_ (by first|decide|(rw[List.size_toArray,hrc];exact Nat.le_refl _)|simp[hrc,aG]) (szP9 hrc) HOR.out ?_)
 intro w6 hk hb;rw[aI _ _ (by first|rfl|(rw[List.size_toArray,hrc];rfl)|simp[hrc,aG])] at hb;replace hk:=tX hk0 hk (fun i hi e=>by omega);replace HL:=lW HL hbs hk hb;replace HPT:=pK HPT hk;replace HT:=O (HT.out.keep hk fun _ e=>e.elim);replace HO:=O (HO.out.keep0 hk);replace HKI:=O (KI.keep0 HKI.out hk);replace HV1:=O (HV1.out.keep hk fun _ _=>id);replace HVO:=O (fun i hi=>And.intro (HVO.out i hi).1 (And.intro (HVO.out i hi).2.1 ((HVO.out i hi).2.2.keep hk id)));clear hbs hk hb hk0 hb0_;have c1:w6.cell? ⟨q11,0,none⟩=some (v):=(cell_of_one HO.out.cell)
 go_wp2_with ((with_reducible show WL _ _);first
  | refine wpList_load_mid rfl 27 (.tmp 10) rfl b10 0 rfl rc _ (aD (HL.out.b 0)) aF rfl (szP9 hrc) ?_
  | refine bsA 22 27 (.tmp 33) Tryz.underlying22 lU (by omega) rc hrc (by omega) ?_)
 clear c1;intro b34 w7 hbs hk hb;have HRN:Hid (Rd w7 35 (.slice (some ⟨b34,0,none⟩) 1 1) 1 rc):=O (eE (n:=1) (size:=35) hb (by rw[hrc]) (by unfold maxLen;omega));replace HL:=lW HL hbs hk hb;replace HPT:=pK HPT hk;replace HT:=O (HT.out.keep hk fun _ e=>e.elim);replace HO:=O (HO.out.keep0 hk);replace HKI:=O (KI.keep0 HKI.out hk);replace HV1:=O (HV1.out.keep hk fun _ _=>id);replace HVO:=O (fun i hi=>And.intro (HVO.out i hi).1 (And.intro (HVO.out i hi).2.1 ((HVO.out i hi).2.2.keep hk id)));clear hbs hk hb;have HLN:=O (show N0≤w7.heap.size from Nat.le_trans HNN.out HL.out.keep.size);have HPS2:Hid (ps.length+1≤maxLen/\(ps.length+1)*72≤140737488355328):=O (by have:=HPS.out;unfold maxLen;omega)
 go_wp2_with (at_builtin;refine aN rfl (.tmp 32) (.tmp 34) 22 rfl N0 27 (.agg aH.toArray) 35 72 Tryz.underlying22 lU rfl (by decide) v ps.length (ps.flatMap fun x=>aE x.1 x.2) rfl HO.out.row (.slice (some ⟨b34,0,none⟩) 1 1) 1 rc rfl HRN.out HOR.out HPS2.out.1 HPS2.out.2 HLN.out ?_)
 intro v2 w8 ho5 hk5 hn5 hb5;obtain⟨g2,c2,rfl,-,-⟩:=(Rd.of_owns ho5).form;have H11:=O (hk5.blk HO.out.cell fun e=>by have h1:=aS HO.out.row e;have h2:=HT.out.l11.1;omega);have HO5:=O ho5;have HK5:=O hk5;have HB5:=O hb5;have HKL:=O HL.out.keep;have HB7L:=O (HL.out.lt 2);have HOG:=O (fun i (hi:v.ownBlock=some i)=>(aS HO.out.row hi:N0≤i));clear ho5 hk5 hn5 hb5 HRN
 go_wp2_with ((with_reducible show WL _ (.store 22 _ _));refine sta 22 (.tmp 4) (.tmp 35) q11 0 [.slice g2 (ps.length+1) c2] H11.out (by simp) (by kernel_rfl) (by intro u hu;rw[List.mem_singleton] at hu;subst hu;rfl) ?_)
 intro w9 hk hb;replace hb:w9.heap[q11]?=some (.cells #[.slice g2 (ps.length+1) c2] 22 (0,0)):=hb;have hk9:aA (fun i=>i=q11\/v.ownBlock=some i) w7 w9:=HK5.out.trans' hk (fun i _ e=>.inr e) (fun i _ e=>.inl e);have HQ:Hid (jR N0 q11 w9 (.slice g2 (ps.length+1) c2) (ps++[(v1,p)])):=O (HO.out.grow HT.out.l11.1 HV1.out HVO.out (by rw[HRC.out];exact HO5.out) HK5.out HB5.out hk hb)
 have hsl:∀i,w.heap.size≤i->¬(i=q11\/v.ownBlock=some i):=fun i hi e=>by
  rcases e with rfl|e
  ·have h1:=HT.out.l11.1;have h2:=HNN.out;omega
  ·have h1:=HVO0.out i e;omega
 replace HL:=O (HL.out.onto hk9 (fun z hz=>hsl _ (HL.out.ge z hz)));replace HT:=O (HT.out.keep hk9 fun i e=>e.imp id (HOG.out i));replace HKI:=O (HKI.out.keepT hk9 fun i e hBi=>e.elim (fun e=>HT.out.l11.2 (e▸hBi)) fun e=>by (have h1:=HOG.out i e;have h2:=HBN.out i hBi;omega));replace HPT:=O (HPT.out.keepT hk9 fun i hi e=>e.elim (HPO.out i hi).1 (HPO.out i hi).2)
 have HV2:Hid (∀i,(Value.slice g2 (ps.length+1) c2).ownBlock=some i->v.ownBlock=some i\/i=w7.heap.size):=O (fun i hi=>by
  rcases HB5.out with e|e
  ·exact .inl (e▸hi)
  ·rw[e] at hi;injection hi with hi;exact .inr hi.symm)
 have HS2:=O (And.intro HKL.out.size (And.intro hk9.size (HL.out.lt 2)));obtain⟨v2,hv2⟩:∃u,Value.slice g2 (ps.length+1) c2=u:=⟨_,rfl⟩
 rw[hv2] at HQ HV2;clear hk9 hk hb HK5 HO5 H11 HO HV1 HVO HB5 hv2;have c1:w9.cell? ⟨q4,0,none⟩=some (.pointer (some ⟨c,0,none⟩)):=(cell_of_one HT.out.c4)
 go_wp2_with ((with_reducible show WL _ _);refine wpList_load_mid rfl 27 (.tmp 40) rfl b7 0 rfl pc _ (by have h:=HL.out.b 2;rw[←HLC.out] at h;rw[←HPC.out];exact eI h) aF rfl (szP9 hpc) ?_)
 clear c1;have HLW:=O HL.out.keep.size;have HQL:Hid (∀i,v2.ownBlock=some i->i<w9.heap.size):=O fun i hi=>by (obtain⟨cur,hc⟩:=aL HQ.out.row hi;exact lt_of_block hc)
 refine((by rw[←HPC.out,←HPE.out];exact Bm HKI.out hl2 pv t HTR.out (by rw[HPE.out];exact HPT.out.pt):Calls _ _ _ w9 (fG w9 B l t))).mono ?_;rintro e w8 ⟨vs,rfl,hvs,hnew,hk⟩;have HNN2:=O hvs;have HWS:=O hk.size;have HNO:Hid (∀q,q<4->∀i,(vs q).ownBlock=some i->i≠q11/\v2.ownBlock≠some i):=O (fun q hq i hi=>⟨fun e=>by (have h1:=hnew q hq i hi;have h2:=HLW.out;have h3:=HT.out.l11.1;have h4:=HNN.out;omega),fun e=>by (have h1:=hnew q hq i hi;have h2:=HQL.out i e;omega)⟩);have hnn:=dY ((l+1:Nat):Int) vs hvs.nv;have HOF0:=dI ((l+1:Nat):Int) hvs.nv;obtain⟨nn,hnne⟩:∃x,cE ((l+1:Nat):Int) vs (fun i=>(t.kid i).ptr)=x:=⟨_,rfl⟩
 have HOF:Hid (∀u∈nn,u.oneCell'=true):=O (by rw[←hnne];exact HOF0);have HNF:=O hnne;rw[hnne] at hnn ⊢;clear HOF0 hnne hvs hnew;replace HL:=kL HL hk;replace HPT:=pK HPT hk;replace HT:=O (HT.out.keep hk fun _ e=>e.elim);replace HQ:=O (HQ.out.keep0 hk);replace HKI:=O (KI.keep0 HKI.out hk);clear hk
 go_wp2_with ((with_reducible show WL _ _);refine al 98 (.agg dC.toArray) (dC.toArray) jK ?_)
 intro b12 w9 hbs hk0 hb0_
 go_wp2_with ((with_reducible show WL _ _);refine sta 98 (.tmp 12) (.tmp 44) b12 0 nn hb0_ (by first|decide|(rw[List.size_toArray,hnn];exact Nat.le_refl _)|simp[hnn,bT]) (by rw[hnn];exact dG) HOF.out ?_)
 intro wa hk hb;rw[aI _ _ (by first|rfl|(rw[List.size_toArray,hnn];rfl)|simp[hnn,bT])] at hb;replace hk:=tX hk0 hk (fun i hi e=>by omega);have HNb12:=O (show w8.heap.size≤b12 from Nat.le_of_eq hbs);replace HL:=lW HL hbs hk hb;replace HPT:=pK HPT hk;replace HT:=O (HT.out.keep hk fun _ e=>e.elim);replace HQ:=O (HQ.out.keep0 hk);replace HKI:=O (KI.keep0 HKI.out hk);replace HNN2:=O (cF.keep0 HNN2.out hk);clear hbs hk hb hk0 hb0_;go_wp2_with fail
 have HST:Hid (∃vk qs,tA w B S c N0 g q6 q7 q11 q4 q12 x b7 b12 l t a pv v ps vs 0 wa vk qs):=O ⟨v2,[(v1,p)],HKI.out,HT.out,HQ.out,by rw[HPE.out];rfl,HNN2.out,HNO.out,by (have h:=HL.out.b 3;rw[←HLC.out] at h;rw[HPE.out];exact h),by (have h:=HL.out.b 0;rw[←HNF.out] at h;exact h),fun i hi=>by
  have h7:=HB7L.out;have hs:=HS2.out;have h12:=HL.out.lt 0;have hq:=HQL.out i hi;have h12n:=HNb12.out;have hws:=HWS.out;rcases HV2.out i hi with e|e
  ·have h1:=HVO0.out i e
   exact⟨.inl e,by omega,by omega⟩
  ·exact⟨.inr (by omega),by omega,by omega⟩,⟨by have h1:=(HL.out.lt 3).1;have h2:=HNN.out;omega,by have h1:=(HL.out.lt 0).1;have h2:=HNN.out;omega,HNN.out⟩,HL.out.keep⟩
 clear HL HKI HPT HT HQ HNN2
 go_loopw [13,14] (fun e i wr=>∃k:Nat,k≤4/\e=.int .i64 0/\i=.int .i64 (k:Int)/\Hid (∃vk qs,tA w B S c N0 g q6 q7 q11 q4 q12 x b7 b12 l t a pv v ps vs k wr vk qs)) (fun _ i _=>4-(intOf i).toNat)
 case atStart=>exact⟨0,by omega,rfl,rfl,HST⟩
 case round =>
  obtain⟨k,hk,rfl,rfl,HCI⟩:=hrel;obtain⟨vk,qs,hci⟩:=HCI.out
  by_cases hk8:k<4
  ·have hk0:(0:Int)≤(k:Int):=by omega
   have hk1:(k:Int)<4:=by omega
   have HKI:=O hci.ki;have HT:=O hci.th;have HQ:=O hci.out;have HQV:=O (hci.old k hk8);have HCX:=O hci;have hqc:=aJ (v:=vs k) HQV.out.pt.sum;have HOQ0:=aU HQV.out.pt;have HX0:=pT hci.old.nv (aD hci.h12) hk8;obtain⟨qc,hqce⟩:∃x,aE (vs k) ((t.kid k).ptr)=x:=⟨_,rfl⟩
   have HOQ:Hid (∀u∈qc,u.oneCell'=true):=O (by rw[←hqce];exact HOQ0);have HQC:=O hqce;rw[hqce] at hqc HX0;have HX:=O HX0;have HAT:=O (GD (by rw[HPE.out];exact HSM.out) hci.h7);obtain⟨W,hW⟩:∃W:Nat,4 ^ l=W:=⟨_,rfl⟩
   have hW16:W≤16/\1≤W:=by
    have:l=0\/l=1\/l=2:=by omega
    rcases this with rfl|rfl|rfl<;>omega
   have HW:=O hW;obtain⟨kw,hkw⟩:∃q:Nat,k*W=q:=⟨_,rfl⟩
   have hkw48:kw+W≤4*W:=by rw[←hkw];have h1:=Nat.mul_le_mul_right W (show k+1≤4 by omega);rw[Nat.succ_mul] at h1;exact h1
   have hkwi:(k:Int)*(W:Int)=(kw:Int):=by rw[←hkw];push_cast;rfl
   have hal:a+4*W≤64:=by have h1:=HA.out;rw[Nat.pow_succ,hW] at h1;omega
   obtain⟨ak,hak⟩:∃ak,a+kw=ak:=⟨_,rfl⟩
   have HKWI:Hid (a+k*4 ^ l=ak):=O (by rw[hW,hkw,hak]);have hai:(a:Int)+(kw:Int)=(ak:Int):=by omega
   have HNQ:Hid ((∀i,(vs k).ownBlock=some i->i≠q11/\vk.ownBlock≠some i)/\(ps++qs).length+(thr (bD x) l (t.kid k) ak).length≤1000/\ak+4 ^ l≤64/\N0≤wr.heap.size):=O ⟨hci.off k hk8,by rw[←hak,←hkw,←hW];exact hci.len hk8 HPSL.out HHH.out.1 HHH.out.2,by rw[hW];omega,by have h1:=hci.ge;have h2:=hci.keep.size;omega⟩;have HTK:=O (HTR.out.kid hk8);have HL:=lN wr
   have H12N:Hid (¬(b12=q11\/vk.ownBlock=some b12)/\¬(b7=q11\/vk.ownBlock=some b7)/\¬(q12=q11\/vk.ownBlock=some q12)):=O (by
    have h1:=hci.ge;have h2:=hci.th.l11.1;have h3:=hci.th.lt q12 (.inr (.inr (.inr (.inr rfl))));refine⟨fun e=>e.elim (fun e=>by omega) fun e=>(hci.own _ e).2.2 rfl,fun e=>e.elim (fun e=>by omega) fun e=>(hci.own _ e).2.1 rfl,fun e=>e.elim (fun e=>by omega) fun e=>?_⟩;have h4:=aS hci.out.row e;omega)
   have hbp:=E6 (vs k) (t.kid k).ptr (ak:Int) HQV.out.pt.sum;obtain⟨mc,hmc⟩:∃x,dJ (vs k) (t.kid k).ptr (ak:Int)=x:=⟨_,rfl⟩
   have HMC:=O hmc;rw[hmc,hqce] at hbp;have HBP:=O hbp;clear hqce HOQ0 HX0 hci HCI hW hkw hmc hbp hak;go_wp2_with fail;refine dwA (fun i=>i=q11\/vk.ownBlock=some i) (by kernel_rfl) ?_;intro wc S HSE HSI hS hkd;replace HL:=kL HL hkd;replace HKI:=O (KI.keep0 HKI.out hkd);replace HT:=O (HT.out.keep hkd fun _ e=>e.elim);replace HQ:=O (HQ.out.keep0 hkd);replace HX:=O (hkd.rangeAt HX.out);replace HQV:=pK HQV hkd;replace HAT:=O (hkd.cell HAT.out id);clear hkd;have HLs:=HL;have HKIs:=HKI;have HTs:=HT;have HQs:=HQ;have HXs:=HX;have HQVs:=HQV;have HATs:=HAT;refine tnd 0 (dnV q6 q7 q11 q4 q12) rfl (.inl ⟨by rfl,fun w' hw'=>by have c:World.cell? w' ⟨q12,0,none⟩=some (dnV q6 q7 q11 q4 q12):=(HSE.out w' hw').cell (cell_of_one HTs.out.c12) H12N.out.2.2;go_simp⟩) hS ?_;refine tna 1 (.int .i64 (k:Int)) rfl hS ?_;refine tnb 2 (.pointer (some ⟨b12,1,none⟩)) rfl hS ?_;refine tnd 3 (.pointer (some ⟨b12,1+k*35,none⟩)) rfl (.inl ⟨by rfl,fun _ _=>by go_simp<;>omega⟩) hS ?_;refine tnd 4 (.agg qc.toArray) rfl (yieldsIf_load_mid (by rfl) 27 (.tmp 57) rfl b12 (1+k*35) rfl qc _ (fun w' h=>(HSE.out w' h).rangeAt2 HXs.out H12N.out.1) aF rfl (szP9 hqc)) hS ?_;refine tnb 5 (.pointer (some ⟨b7,35,none⟩)) rfl hS ?_;refine tnd 6 (.int .i64 (a:Int)) rfl (.inl ⟨by rfl,fun w' hw'=>by have c:World.cell? w' ⟨b7,35,none⟩=some (.int .i64 (a:Int)):=(HSE.out w' hw').cell HATs.out H12N.out.2.1;go_simp⟩) hS ?_;refine tna 7 (.int .i64 (k:Int)) rfl hS ?_;refine tna 8 (.int .i64 ((l+1:Nat):Int)) rfl hS ?_;refine tnd 9 (.int .i64 (l:Int)) rfl (.inl ⟨by rfl,fun _ _=>by go_simp;exact IntWalk.i64_in _ (by omega)⟩) hS ?_;refine tna 14 (.int .i64 ((l+1:Nat):Int)) rfl hS ?_;refine tnd 15 (.int .i64 (l:Int)) rfl (.inl ⟨by rfl,fun _ _=>by go_simp;exact IntWalk.i64_in _ (by omega)⟩) hS ?_;refine wA9 10 ?_;go_wp2_with fail;refine((by rw[←HW.out];exact zL wc l (by omega):Calls _ _ _ wc (aK wc (.int .i64 (W:Int))))).mono ?_;rintro e wd ⟨rfl,hk⟩;have hS1:=HSI.out _ ((HSE.out _ hS).trans hk.any);replace HL:=kL HL hk;replace HKI:=O (KI.keep0 HKI.out hk);replace HT:=O (HT.out.keep hk fun _ e=>e.elim);replace HQ:=O (HQ.out.keep0 hk);replace HX:=O (hk.rangeAt HX.out);replace HQV:=pK HQV hk;replace HAT:=O (hk.cell HAT.out id);clear hS hk;go_wp2_with fail;refine⟨hS1,?_⟩;refine tnd 11 (.int .i64 (kw:Int)) rfl (.inl ⟨by rfl,fun _ _=>by go_simp;exact IntWalk.i64_in _ (by omega)⟩) hS1 ?_;refine tnd 12 (.int .i64 (ak:Int)) rfl (.inl ⟨by rfl,fun _ _=>by go_simp;exact IntWalk.i64_in _ (by omega)⟩) hS1 ?_;refine tnd 13 (.agg mc.toArray) rfl (fA 90 #[(0,.tmp 58),(1,.tmp 66)] [(0,.agg qc.toArray),(1,.int .i64 (ak:Int))] (.agg mc.toArray) HBP.out) hS1 ?_;refine wA9 16 ?_;go_wp2_with fail;have HLK:Hid (aA aB wr wd):=O HL.out.keep;refine((by rw[←HMC.out];exact HIH.out wd vk (ps++qs) (vs k) (t.kid k) ak HKI.out HT.out HQ.out (Nat.le_trans HNQ.out.2.2.2 HL.out.keep.size) HNQ.out.2.1 HNQ.out.2.2.1 HTK.out HQV.out HNQ.out.1:Calls _ _ _ wd (pX N0 q11 x l (t.kid k) ak vk (ps++qs) wd))).mono ?_;rintro e we hm;obtain⟨he,hmk,hnx⟩:=HCX.out.step HBN.out HLK.out (by rw[HKWI.out];exact hm);subst he;have HNX:=O hnx;have hS2:=HSI.out _ ((HSE.out _ hS1).trans hmk);clear hS1 hmk hm hnx HL HKI HT HX HQV HQ HAT HLK;go_wp2_with fail;refine⟨hS2,?_⟩;refine tna 17 (.int .i64 0) rfl hS2 ?_;refine wpAnyH_done (by kernel_rfl) ?_ _;clear hS2 HSE HSI HLs HKIs HTs HQs HXs HQVs HATs;clear HCX;go_wp2
   go_roundw
   case rel=>exact⟨k+1,by omega,rfl,by go_num,HNX⟩
   case measure=>simp[intOf];omega
  ·obtain rfl:k=4:=by omega
   have HP:=O (hci.fin HHH.out.1 HHH.out.2 (aA.refl aB wr));clear hci HCI;go_wp2;go_ret;exact HP.out
theorem NF:Hid (∀w,(zeroValue 132).run Tryz.prog w=.ok .nilFunc w):=O fun w=>by kernel_rfl
theorem Od:Hid (∀w,(zeroValue 22).run Tryz.prog w=.ok (.slice none 0 0) w):=O fun w=>by kernel_rfl
theorem Jh(f:Nat->Value):Tryz.prog.built 90 [(0,.agg ((List.range 35).map f).toArray)]=some ((List.range 35).map f++[Value.int .i64 0]).toArray:=by kernel_rfl
theorem DE(v:Value)(p:Pt)(hs:p.sum.length=32)(w:World):(Instr.build 90 #[(0,.agg (aE v p).toArray)]).run Tryz.prog w=.ok (.agg (dJ v p 0).toArray) w:=by
 refine run_build w 90 _ _ ?_;unfold dJ;rw[E5 (aE v p) (aJ hs)];exact Jh _
theorem Tr.Ok.few{S:Kor}{l:Nat}{t:Tr}(h:Tr.Ok S l t):t.ptr.addrs.length≤65536:=by
 have:=(iC h.pmay).1;omega
theorem Lb{B:Nat->Prop}{S:Kor}{c N0 g q6 q7 q11 q4 q12:Nat}{x:Int}(hB:∀i,B i->i<N0):∀l,l≤3->NE B S c N0 g q6 q7 q11 q4 q12 x l:=by
 intro l
 induction l with
 | zero =>
   intro hl w v ps pv t a hK hT hO hN hps ha ht hp hpo;cases hh:t.isHole with
   | true=>exact lT hK hT hO pv t 0 a ht hp (.inl hh)
   | false =>
     cases hn:decide (x<t.ptr.birth) with
     | false=>exact lT hK hT hO pv t 0 a ht hp (.inr hn)
     | true=>exact DB hK hT hO hN (by omega) pv t a hp ht.few hh (by rw[ht.hole_eq,hh]) hn
 | succ l ih =>
   intro hl w v ps pv t a hK hT hO hN hps ha ht hp hpo;cases hh:t.isHole with
   | true=>exact lT hK hT hO pv t (l+1) a ht hp (.inl hh)
   | false =>
     cases hn:decide (x<t.ptr.birth) with
     | false=>exact lT hK hT hO pv t (l+1) a ht hp (.inr hn)
     | true=>exact DD hK (by omega) (ih (by omega)) hB hT hO hN pv t a hps ha ht hp hpo ht.few hh hn
def lG(w:World)(ps:List Pt)(e:Ending)(w':World):Prop:=
 ∃(v:Value) (qs:List (Value×Pt)),e=.returned (.tuple #[v,.int .i64 0])/\qs.map (·.2)=ps/\w'.ownsRow w.heap.size 27 35 v ps.length (qs.flatMap fun x=>aE x.1 x.2)/\(∀x∈qs,PtV w' x.1 x.2/\∀i,x.1.ownBlock=some i->w.heap.size≤i/\v.ownBlock≠some i/\IsC w' i)/\aA aB w w'
theorem Eu{w:World}{c:Nat}{S:Kor}{B:Nat->Prop}(hK:KI w c S B){g:Nat}{x:Int}(hg:w.heap[g]?=some (.cells #[.int .i64 x] 3 (0,0)))(pv:Value)(t:Tr)(ht:Tr.Ok S 3 t)(hp:bA w B pv t.ptr)(hm:(thr (bD x) 3 t 0).length≤1000):Calls Tryz.prog 34 #[.pointer (some ⟨c,0,none⟩),.agg (aE pv t.ptr).toArray,nwV g,owV] w (lG w ((thr (bD x) 3 t 0).map (·.1))):=by
 have HTR:=O ht;have HM:=O hm;have HKI:=O hK;have HBLT:=O (fun i (e:B i)=>hK.lt e);have HGB:=O hg;have HGL:=O (lt_of_block hg);obtain⟨p,hpe⟩:∃p,t.ptr=p:=⟨_,rfl⟩
 have HPE:=O hpe;rw[hpe] at hp ⊢;have HPT:=O hp;have HRT:Hid (p.root=true):=O (by rw[←hpe];exact ht.root);have hpc:=aJ (v:=pv) hp.pt.sum;have HOP0:=aU hp.pt;have hbp:=DE pv p hp.pt.sum;obtain⟨pc,hpce⟩:∃l,aE pv p=l:=⟨_,rfl⟩
 obtain⟨lc,hlce⟩:∃l,dJ pv p 0=l:=⟨_,rfl⟩
 have HOP:Hid (∀u∈pc,u.oneCell'=true):=O (by rw[←hpce];exact HOP0);have HPC:=O hpce;have HLC:=O hlce;rw[hpce] at hpc hbp ⊢;rw[hlce] at hbp;have HBP:=O hbp;have HPO:=O (fun i hi=>(hp.off i hi).2.lt);clear HOP0 hpce hlce hp ht hK hpe hg hm hbp;have HL:=lN w;go_in
 go_wp2_with ((with_reducible show WL _ _);refine bxL HL 39 (.tmp 0) (#[.pointer (some ⟨c,0,none⟩)]) ?_)
 intro b4 w1 hk HL;replace HPT:=pK HPT hk;replace HKI:=O (KI.keep0 HKI.out hk);replace HGB:=O (hk.blk HGB.out id);clear hk
 go_wp2_with ((with_reducible show WL _ _);refine bxL HL 27 (.tmp 1) (pc.toArray) ?_)
 intro b5 w2 hk HL;replace HPT:=pK HPT hk;replace HKI:=O (KI.keep0 HKI.out hk);replace HGB:=O (hk.blk HGB.out id);clear hk
 go_wp2_with ((with_reducible show WL _ _);refine bxL HL 85 (.tmp 2) (#[nwV g]) ?_)
 intro b6 w3 hk HL;replace HPT:=pK HPT hk;replace HKI:=O (KI.keep0 HKI.out hk);replace HGB:=O (hk.blk HGB.out id);clear hk
 go_wp2_with ((with_reducible show WL _ _);refine bxL HL 87 (.tmp 3) (#[owV]) ?_)
 intro b7 w4 hk HL;replace HPT:=pK HPT hk;replace HKI:=O (KI.keep0 HKI.out hk);replace HGB:=O (hk.blk HGB.out id);clear hk;have c1:w4.cell? ⟨b4,0,none⟩=some (.pointer (some ⟨c,0,none⟩)):=(aC (i:=0) (HL.out.b 3) rfl)
 go_wp2_with ((with_reducible show WL _ _);first
  | refine wpList_load_mid rfl 27 (.tmp 5) rfl b5 0 rfl pc _ (aD (HL.out.b 2)) aF rfl (szP9 hpc) ?_
  | refine bsA 22 27 (.tmp 15) Tryz.underlying22 lU (by omega) pc hpc (by omega) ?_)
 clear c1;intro b16 w5 hbs hk hb;replace HL:=lW HL hbs hk hb;replace HPT:=pK HPT hk;replace HKI:=O (KI.keep0 HKI.out hk);replace HGB:=O (hk.blk HGB.out id);clear hbs hk hb;go_wp2_with fail;refine((wM HKI.out pv p HPT.out.pt HRT.out (by rw[HPC.out];exact HL.out.b 0):Calls _ _ _ w5 (aK w5 (.int .i64 0)))).mono ?_;rintro e w6 ⟨rfl,hk⟩;replace HL:=kL HL hk;replace HPT:=pK HPT hk;replace HKI:=O (KI.keep0 HKI.out hk);replace HGB:=O (hk.blk HGB.out id);clear hk
 go_wp2_with ((with_reducible show WL _ _);refine alL HL 22 (.slice none 0 0) (#[.slice none 0 0]) Od ?_)
 intro b11 w7 hk HL;replace HPT:=pK HPT hk;replace HKI:=O (KI.keep0 HKI.out hk);replace HGB:=O (hk.blk HGB.out id);clear hk
 go_wp2_with ((with_reducible show WL _ _);refine alL HL 132 (.nilFunc) (#[.nilFunc]) NF ?_)
 intro b12 w8 hk HL;replace HPT:=pK HPT hk;replace HKI:=O (KI.keep0 HKI.out hk);replace HGB:=O (hk.blk HGB.out id);clear hk
 go_wp2_with ((with_reducible show WL _ _);refine sta 132 (.tmp 12) (.tmp 21) b12 0 ([dnV b6 b7 b11 b4 b12]) (HL.out.b 0) (by simp) (by kernel_rfl) (one9) ?_)
 intro w9 hk hb;replace hb:w9.heap[b12]?=some (.cells #[dnV b6 b7 b11 b4 b12] 132 (0,0)):=hb;replace HL:=O (HL.out.set 0 hk hb);replace HPT:=O (HPT.out.keepT hk fun i hi e=>by have h1:=HPO.out i hi;have h2:=(HL.out.lt 0).1;omega);replace HKI:=O (HKI.out.keepT hk fun i e hb=>by have h1:=HBLT.out i hb;have h2:=(HL.out.lt 0).1;omega);replace HGB:=O (hk.blk HGB.out fun e=>by have h1:=HGL.out;have h2:=(HL.out.lt 0).1;omega);clear hk hb;obtain⟨N0,hN0⟩:∃n,w9.heap.size=n:=⟨_,rfl⟩
 have hg_:g<w9.heap.size:=Nat.lt_of_lt_of_le HGL.out HL.out.keep.size;have hB0:∀i,B i->i<N0:=fun i e=>by have h1:=HBLT.out i e;have h2:=HL.out.keep.size;omega
 have hT0:Thr B N0 c g x b6 b7 b11 b4 b12 w9:=⟨HGB.out,HL.out.b 4,HL.out.b 3,HL.out.b 6,HL.out.b 0,fun i hi=>by
  have g6:=HL.out.lt 4;have g7:=HL.out.lt 3;have g4:=HL.out.lt 6;have g12:=HL.out.lt 0;have g11:=HL.out.lt 1;have gg:=HGL.out;have n6:b11≠b6:=bF HL.out.nd (i:=4) rfl 1 (by decide) rfl;have n7:b11≠b7:=bF HL.out.nd (i:=3) rfl 1 (by decide) rfl;have n4:b11≠b4:=bF HL.out.nd (i:=6) rfl 1 (by decide) rfl;have n12:b11≠b12:=bF HL.out.nd (i:=0) rfl 1 (by decide) rfl;rcases hi with rfl|rfl|rfl|rfl|rfl<;>omega,⟨by have g11:=HL.out.lt 1;omega,fun e=>by have h1:=HBLT.out _ e;have g11:=HL.out.lt 1;omega⟩⟩
 have HO0:Hid (jR N0 b11 w9 (.slice none 0 0) []):=O ⟨HL.out.b 1,World.ownsRow_nil _ _ _ _,fun x hx=>by cases hx⟩;have HT:=O hT0;have HB0:=O hB0;have HN0:=O hN0;have HPO2:Hid (∀i,pv.ownBlock=some i->i≠b11/\(Value.slice none 0 0).ownBlock≠some i):=O (fun i hi=>⟨fun e=>by have h1:=HPO.out i hi;have h2:=(HL.out.lt 1).1;omega,fun e=>by cases e⟩);clear hg_ hB0 hT0 hN0;have HKW0:=O HL.out.keep.size;have c1:w9.cell? ⟨b12,0,none⟩=some (dnV b6 b7 b11 b4 b12):=(aC (i:=0) (HL.out.b 0) rfl)
 go_wp2_with ((with_reducible show WL _ _);first
  | refine wpList_load_mid rfl 27 (.tmp 5) rfl b5 0 rfl pc _ (aD (HL.out.b 5)) aF rfl (szP9 hpc) ?_
  | refine bld 90 #[(0,.tmp 23)] [(0,.agg pc.toArray)] (.agg lc.toArray) HBP.out ?_)
 clear c1;have HNS:Hid (w.heap.size≤N0):=O (by have h1:=HN0.out;have h2:=HKW0.out;omega);refine((by rw[←HLC.out,←HPE.out];exact Lb HB0.out 3 (by omega) w9 (.slice none 0 0) [] pv t 0 HKI.out HT.out HO0.out (by have h1:=HN0.out;have h2:=HL.out.keep.size;omega) (by rw[List.length_nil,Nat.zero_add];exact HM.out) (by decide) HTR.out (by rw[HPE.out];exact HPT.out) HPO2.out:Calls _ _ _ w9 (pX N0 b11 x 3 t 0 (.slice none 0 0) [] w9))).mono ?_;rintro e wa ⟨v,qs,rfl,ho,hq,-,hk⟩;have HC11:=O (cell_of_one ho.cell)
 have HP:Hid (lG w ((thr (bD x) 3 t 0).map (·.1)) (.returned (.tuple #[v,.int .i64 0])) wa):=O (by
  have hsz:=HL.out.keep.size;have hn:=HN0.out;have hr:=ho.row;rw[List.nil_append] at hr;refine⟨v,qs,rfl,hq,?_,fun y hy=>⟨(ho.at_ y hy).1,fun i hi=>⟨?_,((ho.at_ y hy).2 i hi).2⟩⟩,HL.out.keep.trans' hk (fun _ _ h=>h) (fun i hi e=>?_)⟩
  ·rw[←hq,List.length_map]
   exact aV hr HNS.out
  ·exact Nat.le_trans HNS.out ((ho.at_ y hy).2 i hi).1
  ·rcases e with e|e
   ·have h1:=(HL.out.lt 1).1;omega
   ·cases e)
 clear HL HT HO0 HKI HPT ho hq hk;have c1:wa.cell? ⟨b11,0,none⟩=some (v):=HC11.out;go_wp2_with fail;clear c1
 go_ret2
 exact HP.out
theorem MM{S:Kor}{t:Tr}{x:Int}(h:Tr.Ok S 3 t):(thr (bD x) 3 t 0).length≤1000:=by
 have q:∀{l:Nat}{t:Tr}{a:Nat},(thr (bD x) l t a).length≤2*4 ^ l-1:=by
  intro l
  induction l with
  | zero=>intro t a;rw[gR];split<;>simp
  | succ l ih =>
    intro t a;rw[gS];split
    ·simp
    ·have h0:=ih (t:=t.kid 0) (a:=a+0*4 ^ l);have h1:=ih (t:=t.kid 1) (a:=a+1*4 ^ l);have h2:=ih (t:=t.kid 2) (a:=a+2*4 ^ l);have h3:=ih (t:=t.kid 3) (a:=a+3*4 ^ l)
     rw[List.length_cons,show List.range 4=[0,1,2,3] from rfl];simp only[List.flatMap_cons,List.flatMap_nil,List.append_nil,List.length_append];have hp:0<4 ^ l:=Nat.pos_of_ne_zero (by simp);rw[Nat.pow_succ];omega
 have:=q (l:=3) (t:=t) (a:=0);omega
theorem DF{w:World}{c:Nat}{S:Kor}{B:Nat->Prop}(hK:KI w c S B)(pv:Value)(t:Tr)(ht:Tr.Ok S 3 t)(hp:bA w B pv t.ptr):Calls Tryz.prog 15 #[.pointer (some ⟨c,0,none⟩),.agg (aE pv t.ptr).toArray] w (lG w (fR 3 t)):=by
 have HTR:=O ht;have HEQ:Hid ((thr (bD 0) 3 t 0).map (·.1)=fR 3 t):=O (by rw[zO ht];rfl);have HKI:=O hK;obtain⟨p,hpe⟩:∃p,t.ptr=p:=⟨_,rfl⟩
 have HPE:=O hpe;rw[hpe] at hp ⊢;have HPT:=O hp;obtain⟨pc,HPC,hpc,HOP⟩:=nmPt hp.pt;rw[HPC.out];clear hp ht hK hpe;have HL:=lN w;go_in
 go_wp2_with ((with_reducible show WL _ _);refine bxL HL 27 (.tmp 1) (pc.toArray) ?_)
 intro b3 w1 hk HL;replace HPT:=pK HPT hk;replace HKI:=O (KI.keep0 HKI.out hk);clear hk;go_wp2_with fail;refine dwA aB (by kernel_rfl) ?_;intro w2 S HSE HSI hS hkd;replace HL:=kL HL hkd;replace HPT:=pK HPT hkd;replace HKI:=O (KI.keep0 HKI.out hkd);clear hkd;have HLs:=HL;have HPTs:=HPT;have HKIs:=HKI;refine tna 0 (.pointer (some ⟨c,0,none⟩)) rfl hS ?_;refine tnd 1 (.agg pc.toArray) rfl (yieldsIf_load_mid (by rfl) 27 (.tmp 3) rfl b3 0 rfl pc _ (fun w' h=>aD ((HSE.out w' h).blk (HLs.out.b 0) id)) aF rfl (szP9 hpc)) hS ?_;refine wA9 2 ?_;go_wp2_with fail;refine((oD w2 0)).mono ?_;rintro e w3 ⟨g,rfl,hg,-,hk⟩;have HGB:=O hg;clear hg;have hS1:=HSI.out _ ((HSE.out _ hS).trans hk);replace HL:=kL HL hk;replace HPT:=pK HPT hk;replace HKI:=O (KI.keep0 HKI.out hk);clear hS hk;go_wp2_with fail;refine⟨hS1,?_⟩;refine wA9 3 ?_;go_wp2_with fail;refine((by rw[←HPC.out,←HPE.out];exact Eu HKI.out HGB.out pv t HTR.out (by rw[HPE.out];exact HPT.out) (MM HTR.out):Calls _ _ _ w3 (lG w3 ((thr (bD 0) 3 t 0).map (·.1))))).mono ?_;rintro e w4 ⟨v,qs,rfl,hq,ho,hat,hk⟩
 have HP:Hid (lG w (fR 3 t) (.returned (.tuple #[v,.int .i64 0])) w4):=O (by
  rw[HEQ.out] at hq ho;exact⟨v,qs,rfl,hq,aV ho HL.out.keep.size,fun y hy=>⟨(hat y hy).1,fun i hi=>⟨Nat.le_trans HL.out.keep.size ((hat y hy).2 i hi).1,((hat y hy).2 i hi).2⟩⟩,HL.out.keep.trans hk⟩)
 have hS2:=HSI.out _ ((HSE.out _ hS1).trans hk);clear hS1 hk hq ho hat HL HKI HPT HGB;go_wp2_with fail;refine⟨hS2,?_⟩;refine tnb 4 v rfl hS2 ?_;refine tnb 5 (.int .i64 0) rfl hS2 ?_;refine tna 6 v rfl hS2 ?_;refine tna 7 (.int .i64 0) rfl hS2 ?_;refine wpAnyH_done (by kernel_rfl) ?_ _;clear hS2 HSE HSI HLs HPTs HKIs;go_wp2
 go_ret2
 exact HP.out
abbrev bkV:Value:=.func (.func 38) #[] #[]
abbrev dbV(b6 b7 b11 b4 b12:Nat):Value:=.func (.func 69) #[] #[.pointer (some ⟨b6,0,none⟩),.pointer (some ⟨b7,0,none⟩),.pointer (some ⟨b11,0,none⟩),.pointer (some ⟨b4,0,none⟩),.pointer (some ⟨b12,0,none⟩)]
def bks(f:Pt->Bool):Nat->Tr->Nat->List Nat
 | 0,t,a=>if t.isHole || !f t.ptr then [] else [a]
 | l+1,t,a=>if t.isHole || !f t.ptr then [] else (List.range 4).flatMap fun i=>bks f l (t.kid i) (a+i*4 ^ l)
theorem xQ(f:Pt->Bool)(t:Tr)(a:Nat):bks f 0 t a=if t.isHole || !f t.ptr then [] else [a]:=rfl
theorem xR(f:Pt->Bool)(l:Nat)(t:Tr)(a:Nat):bks f (l+1) t a=if t.isHole || !f t.ptr then [] else (List.range 4).flatMap fun i=>bks f l (t.kid i) (a+i*4 ^ l):=rfl
theorem Lc{x:Int}{l a:Nat}{t:Tr}(h:t.isHole=true\/decide (x<t.ptr.birth)=false):bks (bD x) l t a=[]:=by
 have e:(t.isHole || !bD x t.ptr)=true:=by
  rcases h with h|h
  ·rw[h];rfl
  ·show (t.isHole || !(decide (x<t.ptr.birth)))=true
   rw[h];simp
 cases l with
 | zero=>rw[xQ,if_pos e]
 | succ l=>rw[xR,if_pos e]
theorem MN{x:Int}{a:Nat}{t:Tr}(hh:t.isHole=false)(hn:decide (x<t.ptr.birth)=true):bks (bD x) 0 t a=[a]:=by
 rw[xQ,hh];exact if_neg (by show ¬(false || !(decide (x<t.ptr.birth)))=true;rw[hn];decide)
theorem DG{f:Pt->Bool}{l a:Nat}{t:Tr}(hh:t.isHole=false)(hf:f t.ptr=true):bks f (l+1) t a=(List.range 4).flatMap fun i=>bks f l (t.kid i) (a+i*4 ^ l):=by
 rw[xR,hh,hf];rfl
def xS(ns:List Nat):List Value:=ns.map fun(i:Nat)=>Value.int .i64 (i:Int)
structure ThB(B:Nat->Prop)(N0 c g:Nat)(x:Int)(b6 b7 b11 b4 b12:Nat)(w:World):Prop where
 cg:w.heap[g]?=some (.cells #[.int .i64 x] 3 (0,0))
 c6:w.heap[b6]?=some (.cells #[nwV g] 85 (0,0))
 c7:w.heap[b7]?=some (.cells #[bkV] 91 (0,0))
 c4:w.heap[b4]?=some (.cells #[.pointer (some ⟨c,0,none⟩)] 39 (0,0))
 c12:w.heap[b12]?=some (.cells #[dbV b6 b7 b11 b4 b12] 132 (0,0))
 lt:∀i,i=g\/i=b6\/i=b7\/i=b4\/i=b12->i<N0/\i≠b11
 l11:b11<N0/\¬B b11
theorem ThB.keep{B T:Nat->Prop}{N0 c g:Nat}{x:Int}{b6 b7 b11 b4 b12:Nat}{w w':World}(h:ThB B N0 c g x b6 b7 b11 b4 b12 w)(k:aA T w w')(hT:∀i,T i->i=b11\/N0≤i):ThB B N0 c g x b6 b7 b11 b4 b12 w':=by
 have q:∀i,i=g\/i=b6\/i=b7\/i=b4\/i=b12->¬T i:=fun i hi e=>by
  obtain⟨h1,h2⟩:=h.lt i hi;exact(hT i e).elim h2 fun h3=>by omega
 exact⟨k.blk h.cg (q _ (.inl rfl)),k.blk h.c6 (q _ (.inr (.inl rfl))),k.blk h.c7 (q _ (.inr (.inr (.inl rfl)))),k.blk h.c4 (q _ (.inr (.inr (.inr (.inl rfl))))),k.blk h.c12 (q _ (.inr (.inr (.inr (.inr rfl))))),h.lt,h.l11⟩
structure mV(N0 b11:Nat)(w:World)(v:Value)(ns:List Nat):Prop where
 cell:w.heap[b11]?=some (.cells #[v] 42 (0,0))
 row:w.ownsRow N0 3 1 v ns.length (xS ns)
theorem mV.keep{T:Nat->Prop}{N0 b11:Nat}{w w':World}{v:Value}{ns:List Nat}(h:mV N0 b11 w v ns)(k:aA T w w')(h11:¬T b11)(hv:∀i,v.ownBlock=some i->¬T i):mV N0 b11 w' v ns:=⟨k.blk h.cell h11,k.owns h.row hv⟩
theorem mV.keep0{N0 b11:Nat}{w w':World}{v:Value}{ns:List Nat}(h:mV N0 b11 w v ns)(k:aA aB w w'):mV N0 b11 w' v ns:=h.keep k id fun _ _=>id
def pY(N0 b11:Nat)(x:Int)(l:Nat)(t:Tr)(a:Nat)(v:Value)(ns:List Nat)(w:World)(e:Ending)(w':World):Prop:=
 ∃v',e=.returned (.int .i64 0)/\mV N0 b11 w' v' (ns++bks (bD x) l t a)/\(∀i,v'.ownBlock=some i->v.ownBlock=some i\/w.heap.size≤i)/\aA (fun i=>i=b11\/v.ownBlock=some i) w w'
def NG(B:Nat->Prop)(S:Kor)(c N0 g q6 q7 q11 q4 q12:Nat)(x:Int)(l:Nat):Prop:=∀(w:World) (v:Value) (ns:List Nat) (pv:Value) (t:Tr) (a:Nat),KI w c S B->ThB B N0 c g x q6 q7 q11 q4 q12 w->mV N0 q11 w v ns->N0≤w.heap.size->ns.length+(bks (bD x) l t a).length≤1000->a+4 ^ l≤64->Tr.Ok S l t->bA w B pv t.ptr->(∀i,pv.ownBlock=some i->i≠q11/\v.ownBlock≠some i) ->
 Calls Tryz.prog 69 #[.agg (dJ pv t.ptr (a:Int)).toArray,.int .i64 (l:Int),.pointer (some ⟨q6,0,none⟩),.pointer (some ⟨q7,0,none⟩),.pointer (some ⟨q11,0,none⟩),.pointer (some ⟨q4,0,none⟩),.pointer (some ⟨q12,0,none⟩)] w (pY N0 q11 x l t a v ns w)
structure tB(w:World)(B:Nat->Prop)(S:Kor)(c N0 g q6 q7 q11 q4 q12:Nat)(x:Int)(b7 b12 l:Nat)(t:Tr)(a:Nat)(pv v:Value)(ns:List Nat)(vs:Nat->Value)(k:Nat)(wr:World)(vk:Value):Prop where
 ki:KI wr c S B
 th:ThB B N0 c g x q6 q7 q11 q4 q12 wr
 out:mV N0 q11 wr vk (ns++(List.range k).flatMap fun i=>bks (bD x) l (t.kid i) (a+i*4 ^ l))
 old:cF wr B vs (fun i=>(t.kid i).ptr)
 off:∀q,q<4->∀i,(vs q).ownBlock=some i->i≠q11/\vk.ownBlock≠some i
 h7:wr.heap[b7]?=some (.cells (dJ pv t.ptr (a:Int)).toArray 90 (0,0))
 h12:wr.heap[b12]?=some (.cells (cE ((l+1:Nat):Int) vs (fun i=>(t.kid i).ptr)).toArray 98 (0,0))
 own:∀i,vk.ownBlock=some i->(v.ownBlock=some i\/w.heap.size≤i)/\i≠b7/\i≠b12
 ge:N0≤b7/\N0≤b12/\N0≤w.heap.size
 keep:aA (fun i=>i=q11\/v.ownBlock=some i) w wr
theorem MO{α:Type}(f:Nat->List α){k:Nat}(hk:k<4):((List.range k).flatMap f).length+(f k).length≤((List.range 4).flatMap f).length:=by
 have h1:((List.range (k+1)).flatMap f).length≤((List.range 4).flatMap f).length:=by
  have:∃r,(List.range 4)=List.range (k+1)++r:=by
   have:k=0\/k=1\/k=2\/k=3:=by omega
   rcases this with rfl|rfl|rfl|rfl<;>exact⟨_,rfl⟩
  obtain⟨r,e⟩:=this;rw[e,List.flatMap_append,List.length_append];omega
 rw[List.range_succ,List.flatMap_append,List.length_append] at h1
 simpa only[List.flatMap_cons,List.flatMap_nil,List.append_nil] using h1
theorem tB.len{w:World}{B:Nat->Prop}{S:Kor}{c N0 g q6 q7 q11 q4 q12:Nat}{x:Int}{b7 b12 l:Nat}{t:Tr}{a:Nat}{pv v:Value}{ns:List Nat}{vs:Nat->Value}{k:Nat}{wr:World}{vk:Value}
 (h:tB w B S c N0 g q6 q7 q11 q4 q12 x b7 b12 l t a pv v ns vs k wr vk) (hk:k<4) (hm:ns.length+(bks (bD x) (l+1) t a).length≤1000) (hh:t.isHole=false) (hf:bD x t.ptr=true):(ns++(List.range k).flatMap fun i=>bks (bD x) l (t.kid i) (a+i*4 ^ l)).length+(bks (bD x) l (t.kid k) (a+k*4 ^ l)).length≤1000:=by
 rw[DG hh hf] at hm;have:=MO (fun i=>bks (bD x) l (t.kid i) (a+i*4 ^ l)) hk;rw[List.length_append];omega
theorem tB.step{w:World}{B:Nat->Prop}{S:Kor}{c N0 g q6 q7 q11 q4 q12:Nat}{x:Int}{b7 b12 l:Nat}{t:Tr}{a:Nat}{pv v:Value}{ns:List Nat}{vs:Nat->Value}{k:Nat}{wr w1 w2:World}{vk:Value}{e:Ending}
 (h:tB w B S c N0 g q6 q7 q11 q4 q12 x b7 b12 l t a pv v ns vs k wr vk) (hB:∀i,B i->i<N0) (k1:aA aB wr w1) (hm:pY N0 q11 x l (t.kid k) (a+k*4 ^ l) vk (ns++(List.range k).flatMap fun i=>bks (bD x) l (t.kid i) (a+i*4 ^ l)) w1 e w2):e=.returned (.int .i64 0)/\aA (fun i=>i=q11\/vk.ownBlock=some i) w1 w2/\∃v',tB w B S c N0 g q6 q7 q11 q4 q12 x b7 b12 l t a pv v ns vs (k+1) w2 v':=by
 obtain⟨v',he,ho,hv,hk⟩:=hm;have hge:∀i,vk.ownBlock=some i->N0≤i:=fun i hi=>aS h.out.row hi
 have h11:=h.th.l11;have hk2:aA (fun i=>i=q11\/vk.ownBlock=some i) wr w2:=k1.trans' hk (fun _ _ h=>h.elim) (fun _ _ h=>h);have hlt:∀i,(∃q,q<4/\(vs q).ownBlock=some i)->i<wr.heap.size:=fun i ⟨q,hq,hi⟩=>((h.old q hq).off i hi).2.lt
 have h7l:=lt_of_block h.h7;have h12l:=lt_of_block h.h12;have hg:=h.ge
 have hoff:∀q,q<4->∀i,(vs q).ownBlock=some i->¬(i=q11\/vk.ownBlock=some i):=fun q hq i hi e=>by
  have:=h.off q hq i hi;exact e.elim this.1 this.2
 refine⟨he,hk,v',h.ki.keepT hk2 fun i hi hb=>?_,h.th.keep hk2 fun i hi=>hi.imp id (hge i),?_,h.old.keepT hk2 hoff,fun q hq i hi=>⟨(h.off q hq i hi).1,fun e=>?_⟩,hk2.blk h.h7 fun e=>?_,hk2.blk h.h12 fun e=>?_,fun i hi=>?_,hg,h.keep.trans' hk2 (fun _ _ h=>h) fun i hi e=>?_⟩
 ·rcases hi with rfl|hi
  ·exact h11.2 hb
  ·have:=hge i hi;have:=hB i hb;omega
 ·rw[List.append_assoc] at ho
  rw[List.range_succ,List.flatMap_append]
  simpa only[List.flatMap_cons,List.flatMap_nil,List.append_nil] using ho
 ·rcases hv i e with e|e
  ·exact(h.off q hq i hi).2 e
  ·have:=hlt i ⟨q,hq,hi⟩;have:=k1.size;omega
 ·rcases e with e|e
  ·omega
  ·exact(h.own _ e).2.1 rfl
 ·rcases e with e|e
  ·omega
  ·exact(h.own _ e).2.2 rfl
 ·rcases hv i hi with e|e
  ·exact h.own i e
  ·have:=k1.size;have:=h.keep.size
   exact⟨.inr (by omega),by omega,by omega⟩
 ·rcases e with e|e
  ·exact .inl e
  ·exact(h.own i e).1.elim .inr fun e=>absurd hi (by omega)
theorem tB.fin{w:World}{B:Nat->Prop}{S:Kor}{c N0 g q6 q7 q11 q4 q12:Nat}{x:Int}{b7 b12 l:Nat}{t:Tr}{a:Nat}{pv v:Value}{ns:List Nat}{vs:Nat->Value}{wr w':World}{vk:Value}
 (h:tB w B S c N0 g q6 q7 q11 q4 q12 x b7 b12 l t a pv v ns vs 4 wr vk) (hh:t.isHole=false) (hf:bD x t.ptr=true) (k:aA aB wr w'):pY N0 q11 x (l+1) t a v ns w (.returned (.int .i64 0)) w':=
 ⟨vk,rfl,by rw[DG hh hf];exact h.out.keep0 k,fun i hi=>(h.own i hi).1,h.keep.trans' k (fun _ _ h=>h) (fun _ _ e=>e.elim)⟩
theorem MP{x:Int}{t:Tr}:(bks (bD x) 3 t 0).length≤64:=by
 have q:∀{l:Nat}{t:Tr}{a:Nat},(bks (bD x) l t a).length≤4 ^ l:=by
  intro l
  induction l with
  | zero=>intro t a;rw[xQ];split<;>simp
  | succ l ih =>
    intro t a;rw[xR];split
    ·simp
    ·have h0:=ih (t:=t.kid 0) (a:=a+0*4 ^ l);have h1:=ih (t:=t.kid 1) (a:=a+1*4 ^ l);have h2:=ih (t:=t.kid 2) (a:=a+2*4 ^ l);have h3:=ih (t:=t.kid 3) (a:=a+3*4 ^ l)
     rw[show List.range 4=[0,1,2,3] from rfl];simp only[List.flatMap_cons,List.flatMap_nil,List.append_nil,List.length_append];rw[Nat.pow_succ];omega
 exact q (l:=3)
theorem Oq:Hid (∀w,(zeroValue 42).run Tryz.prog w=.ok (.slice none 0 0) w):=O fun w=>by kernel_rfl
theorem Ld:(Tryz.prog.info? 3).map (fun i=>(i.zero,i.size,i.bytes))=some (some (.int .i64 0),1,8):=by kernel_rfl
theorem NH{w:World}{b:Nat}{v:Value}{p:Pt}{a:Int}{t:TypeId}{fr:Nat×Nat}(h:w.heap[b]?=some (.cells (dJ v p a).toArray t fr)):w.cell? ⟨b,2,none⟩=some (.int .i64 p.level):=aC h rfl
def vQ(w:World)(p:Pt)(a:Nat)(e:Ending)(w':World):Prop:=e=.returned (.tuple #[.int .i64 (a:Int),.bool (decide (p.level=0))])/\aA aB w w'
theorem Bu(w:World)(pv:Value)(p:Pt)(hp:PtV w pv p)(a:Nat):Calls Tryz.prog 38 #[.agg (dJ pv p (a:Int)).toArray] w (vQ w p a):=by
 have HSM:=O hp.sum;have hlc:=jO (v:=pv) (a:=(a:Int)) hp.sum;have HOL0:=jP (a:=(a:Int)) hp;obtain⟨lc,hlce⟩:∃l,dJ pv p (a:Int)=l:=⟨_,rfl⟩
 have HOL:Hid (∀u∈lc,u.oneCell'=true):=O (by rw[←hlce];exact HOL0);have HLC:=O hlce;rw[hlce] at hlc ⊢;obtain⟨lv,hlv⟩:∃x,p.level=x:=⟨_,rfl⟩
 have HLV:=O hlv;have HPO:Hid (∀w',aA aB w w'->vQ w p a (.returned (.tuple #[.int .i64 (a:Int),.bool (decide (lv=0))])) w'):=O fun w' k=>by rw[←hlv];exact⟨rfl,k⟩
 have hdl:(lv == 0)=decide (lv=0):=by rw[Bool.eq_iff_iff];simp
 have HL:=lN w;clear HOL0 hlce hp hlv;go_in
 go_wp2_with ((with_reducible show WL _ _);refine bxL HL 90 (.tmp 0) (lc.toArray) ?_)
 intro b1 w1 hk HL;clear hk;go_wp2_with fail;refine dwA aB (by kernel_rfl) ?_;intro w2 S HSE HSI hS hkd;replace HL:=kL HL hkd;clear hkd;have HLs:=HL;refine tnb 0 (.pointer (some ⟨b1,35,none⟩)) rfl hS ?_;refine tnd 1 (.int .i64 (a:Int)) rfl (.inl ⟨by rfl,fun w' hw'=>by have c:World.cell? w' ⟨b1,35,none⟩=some (.int .i64 (a:Int)):=(GD HSM.out (by have h:=((HSE.out w' hw').blk (HLs.out.b 0) id);rw[←HLC.out] at h;exact h));go_simp⟩) hS ?_;refine tnb 2 (.pointer (some ⟨b1,0,none⟩)) rfl hS ?_;refine tnb 3 (.pointer (some ⟨b1,2,none⟩)) rfl hS ?_;refine tnd 4 (.int .i64 lv) rfl (.inl ⟨by rfl,fun w' hw'=>by have c:World.cell? w' ⟨b1,2,none⟩=some (.int .i64 lv):=(by have h:=NH (by have h:=((HSE.out w' hw').blk (HLs.out.b 0) id);rw[←HLC.out] at h;exact h:_=some (Obj.cells (dJ pv p (a:Int)).toArray _ _));rw[HLV.out] at h;exact h);go_simp⟩) hS ?_;refine tnd 5 (.bool (decide (lv=0))) rfl (.inl ⟨by rfl,fun _ _=>by go_simp⟩) hS ?_;refine tna 6 (.int .i64 (a:Int)) rfl hS ?_;refine tna 7 (.bool (decide (lv=0))) rfl hS ?_;refine wpAnyH_done (by kernel_rfl) ?_ _;clear hS HSE HSI HLs;have HP:=HPO.out _ HL.out.keep;clear HL;go_wp2
 go_ret2
 exact HP
theorem nJ{w:World}{c:Nat}{S:Kor}{B:Nat->Prop}(hK:KI w c S B){N0 g q6 q7 q11 q4 q12:Nat}{x:Int}(hT:ThB B N0 c g x q6 q7 q11 q4 q12 w){v:Value}{ns:List Nat}(hO:mV N0 q11 w v ns)(pv:Value)(t:Tr)(l a:Nat)(ht:Tr.Ok S l t)(hp:bA w B pv t.ptr)(hs:t.isHole=true\/decide (x<t.ptr.birth)=false):Calls Tryz.prog 69 #[.agg (dJ pv t.ptr (a:Int)).toArray,.int .i64 (l:Int),.pointer (some ⟨q6,0,none⟩),.pointer (some ⟨q7,0,none⟩),.pointer (some ⟨q11,0,none⟩),.pointer (some ⟨q4,0,none⟩),.pointer (some ⟨q12,0,none⟩)] w (pY N0 q11 x l t a v ns w):=by
 have HT:=O hT;have HO:=O hO;have HK:=O hK;have HEQ:=O (Lc (a:=a) (l:=l) hs);have HHE:=O ht.hole_eq;obtain⟨p,hpe⟩:∃p,t.ptr=p:=⟨_,rfl⟩
 have HPE:=O hpe;rw[hpe] at hp hs HHE ⊢;have HPT:=O hp;have hpc:=aJ (v:=pv) hp.pt.sum;have HOP0:=aU hp.pt;have hlc:=jO (v:=pv) (a:=(a:Int)) hp.pt.sum;have HOL0:=jP (a:=(a:Int)) hp.pt;have HSM:=O hp.pt.sum;obtain⟨pc,hpce⟩:∃l,aE pv p=l:=⟨_,rfl⟩
 obtain⟨lc,hlce⟩:∃l,dJ pv p (a:Int)=l:=⟨_,rfl⟩
 have HOP:Hid (∀u∈pc,u.oneCell'=true):=O (by rw[←hpce];exact HOP0);have HOL:Hid (∀u∈lc,u.oneCell'=true):=O (by rw[←hlce];exact HOL0);have HPC:=O hpce;have HLC:=O hlce;rw[hpce] at hpc;rw[hlce] at hlc ⊢;have HS:=O hs;clear HOP0 HOL0 hpce hlce hp hT hO hK ht hs hpe;have HL:=lN w;go_in
 go_wp2_with ((with_reducible show WL _ _);refine bxL HL 90 (.tmp 0) (lc.toArray) ?_)
 intro b7 w1 hk HL;replace HPT:=pK HPT hk;replace HT:=O (HT.out.keep hk fun _ e=>e.elim);replace HO:=O (HO.out.keep0 hk);clear hk
 go_wp2_with ((with_reducible show WL _ _);refine wpList_load_mid rfl 27 (.tmp 15) rfl b7 0 rfl pc _ (by have h:=HL.out.b 0;rw[←HLC.out] at h;rw[←HPC.out];exact eI h) aF rfl (szP9 hpc) ?_)
 refine((by rw[←HPC.out];exact cJ w1 pv p HPT.out.pt:Calls _ _ _ w1 (aX w1 p.hole))).mono ?_;rintro e w2 ⟨rfl,hk⟩;replace HL:=kL HL hk;replace HPT:=pK HPT hk;replace HT:=O (HT.out.keep hk fun _ e=>e.elim);replace HO:=O (HO.out.keep0 hk);clear hk;obtain⟨hb_,hhb⟩:∃b,p.hole=b:=⟨_,rfl⟩
 rw[hhb];have HHB:=O hhb;clear hhb;cases hb_ with
 | true =>
   have HP:Hid (pY N0 q11 x l t a v ns w (.returned (.int .i64 0)) w2):=O ⟨v,rfl,by rw[HEQ.out,List.append_nil];exact HO.out,fun i h=>.inl h,HL.out.keep.any⟩;clear HL HT HO HPT HK;go_wp2;go_ret;exact HP.out
 | false =>
   have hnw:=HS.out.resolve_left (by rw[←HHE.out,HHB.out];decide);have HNW:=O hnw;clear hnw;have c1:w2.cell? ⟨q6,0,none⟩=some (nwV g):=(cell_of_one HT.out.c6)
   go_wp2_with ((with_reducible show WL _ _);refine aM (by rfl) 27 (.tmp 20) rfl b7 0 rfl pc _ (by have h:=HL.out.b 0;rw[←HLC.out] at h;rw[←HPC.out];exact eI h) aF rfl (szP9 hpc) ?_)
   clear c1;refine((by rw[←HPC.out];exact kC HT.out.cg pv p HPT.out.pt:Calls _ _ _ w2 (aX w2 (decide (x<p.birth))))).mono ?_;rintro e w3 ⟨rfl,hk⟩;replace HL:=kL HL hk;replace HPT:=pK HPT hk;replace HT:=O (HT.out.keep hk fun _ e=>e.elim);replace HO:=O (HO.out.keep0 hk);clear hk;rw[HNW.out];have HP:Hid (pY N0 q11 x l t a v ns w (.returned (.int .i64 0)) w3):=O ⟨v,rfl,by rw[HEQ.out,List.append_nil];exact HO.out,fun i h=>.inl h,HL.out.keep.any⟩;clear HL HT HO HPT HK;go_wp2;go_ret;exact HP.out
theorem Ev{w:World}{c:Nat}{S:Kor}{B:Nat->Prop}(hK:KI w c S B){N0 g q6 q7 q11 q4 q12:Nat}{x:Int}(hT:ThB B N0 c g x q6 q7 q11 q4 q12 w){v:Value}{ns:List Nat}(hO:mV N0 q11 w v ns)(hN:N0≤w.heap.size)(pv:Value)(t:Tr)(a:Nat)(hns:ns.length≤1000)(ha:a≤64)(ht:Tr.Ok S 0 t)(hp:bA w B pv t.ptr)(hpo:∀i,pv.ownBlock=some i->i≠q11/\v.ownBlock≠some i)(hh:t.isHole=false)(hn:decide (x<t.ptr.birth)=true):Calls Tryz.prog 69 #[.agg (dJ pv t.ptr (a:Int)).toArray,.int .i64 0,.pointer (some ⟨q6,0,none⟩),.pointer (some ⟨q7,0,none⟩),.pointer (some ⟨q11,0,none⟩),.pointer (some ⟨q4,0,none⟩),.pointer (some ⟨q12,0,none⟩)] w (pY N0 q11 x 0 t a v ns w):=by
 have hhp:t.ptr.hole=false:=by rw[ht.hole_eq,hh]
 have HEQ:=O (MN (a:=a) hh hn);have HT:=O hT;have HO:=O hO;have HNN:=O hN;have HNS:=O hns;have HAA:=O ha;have hlev:t.ptr.level=0:=(ht.born hh).2.2;obtain⟨p,hpe⟩:∃p,t.ptr=p:=⟨_,rfl⟩
 have HPE:=O hpe;rw[hpe] at hp hhp hn hlev ⊢;have HPT:=O hp;have hpc:=aJ (v:=pv) hp.pt.sum;have HOP0:=aU hp.pt;have hlc:=jO (v:=pv) (a:=(a:Int)) hp.pt.sum;have HOL0:=jP (a:=(a:Int)) hp.pt;have HSM:=O hp.pt.sum;obtain⟨pc,hpce⟩:∃l,aE pv p=l:=⟨_,rfl⟩
 obtain⟨lc,hlce⟩:∃l,dJ pv p (a:Int)=l:=⟨_,rfl⟩
 have HOP:Hid (∀u∈pc,u.oneCell'=true):=O (by rw[←hpce];exact HOP0);have HOL:Hid (∀u∈lc,u.oneCell'=true):=O (by rw[←hlce];exact HOL0);have HPC:=O hpce;have HLC:=O hlce;rw[hpce] at hpc;rw[hlce] at hlc ⊢;have HHP:=O hhp;have HN1:=O hn;have HLEV:=O hlev;clear HOP0 HOL0 hpce hlce hp hT hO hh hhp hn hN hns hpe hK ht hlev ha hpo;have HL:=lN w;go_in
 go_wp2_with ((with_reducible show WL _ _);refine bxL HL 90 (.tmp 0) (lc.toArray) ?_)
 intro b7 w1 hk HL;replace HPT:=pK HPT hk;replace HT:=O (HT.out.keep hk fun _ e=>e.elim);replace HO:=O (HO.out.keep0 hk);clear hk
 go_wp2_with ((with_reducible show WL _ _);refine wpList_load_mid rfl 27 (.tmp 15) rfl b7 0 rfl pc _ (by have h:=HL.out.b 0;rw[←HLC.out] at h;rw[←HPC.out];exact eI h) aF rfl (szP9 hpc) ?_)
 refine((by rw[←HPC.out];exact cJ w1 pv p HPT.out.pt:Calls _ _ _ w1 (aX w1 p.hole))).mono ?_;rintro e w2 ⟨rfl,hk⟩;replace HL:=kL HL hk;replace HPT:=pK HPT hk;replace HT:=O (HT.out.keep hk fun _ e=>e.elim);replace HO:=O (HO.out.keep0 hk);clear hk;rw[HHP.out];have c1:w2.cell? ⟨q6,0,none⟩=some (nwV g):=(cell_of_one HT.out.c6)
 go_wp2_with ((with_reducible show WL _ _);refine aM (by rfl) 27 (.tmp 20) rfl b7 0 rfl pc _ (by have h:=HL.out.b 0;rw[←HLC.out] at h;rw[←HPC.out];exact eI h) aF rfl (szP9 hpc) ?_)
 clear c1;refine((by rw[←HPC.out];exact kC HT.out.cg pv p HPT.out.pt:Calls _ _ _ w2 (aX w2 (decide (x<p.birth))))).mono ?_;rintro e w3 ⟨rfl,hk⟩;replace HL:=kL HL hk;replace HPT:=pK HPT hk;replace HT:=O (HT.out.keep hk fun _ e=>e.elim);replace HO:=O (HO.out.keep0 hk);clear hk;rw[HN1.out];have c1:w3.cell? ⟨q7,0,none⟩=some (bkV):=(cell_of_one HT.out.c7)
 go_wp2_with ((with_reducible show WL _ _);refine wpList_load_mid rfl 90 (.tmp 7) rfl b7 0 rfl lc _ (aD (HL.out.b 0)) Tryz.underlying90 rfl (by rw[hlc];exact vP) ?_)
 clear c1;refine((by rw[←HLC.out];exact Bu w3 pv p HPT.out.pt a:Calls _ _ _ w3 (vQ w3 p a))).mono ?_;rintro e w4 ⟨rfl,hk⟩;replace HL:=kL HL hk;replace HPT:=pK HPT hk;replace HT:=O (HT.out.keep hk fun _ e=>e.elim);replace HO:=O (HO.out.keep0 hk);clear hk;rw[HLEV.out,show decide ((0:Int)=0)=true from rfl];have c1:w4.cell? ⟨q11,0,none⟩=some (v):=(cell_of_one HO.out.cell)
 go_wp2_with ((with_reducible show WL _ _);refine bs1 42 3 (.tmp 33) (.int .i64 (a:Int)) (by kernel_rfl) (by kernel_rfl) Tryz.underlying42 rfl ?_)
 clear c1;intro b34 w5 hbs hk hb;have HRN:Hid (Rd w5 1 (.slice (some ⟨b34,0,none⟩) 1 1) 1 [.int .i64 (a:Int)]):=O (eE (n:=1) (size:=1) hb rfl (by unfold maxLen;omega));replace HL:=lW HL hbs hk hb;replace HPT:=pK HPT hk;replace HT:=O (HT.out.keep hk fun _ e=>e.elim);replace HO:=O (HO.out.keep0 hk);clear hbs hk hb;have HLN:=O (show N0≤w5.heap.size from Nat.le_trans HNN.out HL.out.keep.size);have HPS2:Hid (ns.length+1≤maxLen/\(ns.length+1)*8≤140737488355328):=O (by have:=HNS.out;unfold maxLen;omega)
 go_wp2_with (at_builtin;refine aN rfl (.tmp 32) (.tmp 34) 42 rfl N0 3 (.int .i64 0) 1 8 Tryz.underlying42 Ld rfl (by decide) v ns.length (xS ns) rfl HO.out.row (.slice (some ⟨b34,0,none⟩) 1 1) 1 [.int .i64 (a:Int)] rfl HRN.out (by intro u hu;rcases List.mem_singleton.1 hu with rfl;rfl) HPS2.out.1 HPS2.out.2 HLN.out ?_)
 intro v2 w8 ho5 hk5 hn5 hb5;obtain⟨g2,c2,rfl,-,-⟩:=(Rd.of_owns ho5).form;have H11:=O (hk5.blk HO.out.cell fun e=>by have h1:=aS HO.out.row e;have h2:=HT.out.l11.1;omega);have HO5:=O ho5;have HK5:=O hk5;have HB5:=O hb5;have HKL:=O HL.out.keep;have HOG:=O (fun i (hi:v.ownBlock=some i)=>(aS HO.out.row hi:N0≤i));clear ho5 hk5 hn5 hb5 HRN
 go_wp2_with ((with_reducible show WL _ (.store 42 _ _));refine sta 42 (.tmp 4) (.tmp 35) q11 0 [.slice g2 (ns.length+1) c2] H11.out (by simp) (by kernel_rfl) (by intro u hu;rw[List.mem_singleton] at hu;subst hu;rfl) ?_)
 intro w9 hk hb;replace hb:w9.heap[q11]?=some (.cells #[.slice g2 (ns.length+1) c2] 42 (0,0)):=hb
 have HP:Hid (pY N0 q11 x 0 t a v ns w (.returned (.int .i64 0)) w9):=O (by
  have hge:=fun i (hi:(Value.slice g2 (ns.length+1) c2).ownBlock=some i)=>aS HO5.out hi
  refine⟨_,rfl,⟨hb,?_⟩,fun i hi=>?_,(HKL.out.any.trans' HK5.out (fun _ _ h=>h) (fun i _ e=>.inr e)).trans' hk (fun _ _ h=>h) (fun i _ e=>.inl e)⟩
  ·rw[HEQ.out,List.length_append]
   have e:xS (ns++[a])=xS ns++[.int .i64 (a:Int)]:=by unfold xS;rw[List.map_append];rfl
   rw[e];exact hk.owns HO5.out fun i hi e=>by have h1:=hge i hi;have h2:=HT.out.l11.1;omega
  ·rcases HB5.out with e|e
   ·exact .inl (e▸hi)
   ·rw[e] at hi
    injection hi with hi
    have:=HKL.out.size;exact .inr (by omega))
 clear HL HO HT HPT hk hb HK5 HO5 H11;go_wp2;go_ret;exact HP.out
theorem Ew{w:World}{c:Nat}{S:Kor}{B:Nat->Prop}(hK:KI w c S B){N0 g q6 q7 q11 q4 q12 l:Nat}{x:Int}(hl2:l≤2)(IH:NG B S c N0 g q6 q7 q11 q4 q12 x l)(hB:∀i,B i->i<N0)(hT:ThB B N0 c g x q6 q7 q11 q4 q12 w){v:Value}{ns:List Nat}(hO:mV N0 q11 w v ns)(hN:N0≤w.heap.size)(pv:Value)(t:Tr)(a:Nat)(hps:ns.length+(bks (bD x) (l+1) t a).length≤1000)(ha:a+4 ^ (l+1)≤64)(ht:Tr.Ok S (l+1) t)(hp:bA w B pv t.ptr)(hpo:∀i,pv.ownBlock=some i->i≠q11/\v.ownBlock≠some i)(hh:t.isHole=false)(hn:decide (x<t.ptr.birth)=true):Calls Tryz.prog 69 #[.agg (dJ pv t.ptr (a:Int)).toArray,.int .i64 ((l+1:Nat):Int),.pointer (some ⟨q6,0,none⟩),.pointer (some ⟨q7,0,none⟩),.pointer (some ⟨q11,0,none⟩),.pointer (some ⟨q4,0,none⟩),.pointer (some ⟨q12,0,none⟩)] w (pY N0 q11 x (l+1) t a v ns w):=by
 have hhp:t.ptr.hole=false:=by rw[ht.hole_eq,hh]
 have HIH:=O IH;have HBN:=O hB;have HTR:=O ht;have HPSL:=O hps;have HA:=O ha;have HPO:=O hpo;have HHH:Hid (t.isHole=false/\bD x t.ptr=true):=O ⟨hh,hn⟩;have HT:=O hT;have HQ:=O hO;have HNN:=O hN;have HKI:=O hK;have HVO0:Hid (∀i,v.ownBlock=some i->i<w.heap.size):=O fun i hi=>by (obtain⟨cur,hc⟩:=aL hO.row hi;exact lt_of_block hc)
 have hlev:t.ptr.level=((l+1:Nat):Int):=(ht.born hh).2.2;obtain⟨p,hpe⟩:∃p,t.ptr=p:=⟨_,rfl⟩
 have HPE:=O hpe;rw[hpe] at hp hhp hn hlev ⊢;have HPT:=O hp;have hpc:=aJ (v:=pv) hp.pt.sum;have HOP0:=aU hp.pt;have hlc:=jO (v:=pv) (a:=(a:Int)) hp.pt.sum;have HOL0:=jP (a:=(a:Int)) hp.pt;have HSM:=O hp.pt.sum;obtain⟨pc,hpce⟩:∃l,aE pv p=l:=⟨_,rfl⟩
 obtain⟨lc,hlce⟩:∃l,dJ pv p (a:Int)=l:=⟨_,rfl⟩
 have HOP:Hid (∀u∈pc,u.oneCell'=true):=O (by rw[←hpce];exact HOP0);have HOL:Hid (∀u∈lc,u.oneCell'=true):=O (by rw[←hlce];exact HOL0);have HPC:=O hpce;have HLC:=O hlce;rw[hpce] at hpc;rw[hlce] at hlc ⊢;have HHP:=O hhp;have HN1:=O hn;have HLEV:Hid (decide (p.level=0)=false):=O (decide_eq_false (by rw[hlev];omega));have hl0:(0:Int)≤((l+1:Nat):Int):=by omega
 have hlz:(((l:Int)+1) == 0)=false:=by rw[beq_eq_false_iff_ne];omega
 clear HOP0 HOL0 hpce hlce hp hT hO hh hhp hn hN hps hpe hK IH hB ht ha hpo hlev;have HL:=lN w;go_in
 go_wp2_with ((with_reducible show WL _ _);refine bxL HL 90 (.tmp 0) (lc.toArray) ?_)
 intro b7 w1 hk HL;replace HPT:=pK HPT hk;replace HT:=O (HT.out.keep hk fun _ e=>e.elim);replace HQ:=O (HQ.out.keep0 hk);replace HKI:=O (KI.keep0 HKI.out hk);clear hk
 go_wp2_with ((with_reducible show WL _ _);refine wpList_load_mid rfl 27 (.tmp 15) rfl b7 0 rfl pc _ (by have h:=HL.out.b 0;rw[←HLC.out] at h;rw[←HPC.out];exact eI h) aF rfl (szP9 hpc) ?_)
 refine((by rw[←HPC.out];exact cJ w1 pv p HPT.out.pt:Calls _ _ _ w1 (aX w1 p.hole))).mono ?_;rintro e w2 ⟨rfl,hk⟩;replace HL:=kL HL hk;replace HPT:=pK HPT hk;replace HT:=O (HT.out.keep hk fun _ e=>e.elim);replace HQ:=O (HQ.out.keep0 hk);replace HKI:=O (KI.keep0 HKI.out hk);clear hk;rw[HHP.out];have c1:w2.cell? ⟨q6,0,none⟩=some (nwV g):=(cell_of_one HT.out.c6)
 go_wp2_with ((with_reducible show WL _ _);refine aM (by rfl) 27 (.tmp 20) rfl b7 0 rfl pc _ (by have h:=HL.out.b 0;rw[←HLC.out] at h;rw[←HPC.out];exact eI h) aF rfl (szP9 hpc) ?_)
 clear c1;refine((by rw[←HPC.out];exact kC HT.out.cg pv p HPT.out.pt:Calls _ _ _ w2 (aX w2 (decide (x<p.birth))))).mono ?_;rintro e w3 ⟨rfl,hk⟩;replace HL:=kL HL hk;replace HPT:=pK HPT hk;replace HT:=O (HT.out.keep hk fun _ e=>e.elim);replace HQ:=O (HQ.out.keep0 hk);replace HKI:=O (KI.keep0 HKI.out hk);clear hk;rw[HN1.out];have c1:w3.cell? ⟨q7,0,none⟩=some (bkV):=(cell_of_one HT.out.c7)
 go_wp2_with ((with_reducible show WL _ _);refine wpList_load_mid rfl 90 (.tmp 7) rfl b7 0 rfl lc _ (aD (HL.out.b 0)) Tryz.underlying90 rfl (by rw[hlc];exact vP) ?_)
 clear c1;refine((by rw[←HLC.out];exact Bu w3 pv p HPT.out.pt a:Calls _ _ _ w3 (vQ w3 p a))).mono ?_;rintro e w4 ⟨rfl,hk⟩;replace HL:=kL HL hk;replace HPT:=pK HPT hk;replace HT:=O (HT.out.keep hk fun _ e=>e.elim);replace HQ:=O (HQ.out.keep0 hk);replace HKI:=O (KI.keep0 HKI.out hk);clear hk;rw[HLEV.out];have c1:w4.cell? ⟨q4,0,none⟩=some (.pointer (some ⟨c,0,none⟩)):=(cell_of_one HT.out.c4)
 go_wp2_with ((with_reducible show WL _ _);refine wpList_load_mid rfl 27 (.tmp 40) rfl b7 0 rfl pc _ (by have h:=HL.out.b 0;rw[←HLC.out] at h;rw[←HPC.out];exact eI h) aF rfl (szP9 hpc) ?_)
 clear c1;have HLW:=O HL.out.keep.size;refine((by rw[←HPC.out,←HPE.out];exact Bm HKI.out hl2 pv t HTR.out (by rw[HPE.out];exact HPT.out.pt):Calls _ _ _ w4 (fG w4 B l t))).mono ?_;rintro e w5 ⟨vs,rfl,hvs,hnew,hk⟩;have HNN2:=O hvs;have HNO:Hid (∀q,q<4->∀i,(vs q).ownBlock=some i->i≠q11/\v.ownBlock≠some i):=O (fun q hq i hi=>⟨fun e=>by (have h1:=hnew q hq i hi;have h2:=HLW.out;have h3:=HT.out.l11.1;have h4:=HNN.out;omega),fun e=>by (have h1:=hnew q hq i hi;have h2:=HVO0.out i e;have h3:=HLW.out;omega)⟩);have hnn:=dY ((l+1:Nat):Int) vs hvs.nv;have HOF0:=dI ((l+1:Nat):Int) hvs.nv;obtain⟨nn,hnne⟩:∃x,cE ((l+1:Nat):Int) vs (fun i=>(t.kid i).ptr)=x:=⟨_,rfl⟩
 have HOF:Hid (∀u∈nn,u.oneCell'=true):=O (by rw[←hnne];exact HOF0);have HNF:=O hnne;rw[hnne] at hnn ⊢;clear HOF0 hnne hvs hnew;replace HL:=kL HL hk;replace HPT:=pK HPT hk;replace HT:=O (HT.out.keep hk fun _ e=>e.elim);replace HQ:=O (HQ.out.keep0 hk);replace HKI:=O (KI.keep0 HKI.out hk);clear hk
 go_wp2_with ((with_reducible show WL _ _);refine al 98 (.agg dC.toArray) (dC.toArray) jK ?_)
 intro b12 w6 hbs hk0 hb0_
 go_wp2_with ((with_reducible show WL _ _);refine sta 98 (.tmp 12) (.tmp 44) b12 0 nn hb0_ (by first|decide|(rw[List.size_toArray,hnn];exact Nat.le_refl _)|simp[hnn,bT]) (by rw[hnn];exact dG) HOF.out ?_)
 intro w7 hk hb;rw[aI _ _ (by first|rfl|(rw[List.size_toArray,hnn];rfl)|simp[hnn,bT])] at hb;replace hk:=tX hk0 hk (fun i hi e=>by omega);replace HL:=lW HL hbs hk hb;replace HPT:=pK HPT hk;replace HT:=O (HT.out.keep hk fun _ e=>e.elim);replace HQ:=O (HQ.out.keep0 hk);replace HKI:=O (KI.keep0 HKI.out hk);replace HNN2:=O (cF.keep0 HNN2.out hk);clear hbs hk hb hk0 hb0_;go_wp2_with fail
 have HST:Hid (∃vk,tB w B S c N0 g q6 q7 q11 q4 q12 x b7 b12 l t a pv v ns vs 0 w7 vk):=O ⟨v,HKI.out,HT.out,by rw[show (List.range 0)=[] from rfl,List.flatMap_nil,List.append_nil];exact HQ.out,HNN2.out,HNO.out,by (have h:=HL.out.b 1;rw[←HLC.out] at h;rw[HPE.out];exact h),by (have h:=HL.out.b 0;rw[←HNF.out] at h;exact h),fun i hi=>by
  have h7:=HL.out.lt 1;have h12:=HL.out.lt 0;have h1:=HVO0.out i hi;exact⟨.inl hi,by omega,by omega⟩,⟨by have h1:=(HL.out.lt 1).1;have h2:=HNN.out;omega,by have h1:=(HL.out.lt 0).1;have h2:=HNN.out;omega,HNN.out⟩,HL.out.keep.any⟩
 clear HL HKI HPT HT HQ HNN2
 go_loopw [13,14] (fun e i wr=>∃k:Nat,k≤4/\e=.int .i64 0/\i=.int .i64 (k:Int)/\Hid (∃vk,tB w B S c N0 g q6 q7 q11 q4 q12 x b7 b12 l t a pv v ns vs k wr vk)) (fun _ i _=>4-(intOf i).toNat)
 case atStart=>exact⟨0,by omega,rfl,rfl,HST⟩
 case round =>
  obtain⟨k,hk,rfl,rfl,HCI⟩:=hrel;obtain⟨vk,hci⟩:=HCI.out
  by_cases hk8:k<4
  ·have hk0:(0:Int)≤(k:Int):=by omega
   have hk1:(k:Int)<4:=by omega
   have HKI:=O hci.ki;have HT:=O hci.th;have HQ:=O hci.out;have HQV:=O (hci.old k hk8);have HCX:=O hci;have hqc:=aJ (v:=vs k) HQV.out.pt.sum;have HOQ0:=aU HQV.out.pt;have HX0:=pT hci.old.nv (aD hci.h12) hk8;obtain⟨qc,hqce⟩:∃x,aE (vs k) ((t.kid k).ptr)=x:=⟨_,rfl⟩
   have HOQ:Hid (∀u∈qc,u.oneCell'=true):=O (by rw[←hqce];exact HOQ0);have HQC:=O hqce;rw[hqce] at hqc HX0;have HX:=O HX0;have HAT:=O (GD (by rw[HPE.out];exact HSM.out) hci.h7);obtain⟨W,hW⟩:∃W:Nat,4 ^ l=W:=⟨_,rfl⟩
   have hW16:W≤16/\1≤W:=by
    have:l=0\/l=1\/l=2:=by omega
    rcases this with rfl|rfl|rfl<;>omega
   have HW:=O hW;obtain⟨kw,hkw⟩:∃q:Nat,k*W=q:=⟨_,rfl⟩
   have hkw48:kw+W≤4*W:=by rw[←hkw];have h1:=Nat.mul_le_mul_right W (show k+1≤4 by omega);rw[Nat.succ_mul] at h1;exact h1
   have hkwi:(k:Int)*(W:Int)=(kw:Int):=by rw[←hkw];push_cast;rfl
   have hal:a+4*W≤64:=by have h1:=HA.out;rw[Nat.pow_succ,hW] at h1;omega
   obtain⟨ak,hak⟩:∃ak,a+kw=ak:=⟨_,rfl⟩
   have HKWI:Hid (a+k*4 ^ l=ak):=O (by rw[hW,hkw,hak]);have hai:(a:Int)+(kw:Int)=(ak:Int):=by omega
   obtain⟨nk,hnk⟩:∃q,(ns++(List.range k).flatMap fun i=>bks (bD x) l (t.kid i) (a+i*4 ^ l))=q:=⟨_,rfl⟩
   have HNK:=O hnk;have HNQ:Hid ((∀i,(vs k).ownBlock=some i->i≠q11/\vk.ownBlock≠some i)/\nk.length+(bks (bD x) l (t.kid k) ak).length≤1000/\ak+4 ^ l≤64/\N0≤wr.heap.size):=O ⟨hci.off k hk8,by rw[←hnk,←hak,←hkw,←hW];exact hci.len hk8 HPSL.out HHH.out.1 HHH.out.2,by rw[hW];omega,by have h1:=hci.ge;have h2:=hci.keep.size;omega⟩;have HTK:=O (HTR.out.kid hk8);have HL:=lN wr
   have H12N:Hid (¬(b12=q11\/vk.ownBlock=some b12)/\¬(b7=q11\/vk.ownBlock=some b7)/\¬(q12=q11\/vk.ownBlock=some q12)):=O (by
    have h1:=hci.ge;have h2:=hci.th.l11.1;have h3:=hci.th.lt q12 (.inr (.inr (.inr (.inr rfl))));refine⟨fun e=>e.elim (fun e=>by omega) fun e=>(hci.own _ e).2.2 rfl,fun e=>e.elim (fun e=>by omega) fun e=>(hci.own _ e).2.1 rfl,fun e=>e.elim (fun e=>by omega) fun e=>?_⟩;have h4:=aS hci.out.row e;omega)
   have hbp:=E6 (vs k) (t.kid k).ptr (ak:Int) HQV.out.pt.sum;obtain⟨mc,hmc⟩:∃x,dJ (vs k) (t.kid k).ptr (ak:Int)=x:=⟨_,rfl⟩
   have HMC:=O hmc;rw[hmc,hqce] at hbp;rw[hnk] at HQ;have HBP:=O hbp;clear hqce HOQ0 HX0 hci HCI hW hkw hmc hbp hak hnk;go_wp2_with fail;refine dwA (fun i=>i=q11\/vk.ownBlock=some i) (by kernel_rfl) ?_;intro w9 S HSE HSI hS hkd;replace HL:=kL HL hkd;replace HKI:=O (KI.keep0 HKI.out hkd);replace HT:=O (HT.out.keep hkd fun _ e=>e.elim);replace HQ:=O (HQ.out.keep0 hkd);replace HX:=O (hkd.rangeAt HX.out);replace HQV:=pK HQV hkd;replace HAT:=O (hkd.cell HAT.out id);clear hkd;have HLs:=HL;have HKIs:=HKI;have HTs:=HT;have HQs:=HQ;have HXs:=HX;have HQVs:=HQV;have HATs:=HAT;refine tnd 0 (dbV q6 q7 q11 q4 q12) rfl (.inl ⟨by rfl,fun w' hw'=>by have c:World.cell? w' ⟨q12,0,none⟩=some (dbV q6 q7 q11 q4 q12):=(HSE.out w' hw').cell (cell_of_one HTs.out.c12) H12N.out.2.2;go_simp⟩) hS ?_;refine tna 1 (.int .i64 (k:Int)) rfl hS ?_;refine tnb 2 (.pointer (some ⟨b12,1,none⟩)) rfl hS ?_;refine tnd 3 (.pointer (some ⟨b12,1+k*35,none⟩)) rfl (.inl ⟨by rfl,fun _ _=>by go_simp<;>omega⟩) hS ?_;refine tnd 4 (.agg qc.toArray) rfl (yieldsIf_load_mid (by rfl) 27 (.tmp 57) rfl b12 (1+k*35) rfl qc _ (fun w' h=>(HSE.out w' h).rangeAt2 HXs.out H12N.out.1) aF rfl (szP9 hqc)) hS ?_;refine tnb 5 (.pointer (some ⟨b7,35,none⟩)) rfl hS ?_;refine tnd 6 (.int .i64 (a:Int)) rfl (.inl ⟨by rfl,fun w' hw'=>by have c:World.cell? w' ⟨b7,35,none⟩=some (.int .i64 (a:Int)):=(HSE.out w' hw').cell HATs.out H12N.out.2.1;go_simp⟩) hS ?_;refine tna 7 (.int .i64 (k:Int)) rfl hS ?_;refine tna 8 (.int .i64 ((l+1:Nat):Int)) rfl hS ?_;refine tnd 9 (.int .i64 (l:Int)) rfl (.inl ⟨by rfl,fun _ _=>by go_simp;exact IntWalk.i64_in _ (by omega)⟩) hS ?_;refine tna 14 (.int .i64 ((l+1:Nat):Int)) rfl hS ?_;refine tnd 15 (.int .i64 (l:Int)) rfl (.inl ⟨by rfl,fun _ _=>by go_simp;exact IntWalk.i64_in _ (by omega)⟩) hS ?_;refine wA9 10 ?_;go_wp2_with fail;refine((by rw[←HW.out];exact zL w9 l (by omega):Calls _ _ _ w9 (aK w9 (.int .i64 (W:Int))))).mono ?_;rintro e wa ⟨rfl,hk⟩;have hS1:=HSI.out _ ((HSE.out _ hS).trans hk.any);replace HL:=kL HL hk;replace HKI:=O (KI.keep0 HKI.out hk);replace HT:=O (HT.out.keep hk fun _ e=>e.elim);replace HQ:=O (HQ.out.keep0 hk);replace HX:=O (hk.rangeAt HX.out);replace HQV:=pK HQV hk;replace HAT:=O (hk.cell HAT.out id);clear hS hk;go_wp2_with fail;refine⟨hS1,?_⟩;refine tnd 11 (.int .i64 (kw:Int)) rfl (.inl ⟨by rfl,fun _ _=>by go_simp;exact IntWalk.i64_in _ (by omega)⟩) hS1 ?_;refine tnd 12 (.int .i64 (ak:Int)) rfl (.inl ⟨by rfl,fun _ _=>by go_simp;exact IntWalk.i64_in _ (by omega)⟩) hS1 ?_;refine tnd 13 (.agg mc.toArray) rfl (fA 90 #[(0,.tmp 58),(1,.tmp 66)] [(0,.agg qc.toArray),(1,.int .i64 (ak:Int))] (.agg mc.toArray) HBP.out) hS1 ?_;refine wA9 16 ?_;go_wp2_with fail;have HLK:Hid (aA aB wr wa):=O HL.out.keep;refine((by rw[←HMC.out];exact HIH.out wa vk nk (vs k) (t.kid k) ak HKI.out HT.out HQ.out (Nat.le_trans HNQ.out.2.2.2 HL.out.keep.size) HNQ.out.2.1 HNQ.out.2.2.1 HTK.out HQV.out HNQ.out.1:Calls _ _ _ wa (pY N0 q11 x l (t.kid k) ak vk nk wa))).mono ?_;rintro e wb hm;obtain⟨he,hmk,hnx⟩:=HCX.out.step HBN.out HLK.out (by rw[HKWI.out,HNK.out];exact hm);subst he;have HNX:=O hnx;have hS2:=HSI.out _ ((HSE.out _ hS1).trans hmk);clear hS1 hmk hm hnx HL HKI HT HX HQV HQ HAT HLK;go_wp2_with fail;refine⟨hS2,?_⟩;refine tna 17 (.int .i64 0) rfl hS2 ?_;refine wpAnyH_done (by kernel_rfl) ?_ _;clear hS2 HSE HSI HLs HKIs HTs HQs HXs HQVs HATs;clear HCX;go_wp2
   go_roundw
   case rel=>exact⟨k+1,by omega,rfl,by go_num,HNX⟩
   case measure=>simp[intOf];omega
  ·obtain rfl:k=4:=by omega
   have HP:=O (hci.fin HHH.out.1 HHH.out.2 (aA.refl aB wr));clear hci HCI;go_wp2;go_ret;exact HP.out
theorem Le{B:Nat->Prop}{S:Kor}{c N0 g q6 q7 q11 q4 q12:Nat}{x:Int}(hB:∀i,B i->i<N0):∀l,l≤3->NG B S c N0 g q6 q7 q11 q4 q12 x l:=by
 intro l
 induction l with
 | zero =>
   intro hl w v ns pv t a hK hT hO hN hps ha ht hp hpo;cases hh:t.isHole with
   | true=>exact nJ hK hT hO pv t 0 a ht hp (.inl hh)
   | false =>
     cases hn:decide (x<t.ptr.birth) with
     | false=>exact nJ hK hT hO pv t 0 a ht hp (.inr hn)
     | true=>exact Ev hK hT hO hN pv t a (by omega) (by omega) ht hp hpo hh hn
 | succ l ih =>
   intro hl w v ns pv t a hK hT hO hN hps ha ht hp hpo;cases hh:t.isHole with
   | true=>exact nJ hK hT hO pv t (l+1) a ht hp (.inl hh)
   | false =>
     cases hn:decide (x<t.ptr.birth) with
     | false=>exact nJ hK hT hO pv t (l+1) a ht hp (.inr hn)
     | true=>exact Ew hK (by omega) (ih (by omega)) hB hT hO hN pv t a hps ha ht hp hpo hh hn
def mW(w:World)(ns:List Nat)(e:Ending)(w':World):Prop:=∃v,e=.returned (.tuple #[v,.int .i64 0])/\w'.ownsRow w.heap.size 3 1 v ns.length (xS ns)/\aA aB w w'
theorem DH{w:World}{c:Nat}{S:Kor}{B:Nat->Prop}(hK:KI w c S B){g:Nat}{x:Int}(hg:w.heap[g]?=some (.cells #[.int .i64 x] 3 (0,0)))(pv:Value)(t:Tr)(ht:Tr.Ok S 3 t)(hp:bA w B pv t.ptr):Calls Tryz.prog 37 #[.pointer (some ⟨c,0,none⟩),.agg (aE pv t.ptr).toArray,nwV g,bkV] w (mW w (bks (bD x) 3 t 0)):=by
 have HTR:=O ht;have HKI:=O hK;have HBLT:=O (fun i (e:B i)=>hK.lt e);have HGB:=O hg;have HGL:=O (lt_of_block hg);obtain⟨p,hpe⟩:∃p,t.ptr=p:=⟨_,rfl⟩
 have HPE:=O hpe;rw[hpe] at hp ⊢;have HPT:=O hp;have HRT:Hid (p.root=true):=O (by rw[←hpe];exact ht.root);have hpc:=aJ (v:=pv) hp.pt.sum;have HOP0:=aU hp.pt;have hbp:=DE pv p hp.pt.sum;obtain⟨pc,hpce⟩:∃l,aE pv p=l:=⟨_,rfl⟩
 obtain⟨lc,hlce⟩:∃l,dJ pv p 0=l:=⟨_,rfl⟩
 have HOP:Hid (∀u∈pc,u.oneCell'=true):=O (by rw[←hpce];exact HOP0);have HPC:=O hpce;have HLC:=O hlce;rw[hpce] at hpc hbp ⊢;rw[hlce] at hbp;have HBP:=O hbp;have HPO:=O (fun i hi=>(hp.off i hi).2.lt);clear HOP0 hpce hlce hp ht hK hpe hg hbp;have HL:=lN w;go_in
 go_wp2_with ((with_reducible show WL _ _);refine bxL HL 39 (.tmp 0) (#[.pointer (some ⟨c,0,none⟩)]) ?_)
 intro b4 w1 hk HL;replace HPT:=pK HPT hk;replace HKI:=O (KI.keep0 HKI.out hk);replace HGB:=O (hk.blk HGB.out id);clear hk
 go_wp2_with ((with_reducible show WL _ _);refine bxL HL 27 (.tmp 1) (pc.toArray) ?_)
 intro b5 w2 hk HL;replace HPT:=pK HPT hk;replace HKI:=O (KI.keep0 HKI.out hk);replace HGB:=O (hk.blk HGB.out id);clear hk
 go_wp2_with ((with_reducible show WL _ _);refine bxL HL 85 (.tmp 2) (#[nwV g]) ?_)
 intro b6 w3 hk HL;replace HPT:=pK HPT hk;replace HKI:=O (KI.keep0 HKI.out hk);replace HGB:=O (hk.blk HGB.out id);clear hk
 go_wp2_with ((with_reducible show WL _ _);refine bxL HL 91 (.tmp 3) (#[bkV]) ?_)
 intro b7 w4 hk HL;replace HPT:=pK HPT hk;replace HKI:=O (KI.keep0 HKI.out hk);replace HGB:=O (hk.blk HGB.out id);clear hk;have c1:w4.cell? ⟨b4,0,none⟩=some (.pointer (some ⟨c,0,none⟩)):=(aC (i:=0) (HL.out.b 3) rfl)
 go_wp2_with ((with_reducible show WL _ _);first
  | refine wpList_load_mid rfl 27 (.tmp 5) rfl b5 0 rfl pc _ (aD (HL.out.b 2)) aF rfl (szP9 hpc) ?_
  | refine bsA 22 27 (.tmp 15) Tryz.underlying22 lU (by omega) pc hpc (by omega) ?_)
 clear c1;intro b16 w5 hbs hk hb;replace HL:=lW HL hbs hk hb;replace HPT:=pK HPT hk;replace HKI:=O (KI.keep0 HKI.out hk);replace HGB:=O (hk.blk HGB.out id);clear hbs hk hb;go_wp2_with fail;refine((wM HKI.out pv p HPT.out.pt HRT.out (by rw[HPC.out];exact HL.out.b 0):Calls _ _ _ w5 (aK w5 (.int .i64 0)))).mono ?_;rintro e w6 ⟨rfl,hk⟩;replace HL:=kL HL hk;replace HPT:=pK HPT hk;replace HKI:=O (KI.keep0 HKI.out hk);replace HGB:=O (hk.blk HGB.out id);clear hk
 go_wp2_with ((with_reducible show WL _ _);refine alL HL 42 (.slice none 0 0) (#[.slice none 0 0]) Oq ?_)
 intro b11 w7 hk HL;replace HPT:=pK HPT hk;replace HKI:=O (KI.keep0 HKI.out hk);replace HGB:=O (hk.blk HGB.out id);clear hk
 go_wp2_with ((with_reducible show WL _ _);refine alL HL 132 (.nilFunc) (#[.nilFunc]) NF ?_)
 intro b12 w8 hk HL;replace HPT:=pK HPT hk;replace HKI:=O (KI.keep0 HKI.out hk);replace HGB:=O (hk.blk HGB.out id);clear hk
 go_wp2_with ((with_reducible show WL _ _);refine sta 132 (.tmp 12) (.tmp 21) b12 0 ([dbV b6 b7 b11 b4 b12]) (HL.out.b 0) (by simp) (by kernel_rfl) (one9) ?_)
 intro w9 hk hb;replace hb:w9.heap[b12]?=some (.cells #[dbV b6 b7 b11 b4 b12] 132 (0,0)):=hb;replace HL:=O (HL.out.set 0 hk hb);replace HPT:=O (HPT.out.keepT hk fun i hi e=>by have h1:=HPO.out i hi;have h2:=(HL.out.lt 0).1;omega);replace HKI:=O (HKI.out.keepT hk fun i e hb=>by have h1:=HBLT.out i hb;have h2:=(HL.out.lt 0).1;omega);replace HGB:=O (hk.blk HGB.out fun e=>by have h1:=HGL.out;have h2:=(HL.out.lt 0).1;omega);clear hk hb;obtain⟨N0,hN0⟩:∃n,w9.heap.size=n:=⟨_,rfl⟩
 have hg_:g<w9.heap.size:=Nat.lt_of_lt_of_le HGL.out HL.out.keep.size;have hB0:∀i,B i->i<N0:=fun i e=>by have h1:=HBLT.out i e;have h2:=HL.out.keep.size;omega
 have hT0:ThB B N0 c g x b6 b7 b11 b4 b12 w9:=⟨HGB.out,HL.out.b 4,HL.out.b 3,HL.out.b 6,HL.out.b 0,fun i hi=>by
  have g6:=HL.out.lt 4;have g7:=HL.out.lt 3;have g4:=HL.out.lt 6;have g12:=HL.out.lt 0;have g11:=HL.out.lt 1;have gg:=HGL.out;have n6:b11≠b6:=bF HL.out.nd (i:=4) rfl 1 (by decide) rfl;have n7:b11≠b7:=bF HL.out.nd (i:=3) rfl 1 (by decide) rfl;have n4:b11≠b4:=bF HL.out.nd (i:=6) rfl 1 (by decide) rfl;have n12:b11≠b12:=bF HL.out.nd (i:=0) rfl 1 (by decide) rfl;rcases hi with rfl|rfl|rfl|rfl|rfl<;>omega,⟨by have g11:=HL.out.lt 1;omega,fun e=>by have h1:=HBLT.out _ e;have g11:=HL.out.lt 1;omega⟩⟩
 have HO0:Hid (mV N0 b11 w9 (.slice none 0 0) []):=O ⟨HL.out.b 1,World.ownsRow_nil _ _ _ _⟩;have HT:=O hT0;have HB0:=O hB0;have HN0:=O hN0;have HPO2:Hid (∀i,pv.ownBlock=some i->i≠b11/\(Value.slice none 0 0).ownBlock≠some i):=O (fun i hi=>⟨fun e=>by have h1:=HPO.out i hi;have h2:=(HL.out.lt 1).1;omega,fun e=>by cases e⟩);clear hg_ hB0 hT0 hN0;have HKW0:=O HL.out.keep.size;have c1:w9.cell? ⟨b12,0,none⟩=some (dbV b6 b7 b11 b4 b12):=(aC (i:=0) (HL.out.b 0) rfl)
 go_wp2_with ((with_reducible show WL _ _);first
  | refine wpList_load_mid rfl 27 (.tmp 5) rfl b5 0 rfl pc _ (aD (HL.out.b 5)) aF rfl (szP9 hpc) ?_
  | refine bld 90 #[(0,.tmp 23)] [(0,.agg pc.toArray)] (.agg lc.toArray) HBP.out ?_)
 clear c1;have HNS:Hid (w.heap.size≤N0):=O (by have h1:=HN0.out;have h2:=HKW0.out;omega);refine((by rw[←HLC.out,←HPE.out];exact Le HB0.out 3 (by omega) w9 (.slice none 0 0) [] pv t 0 HKI.out HT.out HO0.out (by have h1:=HN0.out;have h2:=HL.out.keep.size;omega) (by have h1:=MP (x:=x) (t:=t);rw[List.length_nil];omega) (by decide) HTR.out (by rw[HPE.out];exact HPT.out) HPO2.out:Calls _ _ _ w9 (pY N0 b11 x 3 t 0 (.slice none 0 0) [] w9))).mono ?_;rintro e wa ⟨v,rfl,ho,-,hk⟩;have HC11:=O (cell_of_one ho.cell)
 have HP:Hid (mW w (bks (bD x) 3 t 0) (.returned (.tuple #[v,.int .i64 0])) wa):=O (by
  have hsz:=HL.out.keep.size;have hn:=HN0.out;have hr:=ho.row;rw[List.nil_append] at hr;refine⟨v,rfl,aV hr HNS.out,HL.out.keep.trans' hk (fun _ _ h=>h) (fun i hi e=>?_)⟩;rcases e with e|e
  ·have h1:=(HL.out.lt 1).1;omega
  ·cases e)
 clear HL HT HO0 HKI HPT ho hk;have c1:wa.cell? ⟨b11,0,none⟩=some (v):=HC11.out;go_wp2_with fail;clear c1
 go_ret2
 exact HP.out
theorem GE{w:World}{c:Nat}{S:Kor}{B:Nat->Prop}(hK:KI w c S B)(pv:Value)(t:Tr)(ht:Tr.Ok S 3 t)(hp:bA w B pv t.ptr)(x:Int):Calls Tryz.prog 17 #[.pointer (some ⟨c,0,none⟩),.agg (aE pv t.ptr).toArray,.int .i64 x] w (mW w (bks (bD x) 3 t 0)):=by
 have HTR:=O ht;have HKI:=O hK;obtain⟨p,hpe⟩:∃p,t.ptr=p:=⟨_,rfl⟩
 have HPE:=O hpe;rw[hpe] at hp ⊢;have HPT:=O hp;obtain⟨pc,HPC,hpc,HOP⟩:=nmPt hp.pt;rw[HPC.out];clear hp ht hK hpe;have HL:=lN w;go_in
 go_wp2_with ((with_reducible show WL _ _);refine bxL HL 27 (.tmp 1) (pc.toArray) ?_)
 intro b4 w1 hk HL;replace HPT:=pK HPT hk;replace HKI:=O (KI.keep0 HKI.out hk);clear hk;go_wp2_with fail;refine dwA aB (by kernel_rfl) ?_;intro w2 S HSE HSI hS hkd;replace HL:=kL HL hkd;replace HPT:=pK HPT hkd;replace HKI:=O (KI.keep0 HKI.out hkd);clear hkd;have HLs:=HL;have HPTs:=HPT;have HKIs:=HKI;refine tna 0 (.pointer (some ⟨c,0,none⟩)) rfl hS ?_;refine tnd 1 (.agg pc.toArray) rfl (yieldsIf_load_mid (by rfl) 27 (.tmp 4) rfl b4 0 rfl pc _ (fun w' h=>aD ((HSE.out w' h).blk (HLs.out.b 0) id)) aF rfl (szP9 hpc)) hS ?_;refine tna 2 (.int .i64 x) rfl hS ?_;refine wA9 3 ?_;go_wp2_with fail;refine((oD w2 x)).mono ?_;rintro e w3 ⟨g,rfl,hg,-,hk⟩;have HGB:=O hg;clear hg;have hS1:=HSI.out _ ((HSE.out _ hS).trans hk);replace HL:=kL HL hk;replace HPT:=pK HPT hk;replace HKI:=O (KI.keep0 HKI.out hk);clear hS hk;go_wp2_with fail;refine⟨hS1,?_⟩;refine wA9 4 ?_;go_wp2_with fail;refine((by rw[←HPC.out,←HPE.out];exact DH HKI.out HGB.out pv t HTR.out (by rw[HPE.out];exact HPT.out):Calls _ _ _ w3 (mW w3 (bks (bD x) 3 t 0)))).mono ?_;rintro e w4 ⟨v,rfl,ho,hk⟩;have HP:Hid (mW w (bks (bD x) 3 t 0) (.returned (.tuple #[v,.int .i64 0])) w4):=O ⟨v,rfl,aV ho HL.out.keep.size,HL.out.keep.trans hk⟩;have hS2:=HSI.out _ ((HSE.out _ hS1).trans hk);clear hS1 hk ho HL HKI HPT HGB;go_wp2_with fail;refine⟨hS2,?_⟩;refine tnb 5 v rfl hS2 ?_;refine tnb 6 (.int .i64 0) rfl hS2 ?_;refine tna 7 v rfl hS2 ?_;refine tna 8 (.int .i64 0) rfl hS2 ?_;refine wpAnyH_done (by kernel_rfl) ?_ _;clear hS2 HSE HSI HLs HPTs HKIs;go_wp2
 go_ret2
 exact HP.out
theorem wN{α:Type}{f:α->List Value}{k:Nat}:∀{l:List α},(∀y∈l,(f y).length=k)->∀(i:Nat){y:α},l[i]?=some y->∀j,j<k->(l.flatMap f)[i*k+j]?=(f y)[j]?
 | [],_,_,_,hy,_,_=>by simp at hy
 | x::l,h,0,y,hy,j,hj=>by
   have e:x=y:=by simpa using hy
   subst e;rw[List.flatMap_cons,Nat.zero_mul,Nat.zero_add,List.getElem?_append_left (by rw[h x (List.mem_cons_self ..)];exact hj)]
 | x::l,h,i+1,y,hy,j,hj=>by
   rw[List.flatMap_cons,List.getElem?_append_right (by rw[h x (List.mem_cons_self ..),Nat.succ_mul];omega),h x (List.mem_cons_self ..),show (i+1)*k+j-k=i*k+j by rw[Nat.succ_mul];omega];exact wN (fun y hy=>h y (List.mem_cons_of_mem _ hy)) i (by simpa using hy) j hj
theorem LC{α:Type}{f:α->List Value}{s:Nat}{w:World}{v:Value}{l:List α}(hf:∀y∈l,(f y).length=s)(hs:0<s)(h:Rd w s v l.length (l.flatMap f)){k:Nat}{x:α}(hk:l[k]?=some x) :
 ∃g o cap,v=.slice (some ⟨g,o,none⟩) l.length cap/\w.rangeAt g (o+k*s) (f x):=by
 obtain⟨h0,a,cap,rfl,h1,h2,h3,h4⟩:=h;have hlt:=(List.getElem?_eq_some_iff.1 hk).1;have hpos:0<l.length*s:=Nat.mul_pos (by omega) hs;obtain⟨g,o,rfl,hc⟩:=h4 (by rw[h0];exact hpos);refine⟨g,o,cap,rfl,fun j u hj=>?_⟩;have hj5:j<s:=by have:=(List.getElem?_eq_some_iff.1 hj).1;rwa [hf x (List.mem_of_getElem? hk)] at this
 have h5:=wN (f:=f) (k:=s) (l:=l) hf k hk j hj5;have:=hc (k*s+j) u (h5.trans hj)
 rwa [←Nat.add_assoc] at this
theorem Ot{P:Program}{ops:Array Oper}{rest:List Oper}{o:Oper}{a:Act}{w:World}{Q:Exit->Act->World->Prop}(t e:TypeId)(x y:Operand)(hu:P.underlying t=some (.slice e)){z:Value}{size bytes:Nat}(hinf:(P.info? e).map (fun i=>(i.zero,i.size,i.bytes))=some (some z,size,bytes))(hsz:0<size)
 (vs us:List Value) (hvs:vs.length=size) (hus:us.length=size) (hsmall:2*size≤2 ^ 24) (h:∀b w',w.heap.size=b->aA aB w w'->w'.heap[b]?=some (.cells (vs++us).toArray e (0,0))->wpList P ops Q rest (a.put o.dst (.slice (some ⟨b,0,none⟩) 2 2)) w')
 (hx:a.eval x=.agg vs.toArray:=by rfl) (hy:a.eval y=.agg us.toArray:=by rfl) (hg:o.guard=none:=by rfl) (ho:o.op=.buildSlice t 2 #[(0,x),(1,y)]:=by rfl):wpList P ops Q (o::rest) a w:=by
 refine oI hg t e 2 _ ho hu hinf hsz [vs,us] (fun l hl=>?_) rfl (by decide) hsmall ?_ (h _ _ rfl ((aA.refl _ _).alloc _) ?_)
 ·simp only[List.mem_cons,List.not_mem_nil,or_false] at hl
  rcases hl with rfl|rfl
  ·exact hvs
  ·exact hus
 ·simp[jF,hx,hy]
 ·have e1:[vs,us].flatten=vs++us:=by simp
  rw[e1];exact heap_alloc_new _ _
structure vA(w:World)(v:Value)(qs:List (Value×Pt)):Prop where
 rd:Rd w 35 v qs.length (qs.flatMap fun x=>aE x.1 x.2)
 at_:∀x∈qs,PtV w x.1 x.2
theorem vA.keep0{w w':World}{v:Value}{qs:List (Value×Pt)}(h:vA w v qs)(k:aA aB w w'):vA w' v qs:=⟨h.rd.keep k fun _ _=>id,fun x hx=>(h.at_ x hx).keep k fun _ _=>id⟩
def gT(qs:List (Value×Pt)):List Ad:=qs.flatMap fun x=>x.2.addrs
theorem Bv{qs:List (Value×Pt)}{k:Nat}{x:Value×Pt}(h:qs[k]?=some x):gT (qs.take (k+1))=gT (qs.take k)++x.2.addrs:=by
 unfold gT;rw[List.take_add_one,h,List.flatMap_append];simp
theorem E7{qs:List (Value×Pt)}(h:∀x∈qs,x.2.addrs.length≤20):(gT qs).length≤20*qs.length:=by
 induction qs with
 | nil=>exact Nat.zero_le _
 | cons x qs ih =>
   have h1:=ih fun y hy=>h y (List.mem_cons_of_mem _ hy)
   have h2:=h x (List.mem_cons_self ..);unfold gT at h1 ⊢;rw[List.flatMap_cons,List.length_append,List.length_cons];omega
theorem vA.ok{w:World}{v:Value}{qs:List (Value×Pt)}(h:vA w v qs):jU (gT qs):=fun a ha=>by
 obtain⟨x,hx,h2⟩:=List.mem_flatMap.1 ha;exact(h.at_ x hx).ads a h2
theorem MQ:(Tryz.prog.info? 82).map (fun i=>(i.zero,i.size,i.bytes))=some (some (.agg #[.int .i64 0,.int .i64 0]),2,16):=by kernel_rfl
theorem GF(w:World)(v:Value)(qs:List (Value×Pt))(h:vA w v qs)(hq:qs.length≤1000)(h8:∀x∈qs,x.2.addrs.length≤20):Calls Tryz.prog 9 #[v] w (pG w (iY (gT qs))):=by
 obtain⟨va,vc,rfl,-,-⟩:=h.rd.form;obtain⟨q,hqe⟩:∃n,qs.length=n:=⟨_,rfl⟩
 have HQE:=O hqe;have HP:=O h;have H8:=O h8;have HQ:=O hq;rw[hqe] at hq ⊢;clear h h8 hqe;go_in;go_wp2_with fail
 go_loopw [3,8] (fun a i wr=>∃(k m:Nat) (pa:Option Addr) (pc:Nat),k≤q/\i=.int .i64 (k:Int)/\a=.slice pa m pc/\Hid ((gT (qs.take k)).length=m)/\Hid (aA aB w wr)/\Hid (wr.ownsRow w.heap.size 82 2 (.slice pa m pc) m (aQ (gT (qs.take k))))) (fun _ i _=>q-(intOf i).toNat)
 case atStart=>exact⟨0,0,none,0,by omega,rfl,rfl,O rfl,O (aA.refl _ _),O (World.ownsRow_nil _ _ _ _)⟩
 case round =>
  obtain⟨k,m,pa,pcap,hk,rfl,rfl,HM,HK,HO⟩:=hrel
  by_cases hk8:k<q
  ·have hk0:(0:Int)≤(k:Int):=by omega
   have hk1:(k:Int)<(q:Int):=by omega
   obtain⟨x,hx⟩:∃x,qs[k]?=some x:=⟨qs[k]'(by rw[HQE.out];exact hk8),List.getElem?_eq_getElem (by rw[HQE.out];exact hk8)⟩
   have hxm:=List.mem_of_getElem? hx;have hP:=HP.out.keep0 HK.out;have hpt:=hP.at_ x hxm;obtain⟨g,o,cap,he,hr⟩:=LC (f:=fun(x:Value×Pt)=>aE x.1 x.2) (s:=35) (fun y hy=>aJ (hP.at_ y hy).sum) (by decide) hP.rd hx;rw[HQE.out] at he;injection he with he1 he2 he3
   subst he1;obtain⟨⟨pv,p⟩,rfl⟩:∃y,y=x:=⟨_,rfl⟩
   have HPT:Hid (PtV wr pv p):=O hpt;have HX:=O hx;have HP8:Hid (p.addrs.length≤20):=O (H8.out _ hxm);have hpc:=aJ (v:=pv) hpt.sum;obtain⟨pc,hpce⟩:∃l,aE pv p=l:=⟨_,rfl⟩
   have HOP:Hid (∀u∈pc,u.oneCell'=true):=O (by rw[←hpce];exact aU HPT.out);have HPC:=O hpce;have hr2:wr.rangeAt g (o+k*35) (aE pv p):=hr;rw[hpce] at hr2 hpc;have HR:=O hr2;have HL:=lN wr;clear hx hxm hP hpt hr hr2 hpce he2 he3
   go_wp2_with ((with_reducible show WL _ _);first
    | refine wpList_load_mid rfl 27 (.tmp 10) rfl g (o+k*35) rfl pc _ HR.out aF rfl (szP9 hpc) ?_
    | refine al 27 (.agg aH.toArray) (aH.toArray) bG ?_)
   intro b5 wb hbs hk0 hb0_
   go_wp2_with ((with_reducible show WL _ _);refine sta 27 (.tmp 5) (.tmp 11) b5 0 pc hb0_ (by first|decide|(rw[List.size_toArray,hpc];exact Nat.le_refl _)|simp[hpc,aG]) (szP9 hpc) HOP.out ?_)
   intro wc hk hb;rw[aI _ _ (by first|rfl|(rw[List.size_toArray,hpc];rfl)|simp[hpc,aG])] at hb;replace hk:=tX hk0 hk (fun i hi e=>by omega);replace HL:=lW HL hbs hk hb;replace HPT:=O (HPT.out.keep hk fun _ _=>id);replace HR:=O (hk.rangeAt HR.out);replace HO:=O (hk.owns HO.out fun _ _=>id);clear hbs hk hb hk0 hb0_;clear HR;obtain⟨pva,pvc,hpv,-,-⟩:=HPT.out.rd.form;subst hpv;have HKY:=O (HK.out.trans HL.out.keep)
   have HMS:Hid (m≤20000):=O (by
    have h1:=E7 (qs:=qs.take k) fun y hy=>H8.out y (List.mem_of_mem_take hy)
    rw[HM.out,List.length_take] at h1;have h2:=HQ.out;omega)
   have HBS:Hid (m+p.addrs.length≤maxLen/\(m+p.addrs.length)*16≤140737488355328/\w.heap.size≤wc.heap.size):=O ⟨by have h1:=HMS.out;have h2:=HP8.out;unfold maxLen;omega,by have h1:=HMS.out;have h2:=HP8.out;omega,HKY.out.size⟩;have c1:wc.cell? ⟨b5,0,none⟩=some (.slice pva p.addrs.length pvc):=(aC (i:=0) (HL.out.b 0) (by rw[←HPC.out];rfl))
   go_wp2_with (first
    | (at_builtin;refine aN rfl (.tmp 12) (.tmp 14) 23 rfl w.heap.size 82 (.agg #[.int .i64 0,.int .i64 0]) 2 16 Tryz.underlying23 MQ rfl (by decide) (.slice pa m pcap) m (aQ (gT (qs.take k))) rfl HO.out (.slice pva p.addrs.length pvc) p.addrs.length (aQ p.addrs) rfl HPT.out.rd (wB _) HBS.out.1 HBS.out.2.1 HBS.out.2.2 ?_))
   clear c1;intro v2 w8 ho5 hk5 hn5 hb5;obtain⟨pa2,pc2,rfl,-,-⟩:=(Rd.of_owns ho5).form;have HM2:Hid ((gT (qs.take (k+1))).length=m+p.addrs.length):=O (by rw[Bv HX.out,List.length_append,HM.out]);have HO2:Hid (w8.ownsRow w.heap.size 82 2 (.slice pa2 (m+p.addrs.length) pc2) (m+p.addrs.length) (aQ (gT (qs.take (k+1))))):=O (by rw[Bv HX.out,mE];exact ho5);have HK2:=O (HKY.out.trans' hk5 (fun _ _ h=>h) fun i hi e=>by have h1:=aS HO.out e;omega);clear ho5 hk5 hn5 hb5 HO HPT HK HKY HL;go_wp2
   go_roundw
   case rel=>exact⟨k+1,m+p.addrs.length,pa2,pc2,by omega,by go_num,rfl,HM2,HK2,HO2⟩
   case measure=>simp[intOf];omega
  ·obtain rfl:k=q:=by omega
   have HO2:Hid (wr.ownsRow w.heap.size 82 2 (.slice pa m pcap) (gT qs).length (aQ (gT qs))):=O (by
    have h1:=HO.out;have h2:=HM.out;rw[List.take_of_length_le (by rw[HQE.out];exact Nat.le_refl _)] at h1 h2;rw[h2];exact h1)
   have HLN:Hid ((gT qs).length≤65536):=O (by
    have h1:=E7 H8.out;have h2:=HQ.out;omega)
   clear HO HM;go_wp2_with fail;refine(JE wr (.slice pa m pcap) (gT qs) HP.out.ok (Rd.of_owns HO2.out) HLN.out).mono ?_;rintro e w9 ⟨v9,rfl,ho,hk⟩;have HR:Hid (pG w (iY (gT qs)) (.returned v9) w9):=O ⟨v9,rfl,aV ho HK.out.size,HK.out.trans hk⟩;clear ho hk HO2;go_wp2;go_ret;exact HR.out
def vB(qs:List (Value×Pt)):List Value:=qs.map fun x=>.int .i64 x.2.level
def E8(w:World)(qs:List (Value×Pt))(e:Ending)(w':World):Prop:=∃v,e=.returned v/\w'.ownsRow w.heap.size 3 1 v qs.length (vB qs)/\aA aB w w'
theorem GG(w:World)(v:Value)(qs:List (Value×Pt))(h:vA w v qs)(hq:qs.length≤1000):Calls Tryz.prog 29 #[v] w (E8 w qs):=by
 obtain⟨va,vc,rfl,-,-⟩:=h.rd.form;obtain⟨q,hqe⟩:∃n,qs.length=n:=⟨_,rfl⟩
 have HQE:=O hqe;have HP:=O h;have HQ:=O hq;rw[hqe] at hq ⊢;clear h hqe;go_in;go_wp2_with fail
 go_loopw [3,4] (fun a i wr=>∃(k:Nat) (pa:Option Addr) (pc:Nat),k≤q/\i=.int .i64 (k:Int)/\a=.slice pa k pc/\Hid (aA aB w wr)/\Hid (wr.ownsRow w.heap.size 3 1 (.slice pa k pc) k (vB (qs.take k)))) (fun _ i _=>q-(intOf i).toNat)
 case atStart=>exact⟨0,none,0,by omega,rfl,rfl,O (aA.refl _ _),O (World.ownsRow_nil _ _ _ _)⟩
 case round =>
  obtain⟨k,pa,pcap,hk,rfl,rfl,HK,HO⟩:=hrel
  by_cases hk8:k<q
  ·have hk0:(0:Int)≤(k:Int):=by omega
   have hk1:(k:Int)<(q:Int):=by omega
   obtain⟨x,hx⟩:∃x,qs[k]?=some x:=⟨qs[k]'(by rw[HQE.out];exact hk8),List.getElem?_eq_getElem (by rw[HQE.out];exact hk8)⟩
   have hP:=HP.out.keep0 HK.out;obtain⟨g,o,cap,he,hr⟩:=LC (f:=fun(x:Value×Pt)=>aE x.1 x.2) (s:=35) (fun y hy=>aJ (hP.at_ y hy).sum) (by decide) hP.rd hx;rw[HQE.out] at he;injection he with he1 he2 he3
   subst he1;have HX:=O hx;obtain⟨lv,hlv⟩:∃l,x.2.level=l:=⟨_,rfl⟩
   have HC:Hid (wr.cell? ⟨g,o+k*35+2,none⟩=some (.int .i64 lv)):=O (hr 2 _ (by rw[←hlv];rfl));have HLV:=O hlv;have HL:=lN wr;clear hx hP hr he2 he3 hlv;have c1:wr.cell? ⟨g,o+k*35+2,none⟩=some (.int .i64 lv):=HC.out
   go_wp2_with ((with_reducible show WL _ _);refine bs1 42 3 (.tmp 16) (.int .i64 lv) (by kernel_rfl) (by kernel_rfl) Tryz.underlying42 rfl ?_)
   clear c1;intro b17 wb hbs hk hb;replace HL:=lW HL hbs hk hb;replace HO:=O (hk.owns HO.out fun _ _=>id);replace HC:=O (hk.cell HC.out id);clear hbs hk hb;have hrd_:Rd wb 1 (.slice (some ⟨b17,0,none⟩) 1 1) 1 [.int .i64 lv]:=eE (n:=1) (size:=1) (HL.out.b 0) rfl (by unfold maxLen;omega);have HRD_:=O hrd_;have HOE:=HO;have HKE:=O HL.out.keep;clear hrd_
   go_wp2_with (first
    | (at_builtin;refine aN rfl (.tmp 11) (.tmp 17) 42 rfl w.heap.size 3 (.int .i64 0) 1 8 Tryz.underlying42 Dj rfl (by decide) (.slice pa k pcap) k (vB (qs.take k)) rfl HO.out (.slice (some ⟨b17,0,none⟩) 1 1) 1 [.int .i64 lv] rfl HRD_.out (by intro u hu;rcases List.mem_singleton.1 hu with rfl;rfl) (by unfold maxLen;omega) (by omega) (Nat.le_trans HK.out.size HKE.out.size) ?_))
   intro v2 w8 ho5 hk5 hn5 hb5;obtain⟨g2,c2,rfl⟩:=ownsRow_succ ho5;have HO5:=O ho5;have HK5:=O hk5;clear ho5 hk5 hn5 hb5 HRD_ HL HO HC;go_wp2_with fail
   have HO2:Hid (w8.ownsRow w.heap.size 3 1 (.slice (some ⟨g2,0,none⟩) (k+1) c2) (k+1) (vB (qs.take (k+1)))):=O (by
    have e:vB (qs.take (k+1))=vB (qs.take k)++[.int .i64 lv]:=by
     unfold vB;rw[List.take_add_one,HX.out,List.map_append,←HLV.out];rfl
    rw[e];exact HO5.out)
   have HK2:=O (xI HK.out HOE.out HKE.out HK5.out);clear HO5 HK5 HOE HKE
   go_roundw
   case rel=>exact⟨k+1,some ⟨g2,0,none⟩,c2,by omega,by go_num,rfl,HK2,HO2⟩
   case measure=>simp[intOf];omega
  ·obtain rfl:k=q:=by omega
   have HP2:Hid (E8 w qs (.returned (.slice pa k pcap)) wr):=O ⟨_,rfl,by have h1:=HO.out;rw[List.take_of_length_le (by rw[HQE.out];exact Nat.le_refl _)] at h1;rw[HQE.out];exact h1,HK.out⟩;clear HO;go_wp2;go_ret;exact HP2.out
theorem DI{S:Kor}(hb:S.Bd){b:List UInt8}(hz:b≠zB){u:Tr}{T:Kor}(h:S.leaf b=(some u,T)):∃p,u=.leaf p b/\p.birth=S.txg+1/\p.level=0/\p.addrs.length=S.cp:=by
 unfold Kor.leaf at h;rw[if_neg hz] at h;cases hp:S.put 0 b with
 | none=>rw[hp] at h;injection h with h1 h2;cases h1
 | some x =>
   obtain⟨p,U⟩:=x;rw[hp] at h;injection h with h1 h2
   injection h1 with h1
   obtain⟨g1,g2,g3⟩:=zM hb hp;exact⟨p,h1.symm,g2,g3,g1⟩
theorem Lf{S:Kor}(hb:S.Bd){l:Nat}{k:Nat->Tr}{u:Tr}{T:Kor}(h:S.lay l k=(some u,T))(hu:u≠.hole):∃p,u=.node p k/\p.birth=S.txg+1/\p.level=(l:Int)/\p.addrs.length=S.cp:=by
 unfold Kor.lay at h
 by_cases hz:gA k=true
 ·rw[if_pos hz] at h
  injection h with h1 h2
  injection h1 with h1
  exact absurd h1.symm hu
 ·rw[if_neg hz] at h
  cases hp:S.put l (cQ l (fB k)) with
  | none=>rw[hp] at h;injection h with h1 h2;cases h1
  | some x =>
    obtain⟨p,U⟩:=x;rw[hp] at h;injection h with h1 h2
    injection h1 with h1
    obtain⟨g1,g2,g3⟩:=zM hb hp;exact⟨p,h1.symm,g2,g3,g1⟩
theorem mX{S:Kor}{l:Nat}(hl:l≤2)(hb:S.Bd){t:Tr}(ht:Tr.Ok S (l+1) t){b:List UInt8}(hbl:b.length=256)(hz:b≠zB){n:Nat}{u:Tr}{T:Kor}(h:eG (l+1) S t n b=(some u,T)) :
 ∃u' T' p,eG l S (t.kid (n / 4 ^ l % 4)) n b=(some u',T')/\u=.node p (eX t.kid (n / 4 ^ l % 4) u')/\p.birth=S.txg+1/\p.level=((l+1:Nat):Int)/\p.addrs.length=S.cp:=by
 have hok:=(oZ hbl n (by omega) hb ht h).2 u rfl
 have hne:u≠.hole:=fun e=>by
  have h1:=hok.2.1 n;rw[if_pos rfl,e,Tr.blk_hole] at h1;exact hz h1.symm
 unfold eG at h;cases hs:eG l S (t.kid (n / 4 ^ l % 4)) n b with
 | mk r1 T1 =>
   rw[hs] at h;cases r1 with
   | none=>injection h with h1 h2;cases h1
   | some u1 =>
     have hbe:=(oZ hbl n (by omega) hb (ht.kid (gB n l)) hs).1;obtain⟨p,h1,h2,h3,h4⟩:=Lf hbe.bd h hne;exact⟨u1,T1,p,rfl,h1,by rw[h2,hbe.txg],h3,by rw[h4,hbe.ext.cp]⟩
structure Lg(u1 u2:Tr):Prop where
 lv1:(fR 3 u1).map (·.level)=[3,2,1,0]
 len1:∀x∈fR 3 u1,x.addrs.length=2
 b1:bks (bD 1) 3 u2 0=[6]
 s1:((thr (bD 1) 3 u2 0).map (·.1)).map (·.level)=[3,2,1,0]
 s2:thr (bD 2) 3 u2 0=[]
 b0:bks (bD 0) 3 u2 0=[5,6]
 un:unl 3 u1 u2 0=[6]
 uh:unl 3 u1 .hole 0=[5]
theorem jS{p q:Pt}(h:p.birth≠q.birth):p.eqB q=false:=by
 cases e:p.eqB q with
 | false=>rfl
 | true=>exact absurd (congrArg Pt.birth (C6 e)) h
theorem Ou{S S2:Kor}(hb:S.Bd)(hb2:S2.Bd)(hx:S.txg=0)(hx2:S2.txg=1)(hcp:S.cp=2){b:List UInt8}(hbl:b.length=256)(hz:b≠zB){u1 u2:Tr}{T1 T2:Kor}(h1:eG 3 S .hole 5 b=(some u1,T1))(ho:Tr.Ok S2 3 u1)(h2:eG 3 S2 u1 6 b=(some u2,T2)):Lg u1 u2:=by
 obtain⟨a2,A2,p3,e3,rfl,f3,g3,l3⟩:=mX (by omega) hb (Tr.ok_hole S 3) hbl hz h1;obtain⟨a1,A1,p2,e2,rfl,f2,g2,l2⟩:=mX (by omega) hb (Tr.ok_hole S 2) hbl hz e3;obtain⟨a0,A0,p1,e1,rfl,f1,g1,l1⟩:=mX (by omega) hb (Tr.ok_hole S 1) hbl hz e2;obtain⟨p0,rfl,f0,g0,l0⟩:=DI hb hz e1;obtain⟨c2,C2,q3,d3,rfl,F3,G3,L3⟩:=mX (by omega) hb2 ho hbl hz h2;obtain⟨c1,C1,q2,d2,rfl,F2,G2,L2⟩:=mX (by omega) hb2 (ho.kid (i:=0) (by omega)) hbl hz d3;obtain⟨c0,C0,q1,d1,rfl,F1,G1,L1⟩:=mX (by omega) hb2 ((ho.kid (i:=0) (by omega)).kid (i:=1) (by omega)) hbl hz d2;obtain⟨q0,rfl,F0,G0,L0⟩:=DI hb2 hz d1;clear e1 e2 e3 d1 d2 d3 h1 h2 ho;rw[hx] at f0 f1 f2 f3;rw[hx2] at F0 F1 F2 F3;rw[hcp] at l0 l1 l2 l3;clear L0 L1 L2 L3;obtain⟨A3,B3,V3,X3⟩:=p3;obtain⟨A2_,B2,V2,X2⟩:=p2;obtain⟨A1_,B1,V1,X1⟩:=p1;obtain⟨A0_,B0,V0,X0⟩:=p0;obtain⟨a3,b3,v3,x3⟩:=q3;obtain⟨a2,b2,v2,x2⟩:=q2;obtain⟨a1,b1,v1,x1⟩:=q1;obtain⟨a0,b0,v0,x0⟩:=q0;simp only at f0 f1 f2 f3 F0 F1 F2 F3 g0 g1 g2 g3 G0 G1 G2 G3 l0 l1 l2 l3;subst f0 f1 f2 f3 F0 F1 F2 F3 g0 g1 g2 g3 G0 G1 G2 G3;refine⟨rfl,?_,rfl,rfl,rfl,rfl,?_,?_⟩
 ·intro x hx
  have hx:x∈[(⟨A3,0+1,((2+1:Nat):Int),X3⟩:Pt),⟨A2_,0+1,((1+1:Nat):Int),X2⟩,⟨A1_,0+1,((0+1:Nat):Int),X1⟩,⟨A0_,0+1,0,X0⟩]:=hx;simp only[List.mem_cons,List.not_mem_nil,or_false] at hx;rcases hx with rfl|rfl|rfl|rfl
  ·exact l3
  ·exact l2
  ·exact l1
  ·exact l0
 ·rw[lA,jS (by show (0+1:Int)≠1+1;decide),if_neg (by decide)]
  show unl 2 _ _ _++(unl 2 .hole .hole _++(unl 2 .hole .hole _++(unl 2 .hole .hole _++[])))=[6];simp only[mT,List.append_nil];rw[lA,jS (by show (0+1:Int)≠1+1;decide),if_neg (by decide)];show unl 1 .hole .hole _++(unl 1 _ _ _++(unl 1 .hole .hole _++(unl 1 .hole .hole _++[])))=[6];simp only[mT,List.nil_append,List.append_nil];rw[lA,jS (by show (0+1:Int)≠1+1;decide),if_neg (by decide)];show unl 0 .hole .hole _++(unl 0 (.leaf _ b) (.leaf _ b) _++(unl 0 .hole (.leaf _ b) _++(unl 0 .hole .hole _++[])))=[6];simp only[mT,List.nil_append,List.append_nil];rw[xP,jS (by show (0:Int)≠1+1;decide),if_neg (by decide)]
 ·rw[lA,jS (by show (0+1:Int)≠0;decide),if_neg (by decide)]
  show unl 2 _ .hole _++(unl 2 .hole .hole _++(unl 2 .hole .hole _++(unl 2 .hole .hole _++[])))=[5];simp only[mT,List.append_nil];rw[lA,jS (by show (0+1:Int)≠0;decide),if_neg (by decide)];show unl 1 .hole .hole _++(unl 1 _ .hole _++(unl 1 .hole .hole _++(unl 1 .hole .hole _++[])))=[5];simp only[mT,List.nil_append,List.append_nil];rw[lA,jS (by show (0+1:Int)≠0;decide),if_neg (by decide)];show unl 0 .hole .hole _++(unl 0 (.leaf _ b) .hole _++(unl 0 .hole .hole _++(unl 0 .hole .hole _++[])))=[5];simp only[mT,List.nil_append,List.append_nil];rw[xP,jS (by show (0+1:Int)≠0;decide),if_neg (by decide)]
theorem DJ{α:Type}[DecidableEq α]:∀{l m:List α},l.Nodup->(∀x∈l,x∈m)->l.length≤m.length
 | [],m,_,_=>Nat.zero_le _
 | x::l,m,hn,hm=>by
   obtain⟨h1,h2⟩:=List.nodup_cons.1 hn;have hx:=hm x (List.mem_cons_self ..);have:=DJ (l:=l) (m:=m.erase x) h2 fun y hy=>(List.mem_erase_of_ne fun e=>h1 (by rw[←e];exact hy)).2 (hm y (List.mem_cons_of_mem _ hy))
   rw[List.length_erase_of_mem hx] at this;have hp:0<m.length:=List.length_pos_of_mem hx;rw[List.length_cons];omega
theorem Ex{l:List Ad}(h:l.Nodup):(iY l).length=l.length:=
 Nat.le_antisymm (AN l) (DJ h fun x hx=>tQ.2 hx)
theorem DK{qs:List (Value×Pt)}{l:Nat}{t:Tr}(h:qs.map (·.2)=fR l t):gT qs=eH l t:=by
 unfold gT eH;rw[show (qs.flatMap fun x=>x.2.addrs)=(qs.map (·.2)).flatMap fun p=>p.addrs by rw[List.flatMap_map],h];unfold fR;rw[List.flatMap_map]
theorem DL:∀{l:List Pt},(∀x∈l,x.addrs.length=2)->(l.flatMap fun p=>p.addrs).length=2*l.length
 | [],_=>rfl
 | x::l,h=>by
   have:=DL fun y hy=>h y (List.mem_cons_of_mem _ hy)
   rw[List.flatMap_cons,List.length_append,this,h x (List.mem_cons_self ..),List.length_cons];omega
def eD(w:World)(cv:Value)(pc:List Value)(e:Int):Prop:=∀w',aA aB w w'->∀b,w'.heap[b]?=some (.cells pc.toArray 27 (0,0))->Calls Tryz.prog 39 #[cv,.slice (some ⟨b,0,none⟩) 1 1] w' (aK w' (.int .i64 e))
theorem eD.keep0{w w':World}{cv:Value}{pc:List Value}{e:Int}(h:eD w cv pc e)(k:aA aB w w'):eD w' cv pc e:=fun w2 k2 b hb=>h w2 (k.trans k2) b hb
theorem wR{w:World}{cv:Value}(hN:dL w cv)(va:Option Addr)(vn vc:Nat):Calls Tryz.prog 39 #[cv,.slice va vn vc] w (aK w (.int .i64 1)):=by
 have HN:=O hN;have HOC:=O hN.one.1;have HL:=lN w;clear hN;go_in;go_wp2_with fail;refine((GO HN.out)).mono ?_;rintro e w1 ⟨rfl,hk⟩;replace HL:=kL HL hk;replace HN:=O (dL.keep0 HN.out hk);clear hk;go_wp2;go_ret;exact⟨rfl,HL.out.keep⟩
theorem xW{w:World}{cv:Value}(hN:dL w cv)(pc:List Value):eD w cv pc 1:=fun _ k b _=>wR (hN.keep0 k) _ _ _
theorem vE{w:World}{cv:Value}{pc:List Value}(hr:eD w cv pc 1)(hc:cv.cells=#[cv])(hpc:pc.length=35)(hop:∀u∈pc,u.oneCell'=true)(g:Nat):Calls Tryz.prog 34 #[cv,.agg pc.toArray,nwV g,owV] w (aK w (.tuple #[.slice none 0 0,.int .i64 1])):=by
 have HR:=O hr;have HOC:=O hc;have HOP:=O hop;have HL:=lN w;clear hr hc hop;go_in
 go_wp2_with ((with_reducible show WL _ _);refine bx 39 (.tmp 0) (#[cv]) ?_ (hcs:=HOC.out))
 intro b4 w1 hbs hk hb;replace HL:=lW HL hbs hk hb;replace HR:=O (eD.keep0 HR.out hk);clear hbs hk hb
 go_wp2_with ((with_reducible show WL _ _);refine bxL HL 27 (.tmp 1) (pc.toArray) ?_)
 intro b5 w2 hk HL;replace HR:=O (eD.keep0 HR.out hk);clear hk
 go_wp2_with ((with_reducible show WL _ _);refine bxL HL 85 (.tmp 2) (#[nwV g]) ?_)
 intro b6 w3 hk HL;replace HR:=O (eD.keep0 HR.out hk);clear hk
 go_wp2_with ((with_reducible show WL _ _);refine bxL HL 87 (.tmp 3) (#[owV]) ?_)
 intro b7 w4 hk HL;replace HR:=O (eD.keep0 HR.out hk);clear hk;have c1:w4.cell? ⟨b4,0,none⟩=some (cv):=(aC (i:=0) (HL.out.b 3) rfl)
 go_wp2_with ((with_reducible show WL _ _);first
  | refine wpList_load_mid rfl 27 (.tmp 5) rfl b5 0 rfl pc _ (aD (HL.out.b 2)) aF rfl (szP9 hpc) ?_
  | refine bsA 22 27 (.tmp 15) Tryz.underlying22 lU (by omega) pc hpc (by omega) ?_)
 clear c1;intro b16 w5 hbs hk hb;replace HL:=lW HL hbs hk hb;replace HR:=O (eD.keep0 HR.out hk);clear hbs hk hb;go_wp2_with fail;refine((HR.out _ (aA.refl _ _) b16 (HL.out.b 0):Calls _ _ _ w5 (aK w5 (.int .i64 1)))).mono ?_;rintro e w6 ⟨rfl,hk⟩;replace HL:=kL HL hk;replace HR:=O (eD.keep0 HR.out hk);clear hk;go_wp2
 go_ret2
 exact⟨rfl,HL.out.keep⟩
theorem DS{w:World}{cv:Value}{pc:List Value}(hr:eD w cv pc 1)(hc:cv.cells=#[cv])(hpc:pc.length=35)(hop:∀u∈pc,u.oneCell'=true)(g:Nat):Calls Tryz.prog 37 #[cv,.agg pc.toArray,nwV g,bkV] w (aK w (.tuple #[.slice none 0 0,.int .i64 1])):=by
 have HR:=O hr;have HOC:=O hc;have HOP:=O hop;have HL:=lN w;clear hr hc hop;go_in
 go_wp2_with ((with_reducible show WL _ _);refine bx 39 (.tmp 0) (#[cv]) ?_ (hcs:=HOC.out))
 intro b4 w1 hbs hk hb;replace HL:=lW HL hbs hk hb;replace HR:=O (eD.keep0 HR.out hk);clear hbs hk hb
 go_wp2_with ((with_reducible show WL _ _);refine bxL HL 27 (.tmp 1) (pc.toArray) ?_)
 intro b5 w2 hk HL;replace HR:=O (eD.keep0 HR.out hk);clear hk
 go_wp2_with ((with_reducible show WL _ _);refine bxL HL 85 (.tmp 2) (#[nwV g]) ?_)
 intro b6 w3 hk HL;replace HR:=O (eD.keep0 HR.out hk);clear hk
 go_wp2_with ((with_reducible show WL _ _);refine bxL HL 91 (.tmp 3) (#[bkV]) ?_)
 intro b7 w4 hk HL;replace HR:=O (eD.keep0 HR.out hk);clear hk;have c1:w4.cell? ⟨b4,0,none⟩=some (cv):=(aC (i:=0) (HL.out.b 3) rfl)
 go_wp2_with ((with_reducible show WL _ _);first
  | refine wpList_load_mid rfl 27 (.tmp 5) rfl b5 0 rfl pc _ (aD (HL.out.b 2)) aF rfl (szP9 hpc) ?_
  | refine bsA 22 27 (.tmp 15) Tryz.underlying22 lU (by omega) pc hpc (by omega) ?_)
 clear c1;intro b16 w5 hbs hk hb;replace HL:=lW HL hbs hk hb;replace HR:=O (eD.keep0 HR.out hk);clear hbs hk hb;go_wp2_with fail;refine((HR.out _ (aA.refl _ _) b16 (HL.out.b 0):Calls _ _ _ w5 (aK w5 (.int .i64 1)))).mono ?_;rintro e w6 ⟨rfl,hk⟩;replace HL:=kL HL hk;replace HR:=O (eD.keep0 HR.out hk);clear hk;go_wp2
 go_ret2
 exact⟨rfl,HL.out.keep⟩
theorem DT{w:World}{cv:Value}{pc:List Value}(hr:eD w cv pc 1)(hc:cv.cells=#[cv])(hpc:pc.length=35)(hop:∀u∈pc,u.oneCell'=true):Calls Tryz.prog 15 #[cv,.agg pc.toArray] w (aK w (.tuple #[.slice none 0 0,.int .i64 1])):=by
 have HR:=O hr;have HOC:=O hc;have HOP:=O hop;have HL:=lN w;clear hr hc hop;go_in
 go_wp2_with ((with_reducible show WL _ _);refine bxL HL 27 (.tmp 1) (pc.toArray) ?_)
 intro b3 w1 hk HL;replace HR:=O (eD.keep0 HR.out hk);clear hk;go_wp2_with fail;refine dwA aB (by kernel_rfl) ?_;intro w2 S HSE HSI hS hkd;replace HL:=kL HL hkd;replace HR:=O (eD.keep0 HR.out hkd);clear hkd;have HLs:=HL;have HRs:=HR;refine tna 0 cv rfl hS ?_;refine tnd 1 (.agg pc.toArray) rfl (yieldsIf_load_mid (by rfl) 27 (.tmp 3) rfl b3 0 rfl pc _ (fun w' h=>aD ((HSE.out w' h).blk (HLs.out.b 0) id)) aF rfl (szP9 hpc)) hS ?_;refine wA9 2 ?_;go_wp2_with fail;refine((oD w2 0)).mono ?_;rintro e w3 ⟨g,rfl,-,-,hk⟩;have hS1:=HSI.out _ ((HSE.out _ hS).trans hk);replace HL:=kL HL hk;replace HR:=O (eD.keep0 HR.out hk);clear hS hk;go_wp2_with fail;refine⟨hS1,?_⟩;refine wA9 3 ?_;go_wp2_with fail;refine((vE HR.out HOC.out hpc HOP.out g:Calls _ _ _ w3 (aK w3 (.tuple #[.slice none 0 0,.int .i64 1])))).mono ?_;rintro e w4 ⟨rfl,hk⟩;have hS2:=HSI.out _ ((HSE.out _ hS1).trans hk);replace HL:=kL HL hk;replace HR:=O (eD.keep0 HR.out hk);clear hS1 hk;go_wp2_with fail;refine⟨hS2,?_⟩;refine tnb 4 (.slice none 0 0) rfl hS2 ?_;refine tnb 5 (.int .i64 1) rfl hS2 ?_;refine tna 6 (.slice none 0 0) rfl hS2 ?_;refine tna 7 (.int .i64 1) rfl hS2 ?_;refine wpAnyH_done (by kernel_rfl) ?_ _;clear hS2 HSE HSI HLs HRs;go_wp2
 go_ret2
 exact⟨rfl,HL.out.keep⟩
theorem Jp{w:World}{cv:Value}{pc:List Value}(hr:eD w cv pc 1)(hc:cv.cells=#[cv])(hpc:pc.length=35)(hop:∀u∈pc,u.oneCell'=true)(x:Int):Calls Tryz.prog 16 #[cv,.agg pc.toArray,.int .i64 x] w (aK w (.tuple #[.slice none 0 0,.int .i64 1])):=by
 have HR:=O hr;have HOC:=O hc;have HOP:=O hop;have HL:=lN w;clear hr hc hop;go_in
 go_wp2_with ((with_reducible show WL _ _);refine bxL HL 27 (.tmp 1) (pc.toArray) ?_)
 intro b4 w1 hk HL;replace HR:=O (eD.keep0 HR.out hk);clear hk;go_wp2_with fail;refine dwA aB (by kernel_rfl) ?_;intro w2 S HSE HSI hS hkd;replace HL:=kL HL hkd;replace HR:=O (eD.keep0 HR.out hkd);clear hkd;have HLs:=HL;have HRs:=HR;refine tna 0 cv rfl hS ?_;refine tnd 1 (.agg pc.toArray) rfl (yieldsIf_load_mid (by rfl) 27 (.tmp 4) rfl b4 0 rfl pc _ (fun w' h=>aD ((HSE.out w' h).blk (HLs.out.b 0) id)) aF rfl (szP9 hpc)) hS ?_;refine tna 2 (.int .i64 x) rfl hS ?_;refine wA9 3 ?_;go_wp2_with fail;refine((oD w2 x)).mono ?_;rintro e w3 ⟨g,rfl,-,-,hk⟩;have hS1:=HSI.out _ ((HSE.out _ hS).trans hk);replace HL:=kL HL hk;replace HR:=O (eD.keep0 HR.out hk);clear hS hk;go_wp2_with fail;refine⟨hS1,?_⟩;refine wA9 4 ?_;go_wp2_with fail;refine((vE HR.out HOC.out hpc HOP.out g:Calls _ _ _ w3 (aK w3 (.tuple #[.slice none 0 0,.int .i64 1])))).mono ?_;rintro e w4 ⟨rfl,hk⟩;have hS2:=HSI.out _ ((HSE.out _ hS1).trans hk);replace HL:=kL HL hk;replace HR:=O (eD.keep0 HR.out hk);clear hS1 hk;go_wp2_with fail;refine⟨hS2,?_⟩;refine tnb 5 (.slice none 0 0) rfl hS2 ?_;refine tnb 6 (.int .i64 1) rfl hS2 ?_;refine tna 7 (.slice none 0 0) rfl hS2 ?_;refine tna 8 (.int .i64 1) rfl hS2 ?_;refine wpAnyH_done (by kernel_rfl) ?_ _;clear hS2 HSE HSI HLs HRs;go_wp2
 go_ret2
 exact⟨rfl,HL.out.keep⟩
theorem GP{w:World}{cv:Value}{pc:List Value}(hr:eD w cv pc 1)(hc:cv.cells=#[cv])(hpc:pc.length=35)(hop:∀u∈pc,u.oneCell'=true)(x:Int):Calls Tryz.prog 17 #[cv,.agg pc.toArray,.int .i64 x] w (aK w (.tuple #[.slice none 0 0,.int .i64 1])):=by
 have HR:=O hr;have HOC:=O hc;have HOP:=O hop;have HL:=lN w;clear hr hc hop;go_in
 go_wp2_with ((with_reducible show WL _ _);refine bxL HL 27 (.tmp 1) (pc.toArray) ?_)
 intro b4 w1 hk HL;replace HR:=O (eD.keep0 HR.out hk);clear hk;go_wp2_with fail;refine dwA aB (by kernel_rfl) ?_;intro w2 S HSE HSI hS hkd;replace HL:=kL HL hkd;replace HR:=O (eD.keep0 HR.out hkd);clear hkd;have HLs:=HL;have HRs:=HR;refine tna 0 cv rfl hS ?_;refine tnd 1 (.agg pc.toArray) rfl (yieldsIf_load_mid (by rfl) 27 (.tmp 4) rfl b4 0 rfl pc _ (fun w' h=>aD ((HSE.out w' h).blk (HLs.out.b 0) id)) aF rfl (szP9 hpc)) hS ?_;refine tna 2 (.int .i64 x) rfl hS ?_;refine wA9 3 ?_;go_wp2_with fail;refine((oD w2 x)).mono ?_;rintro e w3 ⟨g,rfl,-,-,hk⟩;have hS1:=HSI.out _ ((HSE.out _ hS).trans hk);replace HL:=kL HL hk;replace HR:=O (eD.keep0 HR.out hk);clear hS hk;go_wp2_with fail;refine⟨hS1,?_⟩;refine wA9 4 ?_;go_wp2_with fail;refine((DS HR.out HOC.out hpc HOP.out g:Calls _ _ _ w3 (aK w3 (.tuple #[.slice none 0 0,.int .i64 1])))).mono ?_;rintro e w4 ⟨rfl,hk⟩;have hS2:=HSI.out _ ((HSE.out _ hS1).trans hk);replace HL:=kL HL hk;replace HR:=O (eD.keep0 HR.out hk);clear hS1 hk;go_wp2_with fail;refine⟨hS2,?_⟩;refine tnb 5 (.slice none 0 0) rfl hS2 ?_;refine tnb 6 (.int .i64 1) rfl hS2 ?_;refine tna 7 (.slice none 0 0) rfl hS2 ?_;refine tna 8 (.int .i64 1) rfl hS2 ?_;refine wpAnyH_done (by kernel_rfl) ?_ _;clear hS2 HSE HSI HLs HRs;go_wp2
 go_ret2
 exact⟨rfl,HL.out.keep⟩
theorem GQ{w:World}{cv:Value}{pc:List Value}(hN:dL w cv)(hpc:pc.length=35)(hop:∀u∈pc,u.oneCell'=true):Calls Tryz.prog 18 #[cv,.agg pc.toArray,.agg pc.toArray] w (aK w (.tuple #[.slice none 0 0,.int .i64 1])):=by
 have HN:=O hN;have HOC:=O hN.one.1;have HOP:=O hop;have HL:=lN w;clear hN hop;go_in
 go_wp2_with ((with_reducible show WL _ _);refine bxL HL 27 (.tmp 1) (pc.toArray) ?_)
 intro b4 w1 hk HL;replace HN:=O (dL.keep0 HN.out hk);clear hk
 go_wp2_with ((with_reducible show WL _ _);refine bxL HL 27 (.tmp 2) (pc.toArray) ?_)
 intro b5 w2 hk HL;replace HN:=O (dL.keep0 HN.out hk);clear hk
 go_wp2_with ((with_reducible show WL _ _);first
  | refine wpList_load_mid rfl 27 (.tmp 4) rfl b4 0 rfl pc _ (aD (HL.out.b 1)) aF rfl (szP9 hpc) ?_
  | refine wpList_load_mid rfl 27 (.tmp 5) rfl b5 0 rfl pc _ (aD (HL.out.b 0)) aF rfl (szP9 hpc) ?_
  | refine Ot 22 27 (.tmp 17) (.tmp 18) Tryz.underlying22 lU (by omega) pc pc hpc hpc (by omega) ?_)
 intro b19 w3 hbs hk hb;replace HL:=lW HL hbs hk hb;replace HN:=O (dL.keep0 HN.out hk);clear hbs hk hb;go_wp2_with fail;refine((wR HN.out _ _ _:Calls _ _ _ w3 (aK w3 (.int .i64 1)))).mono ?_;rintro e w4 ⟨rfl,hk⟩;replace HL:=kL HL hk;replace HN:=O (dL.keep0 HN.out hk);clear hk;go_wp2
 go_ret2
 exact⟨rfl,HL.out.keep⟩
end
end Go.Proofs.YtiinnfhjpaeffaaGreat
