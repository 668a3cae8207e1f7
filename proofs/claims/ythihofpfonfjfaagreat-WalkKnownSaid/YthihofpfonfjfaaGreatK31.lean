import Derived.Test.YthihofpfonfjfaaGreatK1
import Derived.Test.YthihofpfonfjfaaGreatK30
namespace Go.Proofs.YthihofpfonfjfaaGreat
set_option maxHeartbeats 64000000
set_option maxRecDepth 100000
set_option linter.unusedVariables false
section
open Go.RowKit Go.Maps Go.ChangeMaps
theorem G4{w:World}{b:Nat}{v:Value}{p:Pt}{a:Int}{t:TypeId}{fr:Nat×Nat}(hs:p.sum.length=32)(h:w.heap[b]?=some (.cells (dJ v p a).toArray t fr)):w.cell? ⟨b,35,none⟩=some (.int .i64 a):=
 aC h (by
  rw[List.getElem?_toArray];unfold dJ;rw[List.getElem?_append_right (by rw[aI hs];exact Nat.le_refl _),aI hs];rfl)
theorem Ly(f:Nat->Value)(a:Int):Tryz.prog.built 83 [(0,.agg ((List.range 35).map f).toArray),(1,.int .i64 a)]=some ((List.range 35).map f++[Value.int .i64 a]).toArray:=by kernel_rfl
theorem wG(uc:List Value)(h:uc.length=35):uc=(List.range 35).map fun i=>uc.getD i undef:=by
 apply List.ext_getElem?;intro i;rw[List.getElem?_map]
 by_cases hi:i<35
 ·rw[List.getElem?_range hi,List.getElem?_eq_getElem (by omega)]
  simp[List.getD,List.getElem?_eq_getElem (show i<uc.length by omega)]
 ·rw[List.getElem?_eq_none (by omega),List.getElem?_eq_none (by simp;omega)];rfl
theorem Fv(v:Value)(p:Pt)(a:Int)(hs:p.sum.length=32)(w:World):(Instr.build 83 #[(0,.agg (aE v p).toArray),(1,.int .i64 a)]).run Tryz.prog w=.ok (.agg (dJ v p a).toArray) w:=by
 refine run_build w 83 _ _ ?_;unfold dJ;rw[wG (aE v p) (aI hs)];exact Ly _ _
theorem DW{w:World}{c:Nat}{S:Kor}{B:Nat->Prop}(hK:KI w c S B){N0 g q6 q7 q11 q4 q12 l:Nat}{x:Int}(hl2:l≤2)(IH:NS B S c N0 g q6 q7 q11 q4 q12 x l)(hB:∀i,B i->i<N0)(hT:Thr B N0 c g x q6 q7 q11 q4 q12 w){v:Value}{ps:List (Value×Pt)}(hO:jU N0 q11 w v ps)(hN:N0≤w.heap.size)(pv:Value)(t:Tr)(a:Nat)(hps:ps.length+(thr (bB x) (l+1) t a).length≤1000)(ha:a+4 ^ (l+1)≤64)(ht:Tr.Ok S (l+1) t)(hp:aX w B pv t.ptr)(hpo:∀i,pv.ownBlock=some i->i≠q11/\v.ownBlock≠some i)(hpl:t.ptr.addrs.length≤65536)(hh:t.isHole=false)(hn:decide (x<t.ptr.birth)=true):Calls Tryz.prog 59 #[.agg (dJ pv t.ptr (a:Int)).toArray,.int .i64 ((l+1:Nat):Int),.pointer (some ⟨q6,0,none⟩),.pointer (some ⟨q7,0,none⟩),.pointer (some ⟨q11,0,none⟩),.pointer (some ⟨q4,0,none⟩),.pointer (some ⟨q12,0,none⟩)] w (qC N0 q11 x (l+1) t a v ps w):=by
 have hhp:t.ptr.hole=false:=by rw[ht.hole_eq,hh]
 have HIH:=O IH;have HBN:=O hB;have HTR:=O ht;have HPSL:=O hps;have HA:=O ha;have HPO:=O hpo;have HHH:Hid (t.isHole=false/\bB x t.ptr=true):=O ⟨hh,hn⟩;have hps1:ps.length≤1000:=by omega
 have HT:=O hT;have HO:=O hO;have HBLT:=O (fun i (e:B i)=>hK.lt e);have HNN:=O hN;have HPS:=O hps1;have HKI:=O hK;have HVO0:Hid (∀i,v.ownBlock=some i->i<w.heap.size):=O fun i hi=>by (obtain⟨cur,hc⟩:=aL hO.row hi;exact lt_of_block hc)
 obtain⟨p,hpe⟩:∃p,t.ptr=p:=⟨_,rfl⟩
 have HPE:=O hpe;rw[hpe] at hp hhp hn hpl ⊢;have HPT:=O hp;have HHP:=O hhp;have HN1:=O hn;have HPL:=O hpl;have HSM:=O hp.pt.sum;have hpc:=aI (v:=pv) hp.pt.sum;have HOP0:=aO hp.pt;have hlc:=jR (v:=pv) (a:=(a:Int)) hp.pt.sum;have HOL0:=jS (a:=(a:Int)) hp.pt;obtain⟨pc,hpce⟩:∃l,aE pv p=l:=⟨_,rfl⟩
 obtain⟨lc,hlce⟩:∃l,dJ pv p (a:Int)=l:=⟨_,rfl⟩
 have HOP:Hid (∀u∈pc,u.oneCell'=true):=O (by rw[←hpce];exact HOP0);have HOL:Hid (∀u∈lc,u.oneCell'=true):=O (by rw[←hlce];exact HOL0);have HPC:=O hpce;have HLC:=O hlce;rw[hpce] at hpc;rw[hlce] at hlc ⊢;have hl0:(0:Int)≤((l+1:Nat):Int):=by omega
 have hlz:(((l:Int)+1) == 0)=false:=by rw[beq_eq_false_iff_ne];omega
 clear HOP0 HOL0 hpce hlce hp hT hO hh hhp hn hN hps hpl hpe hK IH hB ht ha hpo hps1;have HL:=lN w;go_in
 go_wp2_with ((with_reducible show WL _ _);refine bxL HL 83 (.tmp 0) (lc.toArray) ?_)
 intro b7 w1 hk HL;replace HPT:=pK HPT hk;replace HT:=O (HT.out.keep hk fun _ e=>e.elim);replace HO:=O (HO.out.keep0 hk);replace HKI:=O (KI.keep0 HKI.out hk);clear hk
 go_wp2_with ((with_reducible show WL _ _);refine wpList_load_mid rfl 26 (.tmp 15) rfl b7 0 rfl pc _ (by have h:=HL.out.b 0;rw[←HLC.out] at h;rw[←HPC.out];exact eF h) aF rfl (szP9 hpc) ?_)
 refine((by rw[←HPC.out];exact cG w1 pv p HPT.out.pt:Calls _ _ _ w1 (aW w1 p.hole))).mono ?_;rintro e w2 ⟨rfl,hk⟩;replace HL:=kL HL hk;replace HPT:=pK HPT hk;replace HT:=O (HT.out.keep hk fun _ e=>e.elim);replace HO:=O (HO.out.keep0 hk);replace HKI:=O (KI.keep0 HKI.out hk);clear hk;rw[HHP.out];have c1:w2.cell? ⟨q6,0,none⟩=some (nwV g):=(cell_of_one HT.out.c6)
 go_wp2_with ((with_reducible show WL _ _);refine aM (by rfl) 26 (.tmp 20) rfl b7 0 rfl pc _ (by have h:=HL.out.b 0;rw[←HLC.out] at h;rw[←HPC.out];exact eF h) aF rfl (szP9 hpc) ?_)
 clear c1;refine((by rw[←HPC.out];exact kH HT.out.cg pv p HPT.out.pt:Calls _ _ _ w2 (aW w2 (decide (x<p.birth))))).mono ?_;rintro e w3 ⟨rfl,hk⟩;replace HL:=kL HL hk;replace HPT:=pK HPT hk;replace HT:=O (HT.out.keep hk fun _ e=>e.elim);replace HO:=O (HO.out.keep0 hk);replace HKI:=O (KI.keep0 HKI.out hk);clear hk;rw[HN1.out];have c1:w3.cell? ⟨q7,0,none⟩=some (owV):=(cell_of_one HT.out.c7)
 go_wp2_with ((with_reducible show WL _ _);refine wpList_load_mid rfl 83 (.tmp 7) rfl b7 0 rfl lc _ (aD (HL.out.b 0)) Tryz.underlying83 rfl (by rw[hlc];exact wF) ?_)
 clear c1;have HSW:=O HL.out.keep.size;refine((by rw[←HLC.out];exact DP (B:=B) (fun k hk=>Nat.lt_of_lt_of_le (HBLT.out k hk) HL.out.keep.size) pv p HPT.out.pt HPL.out (a:Int):Calls _ _ _ w3 (tK w3 B p))).mono ?_;rintro e w4 ⟨v1,rfl,hpv1,hnw1,hk⟩;have HV1:Hid (PtV w4 v1 p):=O hpv1.pt;have HVO:Hid (∀i,v1.ownBlock=some i->N0≤i/\v.ownBlock≠some i/\IsC w4 i):=O (fun i hi=>⟨by have h1:=hnw1 i hi;have h2:=HNN.out;have h3:=HSW.out;omega,fun e=>by (obtain⟨cur,hc⟩:=aL HO.out.row e;have h1:=lt_of_block hc;have h2:=hnw1 i hi;omega),(hpv1.off i hi).2⟩);obtain⟨rc,HRC,hrc,HOR⟩:=nmPt hpv1.pt;rw[HRC.out];clear hpv1 hnw1;replace HL:=kL HL hk;replace HPT:=pK HPT hk;replace HT:=O (HT.out.keep hk fun _ e=>e.elim);replace HO:=O (HO.out.keep0 hk);replace HKI:=O (KI.keep0 HKI.out hk);clear hk
 go_wp2_with ((with_reducible show WL _ _);refine al 26 (.agg aH.toArray) (aH.toArray) bC ?_)
 intro b10 w5 hbs hk0 hb0_
 go_wp2_with ((with_reducible show WL _ _);refine sta 26 (.tmp 10) (.tmp 29) b10 0 rc hb0_ (by first|decide|(rw[List.size_toArray,hrc];exact Nat.le_refl _)|simp[hrc,aG]) (szP9 hrc) HOR.out ?_)
 intro w6 hk hb;rw[aJ _ _ (by first|rfl|(rw[List.size_toArray,hrc];rfl)|simp[hrc,aG])] at hb;replace hk:=tX hk0 hk (fun i hi e=>by omega);replace HL:=lW HL hbs hk hb;replace HPT:=pK HPT hk;replace HT:=O (HT.out.keep hk fun _ e=>e.elim);replace HO:=O (HO.out.keep0 hk);replace HKI:=O (KI.keep0 HKI.out hk);replace HV1:=O (HV1.out.keep hk fun _ _=>id);replace HVO:=O (fun i hi=>And.intro (HVO.out i hi).1 (And.intro (HVO.out i hi).2.1 ((HVO.out i hi).2.2.keep hk id)));clear hbs hk hb hk0 hb0_;have c1:w6.cell? ⟨q11,0,none⟩=some (v):=(cell_of_one HO.out.cell)
 go_wp2_with ((with_reducible show WL _ _);first
  | refine wpList_load_mid rfl 26 (.tmp 10) rfl b10 0 rfl rc _ (aD (HL.out.b 0)) aF rfl (szP9 hrc) ?_
  | refine bsA 42 26 (.tmp 33) Tryz.underlying42 oG (by omega) rc hrc (by omega) ?_)
 clear c1;intro b34 w7 hbs hk hb;have HRN:Hid (Rd w7 35 (.slice (some ⟨b34,0,none⟩) 1 1) 1 rc):=O (dX (n:=1) (size:=35) hb (by rw[hrc]) (by unfold maxLen;omega));replace HL:=lW HL hbs hk hb;replace HPT:=pK HPT hk;replace HT:=O (HT.out.keep hk fun _ e=>e.elim);replace HO:=O (HO.out.keep0 hk);replace HKI:=O (KI.keep0 HKI.out hk);replace HV1:=O (HV1.out.keep hk fun _ _=>id);replace HVO:=O (fun i hi=>And.intro (HVO.out i hi).1 (And.intro (HVO.out i hi).2.1 ((HVO.out i hi).2.2.keep hk id)));clear hbs hk hb;have HLN:=O (show N0≤w7.heap.size from Nat.le_trans HNN.out HL.out.keep.size);have HPS2:Hid (ps.length+1≤maxLen/\(ps.length+1)*72≤140737488355328):=O (by have:=HPS.out;unfold maxLen;omega)
 go_wp2_with (at_builtin;refine aN rfl (.tmp 32) (.tmp 34) 42 rfl N0 26 (.agg aH.toArray) 35 72 Tryz.underlying42 oG rfl (by decide) v ps.length (ps.flatMap fun x=>aE x.1 x.2) rfl HO.out.row (.slice (some ⟨b34,0,none⟩) 1 1) 1 rc rfl HRN.out HOR.out HPS2.out.1 HPS2.out.2 HLN.out ?_)
 intro v2 w8 ho5 hk5 hn5 hb5;obtain⟨g2,c2,rfl,-,-⟩:=(Rd.of_owns ho5).form;have H11:=O (hk5.blk HO.out.cell fun e=>by have h1:=aT HO.out.row e;have h2:=HT.out.l11.1;omega);have HO5:=O ho5;have HK5:=O hk5;have HB5:=O hb5;have HKL:=O HL.out.keep;have HB7L:=O (HL.out.lt 2);have HOG:=O (fun i (hi:v.ownBlock=some i)=>(aT HO.out.row hi:N0≤i));clear ho5 hk5 hn5 hb5 HRN
 go_wp2_with ((with_reducible show WL _ (.store 42 _ _));refine sta 42 (.tmp 4) (.tmp 35) q11 0 [.slice g2 (ps.length+1) c2] H11.out (by simp) (by kernel_rfl) (by intro u hu;rw[List.mem_singleton] at hu;subst hu;rfl) ?_)
 intro w9 hk hb;replace hb:w9.heap[q11]?=some (.cells #[.slice g2 (ps.length+1) c2] 42 (0,0)):=hb;have hk9:aA (fun i=>i=q11\/v.ownBlock=some i) w7 w9:=HK5.out.trans' hk (fun i _ e=>.inr e) (fun i _ e=>.inl e);have HQ:Hid (jU N0 q11 w9 (.slice g2 (ps.length+1) c2) (ps++[(v1,p)])):=O (HO.out.grow HT.out.l11.1 HV1.out HVO.out (by rw[HRC.out];exact HO5.out) HK5.out HB5.out hk hb)
 have hsl:∀i,w.heap.size≤i->¬(i=q11\/v.ownBlock=some i):=fun i hi e=>by
  rcases e with rfl|e
  ·have h1:=HT.out.l11.1;have h2:=HNN.out;omega
  ·have h1:=HVO0.out i e;omega
 replace HL:=O (HL.out.onto hk9 (fun z hz=>hsl _ (HL.out.ge z hz)));replace HT:=O (HT.out.keep hk9 fun i e=>e.imp id (HOG.out i));replace HKI:=O (HKI.out.keepT hk9 fun i e hBi=>e.elim (fun e=>HT.out.l11.2 (e▸hBi)) fun e=>by (have h1:=HOG.out i e;have h2:=HBN.out i hBi;omega));replace HPT:=O (HPT.out.keepT hk9 fun i hi e=>e.elim (HPO.out i hi).1 (HPO.out i hi).2)
 have HV2:Hid (∀i,(Value.slice g2 (ps.length+1) c2).ownBlock=some i->v.ownBlock=some i\/i=w7.heap.size):=O (fun i hi=>by
  rcases HB5.out with e|e
  ·exact .inl (e▸hi)
  ·rw[e] at hi;injection hi with hi;exact .inr hi.symm)
 have HS2:=O (And.intro HKL.out.size (And.intro hk9.size (HL.out.lt 2)));obtain⟨v2,hv2⟩:∃u,Value.slice g2 (ps.length+1) c2=u:=⟨_,rfl⟩
 rw[hv2] at HQ HV2;clear hk9 hk hb HK5 HO5 H11 HO HV1 HVO HB5 hv2;have c1:w9.cell? ⟨q4,0,none⟩=some (.pointer (some ⟨c,0,none⟩)):=(cell_of_one HT.out.c4)
 go_wp2_with ((with_reducible show WL _ _);refine wpList_load_mid rfl 26 (.tmp 40) rfl b7 0 rfl pc _ (by have h:=HL.out.b 2;rw[←HLC.out] at h;rw[←HPC.out];exact eF h) aF rfl (szP9 hpc) ?_)
 clear c1;have HLW:=O HL.out.keep.size;have HQL:Hid (∀i,v2.ownBlock=some i->i<w9.heap.size):=O fun i hi=>by (obtain⟨cur,hc⟩:=aL HQ.out.row hi;exact lt_of_block hc)
 refine((by rw[←HPC.out,←HPE.out];exact qT HKI.out hl2 pv t HTR.out (by rw[HPE.out];exact HPT.out.pt):Calls _ _ _ w9 (eI w9 B l t))).mono ?_;rintro e w8 ⟨vs,rfl,hvs,hnew,hk⟩;have HNN2:=O hvs;have HWS:=O hk.size;have HNO:Hid (∀q,q<4->∀i,(vs q).ownBlock=some i->i≠q11/\v2.ownBlock≠some i):=O (fun q hq i hi=>⟨fun e=>by (have h1:=hnew q hq i hi;have h2:=HLW.out;have h3:=HT.out.l11.1;have h4:=HNN.out;omega),fun e=>by (have h1:=hnew q hq i hi;have h2:=HQL.out i e;omega)⟩);have hnn:=dI ((l+1:Nat):Int) vs hvs.nv;have HOF0:=cV ((l+1:Nat):Int) hvs.nv;obtain⟨nn,hnne⟩:∃x,bV ((l+1:Nat):Int) vs (fun i=>(t.kid i).ptr)=x:=⟨_,rfl⟩
 have HOF:Hid (∀u∈nn,u.oneCell'=true):=O (by rw[←hnne];exact HOF0);have HNF:=O hnne;rw[hnne] at hnn ⊢;clear HOF0 hnne hvs hnew;replace HL:=kL HL hk;replace HPT:=pK HPT hk;replace HT:=O (HT.out.keep hk fun _ e=>e.elim);replace HQ:=O (HQ.out.keep0 hk);replace HKI:=O (KI.keep0 HKI.out hk);clear hk
 go_wp2_with ((with_reducible show WL _ _);refine al 92 (.agg cL.toArray) (cL.toArray) iA ?_)
 intro b12 w9 hbs hk0 hb0_
 go_wp2_with ((with_reducible show WL _ _);refine sta 92 (.tmp 12) (.tmp 44) b12 0 nn hb0_ (by first|decide|(rw[List.size_toArray,hnn];exact Nat.le_refl _)|simp[hnn,bK]) (by rw[hnn];exact cX) HOF.out ?_)
 intro wa hk hb;rw[aJ _ _ (by first|rfl|(rw[List.size_toArray,hnn];rfl)|simp[hnn,bK])] at hb;replace hk:=tX hk0 hk (fun i hi e=>by omega);have HNb12:=O (show w8.heap.size≤b12 from Nat.le_of_eq hbs);replace HL:=lW HL hbs hk hb;replace HPT:=pK HPT hk;replace HT:=O (HT.out.keep hk fun _ e=>e.elim);replace HQ:=O (HQ.out.keep0 hk);replace HKI:=O (KI.keep0 HKI.out hk);replace HNN2:=O (bR.keep0 HNN2.out hk);clear hbs hk hb hk0 hb0_;go_wp2_with fail
 have HST:Hid (∃vk qs,tL w B S c N0 g q6 q7 q11 q4 q12 x b7 b12 l t a pv v ps vs 0 wa vk qs):=O ⟨v2,[(v1,p)],HKI.out,HT.out,HQ.out,by rw[HPE.out];rfl,HNN2.out,HNO.out,by (have h:=HL.out.b 3;rw[←HLC.out] at h;rw[HPE.out];exact h),by (have h:=HL.out.b 0;rw[←HNF.out] at h;exact h),fun i hi=>by
  have h7:=HB7L.out;have hs:=HS2.out;have h12:=HL.out.lt 0;have hq:=HQL.out i hi;have h12n:=HNb12.out;have hws:=HWS.out;rcases HV2.out i hi with e|e
  ·have h1:=HVO0.out i e
   exact⟨.inl e,by omega,by omega⟩
  ·exact⟨.inr (by omega),by omega,by omega⟩,⟨by have h1:=(HL.out.lt 3).1;have h2:=HNN.out;omega,by have h1:=(HL.out.lt 0).1;have h2:=HNN.out;omega,HNN.out⟩,HL.out.keep⟩
 clear HL HKI HPT HT HQ HNN2
 go_loopw [13,14] (fun e i wr=>∃k:Nat,k≤4/\e=.int .i64 0/\i=.int .i64 (k:Int)/\Hid (∃vk qs,tL w B S c N0 g q6 q7 q11 q4 q12 x b7 b12 l t a pv v ps vs k wr vk qs)) (fun _ i _=>4-(intOf i).toNat)
 case atStart=>exact⟨0,by omega,rfl,rfl,HST⟩
 case round =>
  obtain⟨k,hk,rfl,rfl,HCI⟩:=hrel;obtain⟨vk,qs,hci⟩:=HCI.out
  by_cases hk8:k<4
  ·have hk0:(0:Int)≤(k:Int):=by omega
   have hk1:(k:Int)<4:=by omega
   have HKI:=O hci.ki;have HT:=O hci.th;have HQ:=O hci.out;have HQV:=O (hci.old k hk8);have HCX:=O hci;have hqc:=aI (v:=vs k) HQV.out.pt.sum;have HOQ0:=aO HQV.out.pt;have HX0:=lE hci.old.nv (aD hci.h12) hk8;obtain⟨qc,hqce⟩:∃x,aE (vs k) ((t.kid k).ptr)=x:=⟨_,rfl⟩
   have HOQ:Hid (∀u∈qc,u.oneCell'=true):=O (by rw[←hqce];exact HOQ0);have HQC:=O hqce;rw[hqce] at hqc HX0;have HX:=O HX0;have HAT:=O (G4 (by rw[HPE.out];exact HSM.out) hci.h7);obtain⟨W,hW⟩:∃W:Nat,4 ^ l=W:=⟨_,rfl⟩
   have hW16:W≤16/\1≤W:=by
    have:l=0\/l=1\/l=2:=by omega
    rcases this with rfl|rfl|rfl<;>omega
   have HW:=O hW;obtain⟨kw,hkw⟩:∃q:Nat,k*W=q:=⟨_,rfl⟩
   have hkw48:kw+W≤4*W:=by rw[←hkw];have h1:=Nat.mul_le_mul_right W (show k+1≤4 by omega);rw[Nat.succ_mul] at h1;exact h1
   have hkwi:(k:Int)*(W:Int)=(kw:Int):=by rw[←hkw];push_cast;rfl
   have hal:a+4*W≤64:=by have h1:=HA.out;rw[Nat.pow_succ,hW] at h1;omega
   obtain⟨ak,hak⟩:∃ak,a+kw=ak:=⟨_,rfl⟩
   have HKWI:Hid (a+k*4 ^ l=ak):=O (by rw[hW,hkw,hak]);have hai:(a:Int)+(kw:Int)=(ak:Int):=by omega
   have HNQ:Hid ((∀i,(vs k).ownBlock=some i->i≠q11/\vk.ownBlock≠some i)/\(ps++qs).length+(thr (bB x) l (t.kid k) ak).length≤1000/\ak+4 ^ l≤64/\N0≤wr.heap.size):=O ⟨hci.off k hk8,by rw[←hak,←hkw,←hW];exact hci.len hk8 HPSL.out HHH.out.1 HHH.out.2,by rw[hW];omega,by have h1:=hci.ge;have h2:=hci.keep.size;omega⟩;have HTK:=O (HTR.out.kid hk8);have HL:=lN wr
   have H12N:Hid (¬(b12=q11\/vk.ownBlock=some b12)/\¬(b7=q11\/vk.ownBlock=some b7)/\¬(q12=q11\/vk.ownBlock=some q12)):=O (by
    have h1:=hci.ge;have h2:=hci.th.l11.1;have h3:=hci.th.lt q12 (.inr (.inr (.inr (.inr rfl))));refine⟨fun e=>e.elim (fun e=>by omega) fun e=>(hci.own _ e).2.2 rfl,fun e=>e.elim (fun e=>by omega) fun e=>(hci.own _ e).2.1 rfl,fun e=>e.elim (fun e=>by omega) fun e=>?_⟩;have h4:=aT hci.out.row e;omega)
   have hbp:=Fv (vs k) (t.kid k).ptr (ak:Int) HQV.out.pt.sum;obtain⟨mc,hmc⟩:∃x,dJ (vs k) (t.kid k).ptr (ak:Int)=x:=⟨_,rfl⟩
   have HMC:=O hmc;rw[hmc,hqce] at hbp;have HBP:=O hbp;clear hqce HOQ0 HX0 hci HCI hW hkw hmc hbp hak;go_wp2_with fail;refine dwA (fun i=>i=q11\/vk.ownBlock=some i) (by kernel_rfl) ?_;intro wc S HSE HSI hS hkd;replace HL:=kL HL hkd;replace HKI:=O (KI.keep0 HKI.out hkd);replace HT:=O (HT.out.keep hkd fun _ e=>e.elim);replace HQ:=O (HQ.out.keep0 hkd);replace HX:=O (hkd.rangeAt HX.out);replace HQV:=pK HQV hkd;replace HAT:=O (hkd.cell HAT.out id);clear hkd;have HLs:=HL;have HKIs:=HKI;have HTs:=HT;have HQs:=HQ;have HXs:=HX;have HQVs:=HQV;have HATs:=HAT;refine tnd 0 (dnV q6 q7 q11 q4 q12) rfl (.inl ⟨by rfl,fun w' hw'=>by have c:World.cell? w' ⟨q12,0,none⟩=some (dnV q6 q7 q11 q4 q12):=(HSE.out w' hw').cell (cell_of_one HTs.out.c12) H12N.out.2.2;go_simp⟩) hS ?_;refine tna 1 (.int .i64 (k:Int)) rfl hS ?_;refine tnb 2 (.pointer (some ⟨b12,1,none⟩)) rfl hS ?_;refine tnd 3 (.pointer (some ⟨b12,1+k*35,none⟩)) rfl (.inl ⟨by rfl,fun _ _=>by go_simp<;>omega⟩) hS ?_;refine tnd 4 (.agg qc.toArray) rfl (yieldsIf_load_mid (by rfl) 26 (.tmp 57) rfl b12 (1+k*35) rfl qc _ (fun w' h=>(HSE.out w' h).rangeAt2 HXs.out H12N.out.1) aF rfl (szP9 hqc)) hS ?_;refine tnb 5 (.pointer (some ⟨b7,35,none⟩)) rfl hS ?_;refine tnd 6 (.int .i64 (a:Int)) rfl (.inl ⟨by rfl,fun w' hw'=>by have c:World.cell? w' ⟨b7,35,none⟩=some (.int .i64 (a:Int)):=(HSE.out w' hw').cell HATs.out H12N.out.2.1;go_simp⟩) hS ?_;refine tna 7 (.int .i64 (k:Int)) rfl hS ?_;refine tna 8 (.int .i64 ((l+1:Nat):Int)) rfl hS ?_;refine tnd 9 (.int .i64 (l:Int)) rfl (.inl ⟨by rfl,fun _ _=>by go_simp;exact IntWalk.i64_in _ (by omega)⟩) hS ?_;refine tna 14 (.int .i64 ((l+1:Nat):Int)) rfl hS ?_;refine tnd 15 (.int .i64 (l:Int)) rfl (.inl ⟨by rfl,fun _ _=>by go_simp;exact IntWalk.i64_in _ (by omega)⟩) hS ?_;refine wA9 10 ?_;go_wp2_with fail;refine((by rw[←HW.out];exact tJ wc l (by omega):Calls _ _ _ wc (aK wc (.int .i64 (W:Int))))).mono ?_;rintro e wd ⟨rfl,hk⟩;have hS1:=HSI.out _ ((HSE.out _ hS).trans hk.any);replace HL:=kL HL hk;replace HKI:=O (KI.keep0 HKI.out hk);replace HT:=O (HT.out.keep hk fun _ e=>e.elim);replace HQ:=O (HQ.out.keep0 hk);replace HX:=O (hk.rangeAt HX.out);replace HQV:=pK HQV hk;replace HAT:=O (hk.cell HAT.out id);clear hS hk;go_wp2_with fail;refine⟨hS1,?_⟩;refine tnd 11 (.int .i64 (kw:Int)) rfl (.inl ⟨by rfl,fun _ _=>by go_simp;exact IntWalk.i64_in _ (by omega)⟩) hS1 ?_;refine tnd 12 (.int .i64 (ak:Int)) rfl (.inl ⟨by rfl,fun _ _=>by go_simp;exact IntWalk.i64_in _ (by omega)⟩) hS1 ?_;refine tnd 13 (.agg mc.toArray) rfl (eP 83 #[(0,.tmp 58),(1,.tmp 66)] [(0,.agg qc.toArray),(1,.int .i64 (ak:Int))] (.agg mc.toArray) HBP.out) hS1 ?_;refine wA9 16 ?_;go_wp2_with fail;have HLK:Hid (aA aB wr wd):=O HL.out.keep;refine((by rw[←HMC.out];exact HIH.out wd vk (ps++qs) (vs k) (t.kid k) ak HKI.out HT.out HQ.out (Nat.le_trans HNQ.out.2.2.2 HL.out.keep.size) HNQ.out.2.1 HNQ.out.2.2.1 HTK.out HQV.out HNQ.out.1:Calls _ _ _ wd (qC N0 q11 x l (t.kid k) ak vk (ps++qs) wd))).mono ?_;rintro e we hm;obtain⟨he,hmk,hnx⟩:=HCX.out.step HBN.out HLK.out (by rw[HKWI.out];exact hm);subst he;have HNX:=O hnx;have hS2:=HSI.out _ ((HSE.out _ hS1).trans hmk);clear hS1 hmk hm hnx HL HKI HT HX HQV HQ HAT HLK;go_wp2_with fail;refine⟨hS2,?_⟩;refine tna 17 (.int .i64 0) rfl hS2 ?_;refine wpAnyH_done (by kernel_rfl) ?_ _;clear hS2 HSE HSI HLs HKIs HTs HQs HXs HQVs HATs;clear HCX;go_wp2
   go_roundw
   case rel=>exact⟨k+1,by omega,rfl,by go_num,HNX⟩
   case measure=>simp[intOf];omega
  ·obtain rfl:k=4:=by omega
   have HP:=O (hci.fin HHH.out.1 HHH.out.2 (aA.refl aB wr));clear hci HCI;go_wp2;go_ret;exact HP.out
theorem NT:Hid (∀w,(zeroValue 126).run Tryz.prog w=.ok .nilFunc w):=O fun w=>by kernel_rfl
theorem Ov:Hid (∀w,(zeroValue 42).run Tryz.prog w=.ok (.slice none 0 0) w):=O fun w=>by kernel_rfl
theorem Jz(f:Nat->Value):Tryz.prog.built 83 [(0,.agg ((List.range 35).map f).toArray)]=some ((List.range 35).map f++[Value.int .i64 0]).toArray:=by kernel_rfl
theorem DX(v:Value)(p:Pt)(hs:p.sum.length=32)(w:World):(Instr.build 83 #[(0,.agg (aE v p).toArray)]).run Tryz.prog w=.ok (.agg (dJ v p 0).toArray) w:=by
 refine run_build w 83 _ _ ?_;unfold dJ;rw[wG (aE v p) (aI hs)];exact Jz _
theorem Tr.Ok.few{S:Kor}{l:Nat}{t:Tr}(h:Tr.Ok S l t):t.ptr.addrs.length≤65536:=by
 have:=(iF h.pmay).1;omega
theorem Lz{B:Nat->Prop}{S:Kor}{c N0 g q6 q7 q11 q4 q12:Nat}{x:Int}(hB:∀i,B i->i<N0):∀l,l≤3->NS B S c N0 g q6 q7 q11 q4 q12 x l:=by
 intro l
 induction l with
 | zero =>
   intro hl w v ps pv t a hK hT hO hN hps ha ht hp hpo;cases hh:t.isHole with
   | true=>exact mA hK hT hO pv t 0 a ht hp (.inl hh)
   | false =>
     cases hn:decide (x<t.ptr.birth) with
     | false=>exact mA hK hT hO pv t 0 a ht hp (.inr hn)
     | true=>exact DU hK hT hO hN (by omega) pv t a hp ht.few hh (by rw[ht.hole_eq,hh]) hn
 | succ l ih =>
   intro hl w v ps pv t a hK hT hO hN hps ha ht hp hpo;cases hh:t.isHole with
   | true=>exact mA hK hT hO pv t (l+1) a ht hp (.inl hh)
   | false =>
     cases hn:decide (x<t.ptr.birth) with
     | false=>exact mA hK hT hO pv t (l+1) a ht hp (.inr hn)
     | true=>exact DW hK (by omega) (ih (by omega)) hB hT hO hN pv t a hps ha ht hp hpo ht.few hh hn
def eJ(w:World)(ps:List Pt)(e:Ending)(w':World):Prop:=
 ∃(v:Value) (qs:List (Value×Pt)),e=.returned (.tuple #[v,.int .i64 0])/\qs.map (·.2)=ps/\w'.ownsRow w.heap.size 26 35 v ps.length (qs.flatMap fun x=>aE x.1 x.2)/\(∀x∈qs,PtV w' x.1 x.2/\∀i,x.1.ownBlock=some i->w.heap.size≤i/\v.ownBlock≠some i/\IsC w' i)/\aA aB w w'
theorem xD{w:World}{c:Nat}{S:Kor}{B:Nat->Prop}(hK:KI w c S B){g:Nat}{x:Int}(hg:w.heap[g]?=some (.cells #[.int .i64 x] 3 (0,0)))(pv:Value)(t:Tr)(ht:Tr.Ok S 3 t)(hp:aX w B pv t.ptr)(hm:(thr (bB x) 3 t 0).length≤1000):Calls Tryz.prog 25 #[.pointer (some ⟨c,0,none⟩),.agg (aE pv t.ptr).toArray,nwV g,owV] w (eJ w ((thr (bB x) 3 t 0).map (·.1))):=by
 have HTR:=O ht;have HM:=O hm;have HKI:=O hK;have HBLT:=O (fun i (e:B i)=>hK.lt e);have HGB:=O hg;have HGL:=O (lt_of_block hg);obtain⟨p,hpe⟩:∃p,t.ptr=p:=⟨_,rfl⟩
 have HPE:=O hpe;rw[hpe] at hp ⊢;have HPT:=O hp;have HRT:Hid (p.root=true):=O (by rw[←hpe];exact ht.root);have hpc:=aI (v:=pv) hp.pt.sum;have HOP0:=aO hp.pt;have hbp:=DX pv p hp.pt.sum;obtain⟨pc,hpce⟩:∃l,aE pv p=l:=⟨_,rfl⟩
 obtain⟨lc,hlce⟩:∃l,dJ pv p 0=l:=⟨_,rfl⟩
 have HOP:Hid (∀u∈pc,u.oneCell'=true):=O (by rw[←hpce];exact HOP0);have HPC:=O hpce;have HLC:=O hlce;rw[hpce] at hpc hbp ⊢;rw[hlce] at hbp;have HBP:=O hbp;have HPO:=O (fun i hi=>(hp.off i hi).2.lt);clear HOP0 hpce hlce hp ht hK hpe hg hm hbp;have HL:=lN w;go_in
 go_wp2_with ((with_reducible show WL _ _);refine bxL HL 32 (.tmp 0) (#[.pointer (some ⟨c,0,none⟩)]) ?_)
 intro b4 w1 hk HL;replace HPT:=pK HPT hk;replace HKI:=O (KI.keep0 HKI.out hk);replace HGB:=O (hk.blk HGB.out id);clear hk
 go_wp2_with ((with_reducible show WL _ _);refine bxL HL 26 (.tmp 1) (pc.toArray) ?_)
 intro b5 w2 hk HL;replace HPT:=pK HPT hk;replace HKI:=O (KI.keep0 HKI.out hk);replace HGB:=O (hk.blk HGB.out id);clear hk
 go_wp2_with ((with_reducible show WL _ _);refine bxL HL 78 (.tmp 2) (#[nwV g]) ?_)
 intro b6 w3 hk HL;replace HPT:=pK HPT hk;replace HKI:=O (KI.keep0 HKI.out hk);replace HGB:=O (hk.blk HGB.out id);clear hk
 go_wp2_with ((with_reducible show WL _ _);refine bxL HL 80 (.tmp 3) (#[owV]) ?_)
 intro b7 w4 hk HL;replace HPT:=pK HPT hk;replace HKI:=O (KI.keep0 HKI.out hk);replace HGB:=O (hk.blk HGB.out id);clear hk;have c1:w4.cell? ⟨b4,0,none⟩=some (.pointer (some ⟨c,0,none⟩)):=(aC (i:=0) (HL.out.b 3) rfl)
 go_wp2_with ((with_reducible show WL _ _);first
  | refine wpList_load_mid rfl 26 (.tmp 5) rfl b5 0 rfl pc _ (aD (HL.out.b 2)) aF rfl (szP9 hpc) ?_
  | refine bsA 42 26 (.tmp 15) Tryz.underlying42 oG (by omega) pc hpc (by omega) ?_)
 clear c1;intro b16 w5 hbs hk hb;replace HL:=lW HL hbs hk hb;replace HPT:=pK HPT hk;replace HKI:=O (KI.keep0 HKI.out hk);replace HGB:=O (hk.blk HGB.out id);clear hbs hk hb;go_wp2_with fail;refine((xC HKI.out pv p HPT.out.pt HRT.out (by rw[HPC.out];exact HL.out.b 0):Calls _ _ _ w5 (aK w5 (.int .i64 0)))).mono ?_;rintro e w6 ⟨rfl,hk⟩;replace HL:=kL HL hk;replace HPT:=pK HPT hk;replace HKI:=O (KI.keep0 HKI.out hk);replace HGB:=O (hk.blk HGB.out id);clear hk
 go_wp2_with ((with_reducible show WL _ _);refine alL HL 42 (.slice none 0 0) (#[.slice none 0 0]) Ov ?_)
 intro b11 w7 hk HL;replace HPT:=pK HPT hk;replace HKI:=O (KI.keep0 HKI.out hk);replace HGB:=O (hk.blk HGB.out id);clear hk
 go_wp2_with ((with_reducible show WL _ _);refine alL HL 126 (.nilFunc) (#[.nilFunc]) NT ?_)
 intro b12 w8 hk HL;replace HPT:=pK HPT hk;replace HKI:=O (KI.keep0 HKI.out hk);replace HGB:=O (hk.blk HGB.out id);clear hk
 go_wp2_with ((with_reducible show WL _ _);refine sta 126 (.tmp 12) (.tmp 21) b12 0 ([dnV b6 b7 b11 b4 b12]) (HL.out.b 0) (by simp) (by kernel_rfl) (one9) ?_)
 intro w9 hk hb;replace hb:w9.heap[b12]?=some (.cells #[dnV b6 b7 b11 b4 b12] 126 (0,0)):=hb;replace HL:=O (HL.out.set 0 hk hb);replace HPT:=O (HPT.out.keepT hk fun i hi e=>by have h1:=HPO.out i hi;have h2:=(HL.out.lt 0).1;omega);replace HKI:=O (HKI.out.keepT hk fun i e hb=>by have h1:=HBLT.out i hb;have h2:=(HL.out.lt 0).1;omega);replace HGB:=O (hk.blk HGB.out fun e=>by have h1:=HGL.out;have h2:=(HL.out.lt 0).1;omega);clear hk hb;obtain⟨N0,hN0⟩:∃n,w9.heap.size=n:=⟨_,rfl⟩
 have hg_:g<w9.heap.size:=Nat.lt_of_lt_of_le HGL.out HL.out.keep.size;have hB0:∀i,B i->i<N0:=fun i e=>by have h1:=HBLT.out i e;have h2:=HL.out.keep.size;omega
 have hT0:Thr B N0 c g x b6 b7 b11 b4 b12 w9:=⟨HGB.out,HL.out.b 4,HL.out.b 3,HL.out.b 6,HL.out.b 0,fun i hi=>by
  have g6:=HL.out.lt 4;have g7:=HL.out.lt 3;have g4:=HL.out.lt 6;have g12:=HL.out.lt 0;have g11:=HL.out.lt 1;have gg:=HGL.out;have n6:b11≠b6:=bG HL.out.nd (i:=4) rfl 1 (by decide) rfl;have n7:b11≠b7:=bG HL.out.nd (i:=3) rfl 1 (by decide) rfl;have n4:b11≠b4:=bG HL.out.nd (i:=6) rfl 1 (by decide) rfl;have n12:b11≠b12:=bG HL.out.nd (i:=0) rfl 1 (by decide) rfl;rcases hi with rfl|rfl|rfl|rfl|rfl<;>omega,⟨by have g11:=HL.out.lt 1;omega,fun e=>by have h1:=HBLT.out _ e;have g11:=HL.out.lt 1;omega⟩⟩
 have HO0:Hid (jU N0 b11 w9 (.slice none 0 0) []):=O ⟨HL.out.b 1,World.ownsRow_nil _ _ _ _,fun x hx=>by cases hx⟩;have HT:=O hT0;have HB0:=O hB0;have HN0:=O hN0;have HPO2:Hid (∀i,pv.ownBlock=some i->i≠b11/\(Value.slice none 0 0).ownBlock≠some i):=O (fun i hi=>⟨fun e=>by have h1:=HPO.out i hi;have h2:=(HL.out.lt 1).1;omega,fun e=>by cases e⟩);clear hg_ hB0 hT0 hN0;have HKW0:=O HL.out.keep.size;have c1:w9.cell? ⟨b12,0,none⟩=some (dnV b6 b7 b11 b4 b12):=(aC (i:=0) (HL.out.b 0) rfl)
 go_wp2_with ((with_reducible show WL _ _);first
  | refine wpList_load_mid rfl 26 (.tmp 5) rfl b5 0 rfl pc _ (aD (HL.out.b 5)) aF rfl (szP9 hpc) ?_
  | refine bld 83 #[(0,.tmp 23)] [(0,.agg pc.toArray)] (.agg lc.toArray) HBP.out ?_)
 clear c1;have HNS:Hid (w.heap.size≤N0):=O (by have h1:=HN0.out;have h2:=HKW0.out;omega);refine((by rw[←HLC.out,←HPE.out];exact Lz HB0.out 3 (by omega) w9 (.slice none 0 0) [] pv t 0 HKI.out HT.out HO0.out (by have h1:=HN0.out;have h2:=HL.out.keep.size;omega) (by rw[List.length_nil,Nat.zero_add];exact HM.out) (by decide) HTR.out (by rw[HPE.out];exact HPT.out) HPO2.out:Calls _ _ _ w9 (qC N0 b11 x 3 t 0 (.slice none 0 0) [] w9))).mono ?_;rintro e wa ⟨v,qs,rfl,ho,hq,-,hk⟩;have HC11:=O (cell_of_one ho.cell)
 have HP:Hid (eJ w ((thr (bB x) 3 t 0).map (·.1)) (.returned (.tuple #[v,.int .i64 0])) wa):=O (by
  have hsz:=HL.out.keep.size;have hn:=HN0.out;have hr:=ho.row;rw[List.nil_append] at hr;refine⟨v,qs,rfl,hq,?_,fun y hy=>⟨(ho.at_ y hy).1,fun i hi=>⟨?_,((ho.at_ y hy).2 i hi).2⟩⟩,HL.out.keep.trans' hk (fun _ _ h=>h) (fun i hi e=>?_)⟩
  ·rw[←hq,List.length_map]
   exact aV hr HNS.out
  ·exact Nat.le_trans HNS.out ((ho.at_ y hy).2 i hi).1
  ·rcases e with e|e
   ·have h1:=(HL.out.lt 1).1;omega
   ·cases e)
 clear HL HT HO0 HKI HPT ho hq hk;have c1:wa.cell? ⟨b11,0,none⟩=some (v):=HC11.out;go_wp2_with fail;clear c1
 go_ret2
 exact HP.out
theorem Fw{S:Kor}{t:Tr}{x:Int}(h:Tr.Ok S 3 t):(thr (bB x) 3 t 0).length≤1000:=by
 have q:∀{l:Nat}{t:Tr}{a:Nat},(thr (bB x) l t a).length≤2*4 ^ l-1:=by
  intro l
  induction l with
  | zero=>intro t a;rw[gR];split<;>simp
  | succ l ih =>
    intro t a;rw[gS];split
    ·simp
    ·have h0:=ih (t:=t.kid 0) (a:=a+0*4 ^ l);have h1:=ih (t:=t.kid 1) (a:=a+1*4 ^ l);have h2:=ih (t:=t.kid 2) (a:=a+2*4 ^ l);have h3:=ih (t:=t.kid 3) (a:=a+3*4 ^ l)
     rw[List.length_cons,show List.range 4=[0,1,2,3] from rfl];simp only[List.flatMap_cons,List.flatMap_nil,List.append_nil,List.length_append];have hp:0<4 ^ l:=Nat.pos_of_ne_zero (by simp);rw[Nat.pow_succ];omega
 have:=q (l:=3) (t:=t) (a:=0);omega
theorem vO{w:World}{c:Nat}{S:Kor}{B:Nat->Prop}(hK:KI w c S B)(pv:Value)(t:Tr)(ht:Tr.Ok S 3 t)(hp:aX w B pv t.ptr):Calls Tryz.prog 9 #[.pointer (some ⟨c,0,none⟩),.agg (aE pv t.ptr).toArray] w (eJ w (fK 3 t)):=by
 have HTR:=O ht;have HEQ:Hid ((thr (bB 0) 3 t 0).map (·.1)=fK 3 t):=O (by rw[Ae ht];rfl);have HKI:=O hK;obtain⟨p,hpe⟩:∃p,t.ptr=p:=⟨_,rfl⟩
 have HPE:=O hpe;rw[hpe] at hp ⊢;have HPT:=O hp;obtain⟨pc,HPC,hpc,HOP⟩:=nmPt hp.pt;rw[HPC.out];clear hp ht hK hpe;have HL:=lN w;go_in
 go_wp2_with ((with_reducible show WL _ _);refine bxL HL 26 (.tmp 1) (pc.toArray) ?_)
 intro b3 w1 hk HL;replace HPT:=pK HPT hk;replace HKI:=O (KI.keep0 HKI.out hk);clear hk;go_wp2_with fail;refine dwA aB (by kernel_rfl) ?_;intro w2 S HSE HSI hS hkd;replace HL:=kL HL hkd;replace HPT:=pK HPT hkd;replace HKI:=O (KI.keep0 HKI.out hkd);clear hkd;have HLs:=HL;have HPTs:=HPT;have HKIs:=HKI;refine tna 0 (.pointer (some ⟨c,0,none⟩)) rfl hS ?_;refine tnd 1 (.agg pc.toArray) rfl (yieldsIf_load_mid (by rfl) 26 (.tmp 3) rfl b3 0 rfl pc _ (fun w' h=>aD ((HSE.out w' h).blk (HLs.out.b 0) id)) aF rfl (szP9 hpc)) hS ?_;refine wA9 2 ?_;go_wp2_with fail;refine((qU w2 0)).mono ?_;rintro e w3 ⟨g,rfl,hg,-,hk⟩;have HGB:=O hg;clear hg;have hS1:=HSI.out _ ((HSE.out _ hS).trans hk);replace HL:=kL HL hk;replace HPT:=pK HPT hk;replace HKI:=O (KI.keep0 HKI.out hk);clear hS hk;go_wp2_with fail;refine⟨hS1,?_⟩;refine wA9 3 ?_;go_wp2_with fail;refine((by rw[←HPC.out,←HPE.out];exact xD HKI.out HGB.out pv t HTR.out (by rw[HPE.out];exact HPT.out) (Fw HTR.out):Calls _ _ _ w3 (eJ w3 ((thr (bB 0) 3 t 0).map (·.1))))).mono ?_;rintro e w4 ⟨v,qs,rfl,hq,ho,hat,hk⟩
 have HP:Hid (eJ w (fK 3 t) (.returned (.tuple #[v,.int .i64 0])) w4):=O (by
  rw[HEQ.out] at hq ho;exact⟨v,qs,rfl,hq,aV ho HL.out.keep.size,fun y hy=>⟨(hat y hy).1,fun i hi=>⟨Nat.le_trans HL.out.keep.size ((hat y hy).2 i hi).1,((hat y hy).2 i hi).2⟩⟩,HL.out.keep.trans hk⟩)
 have hS2:=HSI.out _ ((HSE.out _ hS1).trans hk);clear hS1 hk hq ho hat HL HKI HPT HGB;go_wp2_with fail;refine⟨hS2,?_⟩;refine tnb 4 v rfl hS2 ?_;refine tnb 5 (.int .i64 0) rfl hS2 ?_;refine tna 6 v rfl hS2 ?_;refine tna 7 (.int .i64 0) rfl hS2 ?_;refine wpAnyH_done (by kernel_rfl) ?_ _;clear hS2 HSE HSI HLs HPTs HKIs;go_wp2
 go_ret2
 exact HP.out
abbrev bkV:Value:=.func (.func 29) #[] #[]
abbrev dbV(b6 b7 b11 b4 b12:Nat):Value:=.func (.func 61) #[] #[.pointer (some ⟨b6,0,none⟩),.pointer (some ⟨b7,0,none⟩),.pointer (some ⟨b11,0,none⟩),.pointer (some ⟨b4,0,none⟩),.pointer (some ⟨b12,0,none⟩)]
def bks(f:Pt->Bool):Nat->Tr->Nat->List Nat
 | 0,t,a=>if t.isHole || !f t.ptr then [] else [a]
 | l+1,t,a=>if t.isHole || !f t.ptr then [] else (List.range 4).flatMap fun i=>bks f l (t.kid i) (a+i*4 ^ l)
theorem yF(f:Pt->Bool)(t:Tr)(a:Nat):bks f 0 t a=if t.isHole || !f t.ptr then [] else [a]:=rfl
theorem yG(f:Pt->Bool)(l:Nat)(t:Tr)(a:Nat):bks f (l+1) t a=if t.isHole || !f t.ptr then [] else (List.range 4).flatMap fun i=>bks f l (t.kid i) (a+i*4 ^ l):=rfl
theorem LA{x:Int}{l a:Nat}{t:Tr}(h:t.isHole=true\/decide (x<t.ptr.birth)=false):bks (bB x) l t a=[]:=by
 have e:(t.isHole || !bB x t.ptr)=true:=by
  rcases h with h|h
  ·rw[h];rfl
  ·show (t.isHole || !(decide (x<t.ptr.birth)))=true
   rw[h];simp
 cases l with
 | zero=>rw[yF,if_pos e]
 | succ l=>rw[yG,if_pos e]
theorem M9{x:Int}{a:Nat}{t:Tr}(hh:t.isHole=false)(hn:decide (x<t.ptr.birth)=true):bks (bB x) 0 t a=[a]:=by
 rw[yF,hh];exact if_neg (by show ¬(false || !(decide (x<t.ptr.birth)))=true;rw[hn];decide)
theorem DY{f:Pt->Bool}{l a:Nat}{t:Tr}(hh:t.isHole=false)(hf:f t.ptr=true):bks f (l+1) t a=(List.range 4).flatMap fun i=>bks f l (t.kid i) (a+i*4 ^ l):=by
 rw[yG,hh,hf];rfl
def lH(ns:List Nat):List Value:=ns.map fun(i:Nat)=>Value.int .i64 (i:Int)
structure ThB(B:Nat->Prop)(N0 c g:Nat)(x:Int)(b6 b7 b11 b4 b12:Nat)(w:World):Prop where
 cg:w.heap[g]?=some (.cells #[.int .i64 x] 3 (0,0))
 c6:w.heap[b6]?=some (.cells #[nwV g] 78 (0,0))
 c7:w.heap[b7]?=some (.cells #[bkV] 84 (0,0))
 c4:w.heap[b4]?=some (.cells #[.pointer (some ⟨c,0,none⟩)] 32 (0,0))
 c12:w.heap[b12]?=some (.cells #[dbV b6 b7 b11 b4 b12] 126 (0,0))
 lt:∀i,i=g\/i=b6\/i=b7\/i=b4\/i=b12->i<N0/\i≠b11
 l11:b11<N0/\¬B b11
theorem ThB.keep{B T:Nat->Prop}{N0 c g:Nat}{x:Int}{b6 b7 b11 b4 b12:Nat}{w w':World}(h:ThB B N0 c g x b6 b7 b11 b4 b12 w)(k:aA T w w')(hT:∀i,T i->i=b11\/N0≤i):ThB B N0 c g x b6 b7 b11 b4 b12 w':=by
 have q:∀i,i=g\/i=b6\/i=b7\/i=b4\/i=b12->¬T i:=fun i hi e=>by
  obtain⟨h1,h2⟩:=h.lt i hi;exact(hT i e).elim h2 fun h3=>by omega
 exact⟨k.blk h.cg (q _ (.inl rfl)),k.blk h.c6 (q _ (.inr (.inl rfl))),k.blk h.c7 (q _ (.inr (.inr (.inl rfl)))),k.blk h.c4 (q _ (.inr (.inr (.inr (.inl rfl))))),k.blk h.c12 (q _ (.inr (.inr (.inr (.inr rfl))))),h.lt,h.l11⟩
structure mZ(N0 b11:Nat)(w:World)(v:Value)(ns:List Nat):Prop where
 cell:w.heap[b11]?=some (.cells #[v] 35 (0,0))
 row:w.ownsRow N0 3 1 v ns.length (lH ns)
theorem mZ.keep{T:Nat->Prop}{N0 b11:Nat}{w w':World}{v:Value}{ns:List Nat}(h:mZ N0 b11 w v ns)(k:aA T w w')(h11:¬T b11)(hv:∀i,v.ownBlock=some i->¬T i):mZ N0 b11 w' v ns:=⟨k.blk h.cell h11,k.owns h.row hv⟩
theorem mZ.keep0{N0 b11:Nat}{w w':World}{v:Value}{ns:List Nat}(h:mZ N0 b11 w v ns)(k:aA aB w w'):mZ N0 b11 w' v ns:=h.keep k id fun _ _=>id
def qD(N0 b11:Nat)(x:Int)(l:Nat)(t:Tr)(a:Nat)(v:Value)(ns:List Nat)(w:World)(e:Ending)(w':World):Prop:=
 ∃v',e=.returned (.int .i64 0)/\mZ N0 b11 w' v' (ns++bks (bB x) l t a)/\(∀i,v'.ownBlock=some i->v.ownBlock=some i\/w.heap.size≤i)/\aA (fun i=>i=b11\/v.ownBlock=some i) w w'
def NU(B:Nat->Prop)(S:Kor)(c N0 g q6 q7 q11 q4 q12:Nat)(x:Int)(l:Nat):Prop:=∀(w:World) (v:Value) (ns:List Nat) (pv:Value) (t:Tr) (a:Nat),KI w c S B->ThB B N0 c g x q6 q7 q11 q4 q12 w->mZ N0 q11 w v ns->N0≤w.heap.size->ns.length+(bks (bB x) l t a).length≤1000->a+4 ^ l≤64->Tr.Ok S l t->aX w B pv t.ptr->(∀i,pv.ownBlock=some i->i≠q11/\v.ownBlock≠some i) ->
 Calls Tryz.prog 61 #[.agg (dJ pv t.ptr (a:Int)).toArray,.int .i64 (l:Int),.pointer (some ⟨q6,0,none⟩),.pointer (some ⟨q7,0,none⟩),.pointer (some ⟨q11,0,none⟩),.pointer (some ⟨q4,0,none⟩),.pointer (some ⟨q12,0,none⟩)] w (qD N0 q11 x l t a v ns w)
structure tM(w:World)(B:Nat->Prop)(S:Kor)(c N0 g q6 q7 q11 q4 q12:Nat)(x:Int)(b7 b12 l:Nat)(t:Tr)(a:Nat)(pv v:Value)(ns:List Nat)(vs:Nat->Value)(k:Nat)(wr:World)(vk:Value):Prop where
 ki:KI wr c S B
 th:ThB B N0 c g x q6 q7 q11 q4 q12 wr
 out:mZ N0 q11 wr vk (ns++(List.range k).flatMap fun i=>bks (bB x) l (t.kid i) (a+i*4 ^ l))
 old:bR wr B vs (fun i=>(t.kid i).ptr)
 off:∀q,q<4->∀i,(vs q).ownBlock=some i->i≠q11/\vk.ownBlock≠some i
 h7:wr.heap[b7]?=some (.cells (dJ pv t.ptr (a:Int)).toArray 83 (0,0))
 h12:wr.heap[b12]?=some (.cells (bV ((l+1:Nat):Int) vs (fun i=>(t.kid i).ptr)).toArray 92 (0,0))
 own:∀i,vk.ownBlock=some i->(v.ownBlock=some i\/w.heap.size≤i)/\i≠b7/\i≠b12
 ge:N0≤b7/\N0≤b12/\N0≤w.heap.size
 keep:aA (fun i=>i=q11\/v.ownBlock=some i) w wr
theorem Na{α:Type}(f:Nat->List α){k:Nat}(hk:k<4):((List.range k).flatMap f).length+(f k).length≤((List.range 4).flatMap f).length:=by
 have h1:((List.range (k+1)).flatMap f).length≤((List.range 4).flatMap f).length:=by
  have:∃r,(List.range 4)=List.range (k+1)++r:=by
   have:k=0\/k=1\/k=2\/k=3:=by omega
   rcases this with rfl|rfl|rfl|rfl<;>exact⟨_,rfl⟩
  obtain⟨r,e⟩:=this;rw[e,List.flatMap_append,List.length_append];omega
 rw[List.range_succ,List.flatMap_append,List.length_append] at h1
 simpa only[List.flatMap_cons,List.flatMap_nil,List.append_nil] using h1
theorem tM.len{w:World}{B:Nat->Prop}{S:Kor}{c N0 g q6 q7 q11 q4 q12:Nat}{x:Int}{b7 b12 l:Nat}{t:Tr}{a:Nat}{pv v:Value}{ns:List Nat}{vs:Nat->Value}{k:Nat}{wr:World}{vk:Value}
 (h:tM w B S c N0 g q6 q7 q11 q4 q12 x b7 b12 l t a pv v ns vs k wr vk) (hk:k<4) (hm:ns.length+(bks (bB x) (l+1) t a).length≤1000) (hh:t.isHole=false) (hf:bB x t.ptr=true):(ns++(List.range k).flatMap fun i=>bks (bB x) l (t.kid i) (a+i*4 ^ l)).length+(bks (bB x) l (t.kid k) (a+k*4 ^ l)).length≤1000:=by
 rw[DY hh hf] at hm;have:=Na (fun i=>bks (bB x) l (t.kid i) (a+i*4 ^ l)) hk;rw[List.length_append];omega
theorem tM.step{w:World}{B:Nat->Prop}{S:Kor}{c N0 g q6 q7 q11 q4 q12:Nat}{x:Int}{b7 b12 l:Nat}{t:Tr}{a:Nat}{pv v:Value}{ns:List Nat}{vs:Nat->Value}{k:Nat}{wr w1 w2:World}{vk:Value}{e:Ending}
 (h:tM w B S c N0 g q6 q7 q11 q4 q12 x b7 b12 l t a pv v ns vs k wr vk) (hB:∀i,B i->i<N0) (k1:aA aB wr w1) (hm:qD N0 q11 x l (t.kid k) (a+k*4 ^ l) vk (ns++(List.range k).flatMap fun i=>bks (bB x) l (t.kid i) (a+i*4 ^ l)) w1 e w2):e=.returned (.int .i64 0)/\aA (fun i=>i=q11\/vk.ownBlock=some i) w1 w2/\∃v',tM w B S c N0 g q6 q7 q11 q4 q12 x b7 b12 l t a pv v ns vs (k+1) w2 v':=by
 obtain⟨v',he,ho,hv,hk⟩:=hm;have hge:∀i,vk.ownBlock=some i->N0≤i:=fun i hi=>aT h.out.row hi
 have h11:=h.th.l11;have hk2:aA (fun i=>i=q11\/vk.ownBlock=some i) wr w2:=k1.trans' hk (fun _ _ h=>h.elim) (fun _ _ h=>h);have hlt:∀i,(∃q,q<4/\(vs q).ownBlock=some i)->i<wr.heap.size:=fun i ⟨q,hq,hi⟩=>((h.old q hq).off i hi).2.lt
 have h7l:=lt_of_block h.h7;have h12l:=lt_of_block h.h12;have hg:=h.ge
 have hoff:∀q,q<4->∀i,(vs q).ownBlock=some i->¬(i=q11\/vk.ownBlock=some i):=fun q hq i hi e=>by
  have:=h.off q hq i hi;exact e.elim this.1 this.2
 refine⟨he,hk,v',h.ki.keepT hk2 fun i hi hb=>?_,h.th.keep hk2 fun i hi=>hi.imp id (hge i),?_,h.old.keepT hk2 hoff,fun q hq i hi=>⟨(h.off q hq i hi).1,fun e=>?_⟩,hk2.blk h.h7 fun e=>?_,hk2.blk h.h12 fun e=>?_,fun i hi=>?_,hg,h.keep.trans' hk2 (fun _ _ h=>h) fun i hi e=>?_⟩
 ·rcases hi with rfl|hi
  ·exact h11.2 hb
  ·have:=hge i hi;have:=hB i hb;omega
 ·rw[List.append_assoc] at ho
  rw[List.range_succ,List.flatMap_append]
  simpa only[List.flatMap_cons,List.flatMap_nil,List.append_nil] using ho
 ·rcases hv i e with e|e
  ·exact(h.off q hq i hi).2 e
  ·have:=hlt i ⟨q,hq,hi⟩;have:=k1.size;omega
 ·rcases e with e|e
  ·omega
  ·exact(h.own _ e).2.1 rfl
 ·rcases e with e|e
  ·omega
  ·exact(h.own _ e).2.2 rfl
 ·rcases hv i hi with e|e
  ·exact h.own i e
  ·have:=k1.size;have:=h.keep.size
   exact⟨.inr (by omega),by omega,by omega⟩
 ·rcases e with e|e
  ·exact .inl e
  ·exact(h.own i e).1.elim .inr fun e=>absurd hi (by omega)
theorem tM.fin{w:World}{B:Nat->Prop}{S:Kor}{c N0 g q6 q7 q11 q4 q12:Nat}{x:Int}{b7 b12 l:Nat}{t:Tr}{a:Nat}{pv v:Value}{ns:List Nat}{vs:Nat->Value}{wr w':World}{vk:Value}
 (h:tM w B S c N0 g q6 q7 q11 q4 q12 x b7 b12 l t a pv v ns vs 4 wr vk) (hh:t.isHole=false) (hf:bB x t.ptr=true) (k:aA aB wr w'):qD N0 q11 x (l+1) t a v ns w (.returned (.int .i64 0)) w':=
 ⟨vk,rfl,by rw[DY hh hf];exact h.out.keep0 k,fun i hi=>(h.own i hi).1,h.keep.trans' k (fun _ _ h=>h) (fun _ _ e=>e.elim)⟩
theorem Nb{x:Int}{t:Tr}:(bks (bB x) 3 t 0).length≤64:=by
 have q:∀{l:Nat}{t:Tr}{a:Nat},(bks (bB x) l t a).length≤4 ^ l:=by
  intro l
  induction l with
  | zero=>intro t a;rw[yF];split<;>simp
  | succ l ih =>
    intro t a;rw[yG];split
    ·simp
    ·have h0:=ih (t:=t.kid 0) (a:=a+0*4 ^ l);have h1:=ih (t:=t.kid 1) (a:=a+1*4 ^ l);have h2:=ih (t:=t.kid 2) (a:=a+2*4 ^ l);have h3:=ih (t:=t.kid 3) (a:=a+3*4 ^ l)
     rw[show List.range 4=[0,1,2,3] from rfl];simp only[List.flatMap_cons,List.flatMap_nil,List.append_nil,List.length_append];rw[Nat.pow_succ];omega
 exact q (l:=3)
theorem OD:Hid (∀w,(zeroValue 35).run Tryz.prog w=.ok (.slice none 0 0) w):=O fun w=>by kernel_rfl
theorem DZ:(Tryz.prog.info? 3).map (fun i=>(i.zero,i.size,i.bytes))=some (some (.int .i64 0),1,8):=by kernel_rfl
theorem NV{w:World}{b:Nat}{v:Value}{p:Pt}{a:Int}{t:TypeId}{fr:Nat×Nat}(h:w.heap[b]?=some (.cells (dJ v p a).toArray t fr)):w.cell? ⟨b,2,none⟩=some (.int .i64 p.level):=aC h rfl
def wH(w:World)(p:Pt)(a:Nat)(e:Ending)(w':World):Prop:=e=.returned (.tuple #[.int .i64 (a:Int),.bool (decide (p.level=0))])/\aA aB w w'
theorem BM(w:World)(pv:Value)(p:Pt)(hp:PtV w pv p)(a:Nat):Calls Tryz.prog 29 #[.agg (dJ pv p (a:Int)).toArray] w (wH w p a):=by
 have HSM:=O hp.sum;have hlc:=jR (v:=pv) (a:=(a:Int)) hp.sum;have HOL0:=jS (a:=(a:Int)) hp;obtain⟨lc,hlce⟩:∃l,dJ pv p (a:Int)=l:=⟨_,rfl⟩
 have HOL:Hid (∀u∈lc,u.oneCell'=true):=O (by rw[←hlce];exact HOL0);have HLC:=O hlce;rw[hlce] at hlc ⊢;obtain⟨lv,hlv⟩:∃x,p.level=x:=⟨_,rfl⟩
 have HLV:=O hlv;have HPO:Hid (∀w',aA aB w w'->wH w p a (.returned (.tuple #[.int .i64 (a:Int),.bool (decide (lv=0))])) w'):=O fun w' k=>by rw[←hlv];exact⟨rfl,k⟩
 have hdl:(lv == 0)=decide (lv=0):=by rw[Bool.eq_iff_iff];simp
 have HL:=lN w;clear HOL0 hlce hp hlv;go_in
 go_wp2_with ((with_reducible show WL _ _);refine bxL HL 83 (.tmp 0) (lc.toArray) ?_)
 intro b1 w1 hk HL;clear hk;go_wp2_with fail;refine dwA aB (by kernel_rfl) ?_;intro w2 S HSE HSI hS hkd;replace HL:=kL HL hkd;clear hkd;have HLs:=HL;refine tnb 0 (.pointer (some ⟨b1,35,none⟩)) rfl hS ?_;refine tnd 1 (.int .i64 (a:Int)) rfl (.inl ⟨by rfl,fun w' hw'=>by have c:World.cell? w' ⟨b1,35,none⟩=some (.int .i64 (a:Int)):=(G4 HSM.out (by have h:=((HSE.out w' hw').blk (HLs.out.b 0) id);rw[←HLC.out] at h;exact h));go_simp⟩) hS ?_;refine tnb 2 (.pointer (some ⟨b1,0,none⟩)) rfl hS ?_;refine tnb 3 (.pointer (some ⟨b1,2,none⟩)) rfl hS ?_;refine tnd 4 (.int .i64 lv) rfl (.inl ⟨by rfl,fun w' hw'=>by have c:World.cell? w' ⟨b1,2,none⟩=some (.int .i64 lv):=(by have h:=NV (by have h:=((HSE.out w' hw').blk (HLs.out.b 0) id);rw[←HLC.out] at h;exact h:_=some (Obj.cells (dJ pv p (a:Int)).toArray _ _));rw[HLV.out] at h;exact h);go_simp⟩) hS ?_;refine tnd 5 (.bool (decide (lv=0))) rfl (.inl ⟨by rfl,fun _ _=>by go_simp⟩) hS ?_;refine tna 6 (.int .i64 (a:Int)) rfl hS ?_;refine tna 7 (.bool (decide (lv=0))) rfl hS ?_;refine wpAnyH_done (by kernel_rfl) ?_ _;clear hS HSE HSI HLs;have HP:=HPO.out _ HL.out.keep;clear HL;go_wp2
 go_ret2
 exact HP
theorem nM{w:World}{c:Nat}{S:Kor}{B:Nat->Prop}(hK:KI w c S B){N0 g q6 q7 q11 q4 q12:Nat}{x:Int}(hT:ThB B N0 c g x q6 q7 q11 q4 q12 w){v:Value}{ns:List Nat}(hO:mZ N0 q11 w v ns)(pv:Value)(t:Tr)(l a:Nat)(ht:Tr.Ok S l t)(hp:aX w B pv t.ptr)(hs:t.isHole=true\/decide (x<t.ptr.birth)=false):Calls Tryz.prog 61 #[.agg (dJ pv t.ptr (a:Int)).toArray,.int .i64 (l:Int),.pointer (some ⟨q6,0,none⟩),.pointer (some ⟨q7,0,none⟩),.pointer (some ⟨q11,0,none⟩),.pointer (some ⟨q4,0,none⟩),.pointer (some ⟨q12,0,none⟩)] w (qD N0 q11 x l t a v ns w):=by
 have HT:=O hT;have HO:=O hO;have HK:=O hK;have HEQ:=O (LA (a:=a) (l:=l) hs);have HHE:=O ht.hole_eq;obtain⟨p,hpe⟩:∃p,t.ptr=p:=⟨_,rfl⟩
 have HPE:=O hpe;rw[hpe] at hp hs HHE ⊢;have HPT:=O hp;have hpc:=aI (v:=pv) hp.pt.sum;have HOP0:=aO hp.pt;have hlc:=jR (v:=pv) (a:=(a:Int)) hp.pt.sum;have HOL0:=jS (a:=(a:Int)) hp.pt;have HSM:=O hp.pt.sum;obtain⟨pc,hpce⟩:∃l,aE pv p=l:=⟨_,rfl⟩
 obtain⟨lc,hlce⟩:∃l,dJ pv p (a:Int)=l:=⟨_,rfl⟩
 have HOP:Hid (∀u∈pc,u.oneCell'=true):=O (by rw[←hpce];exact HOP0);have HOL:Hid (∀u∈lc,u.oneCell'=true):=O (by rw[←hlce];exact HOL0);have HPC:=O hpce;have HLC:=O hlce;rw[hpce] at hpc;rw[hlce] at hlc ⊢;have HS:=O hs;clear HOP0 HOL0 hpce hlce hp hT hO hK ht hs hpe;have HL:=lN w;go_in
 go_wp2_with ((with_reducible show WL _ _);refine bxL HL 83 (.tmp 0) (lc.toArray) ?_)
 intro b7 w1 hk HL;replace HPT:=pK HPT hk;replace HT:=O (HT.out.keep hk fun _ e=>e.elim);replace HO:=O (HO.out.keep0 hk);clear hk
 go_wp2_with ((with_reducible show WL _ _);refine wpList_load_mid rfl 26 (.tmp 15) rfl b7 0 rfl pc _ (by have h:=HL.out.b 0;rw[←HLC.out] at h;rw[←HPC.out];exact eF h) aF rfl (szP9 hpc) ?_)
 refine((by rw[←HPC.out];exact cG w1 pv p HPT.out.pt:Calls _ _ _ w1 (aW w1 p.hole))).mono ?_;rintro e w2 ⟨rfl,hk⟩;replace HL:=kL HL hk;replace HPT:=pK HPT hk;replace HT:=O (HT.out.keep hk fun _ e=>e.elim);replace HO:=O (HO.out.keep0 hk);clear hk;obtain⟨hb_,hhb⟩:∃b,p.hole=b:=⟨_,rfl⟩
 rw[hhb];have HHB:=O hhb;clear hhb;cases hb_ with
 | true =>
   have HP:Hid (qD N0 q11 x l t a v ns w (.returned (.int .i64 0)) w2):=O ⟨v,rfl,by rw[HEQ.out,List.append_nil];exact HO.out,fun i h=>.inl h,HL.out.keep.any⟩;clear HL HT HO HPT HK;go_wp2;go_ret;exact HP.out
 | false =>
   have hnw:=HS.out.resolve_left (by rw[←HHE.out,HHB.out];decide);have HNW:=O hnw;clear hnw;have c1:w2.cell? ⟨q6,0,none⟩=some (nwV g):=(cell_of_one HT.out.c6)
   go_wp2_with ((with_reducible show WL _ _);refine aM (by rfl) 26 (.tmp 20) rfl b7 0 rfl pc _ (by have h:=HL.out.b 0;rw[←HLC.out] at h;rw[←HPC.out];exact eF h) aF rfl (szP9 hpc) ?_)
   clear c1;refine((by rw[←HPC.out];exact kH HT.out.cg pv p HPT.out.pt:Calls _ _ _ w2 (aW w2 (decide (x<p.birth))))).mono ?_;rintro e w3 ⟨rfl,hk⟩;replace HL:=kL HL hk;replace HPT:=pK HPT hk;replace HT:=O (HT.out.keep hk fun _ e=>e.elim);replace HO:=O (HO.out.keep0 hk);clear hk;rw[HNW.out];have HP:Hid (qD N0 q11 x l t a v ns w (.returned (.int .i64 0)) w3):=O ⟨v,rfl,by rw[HEQ.out,List.append_nil];exact HO.out,fun i h=>.inl h,HL.out.keep.any⟩;clear HL HT HO HPT HK;go_wp2;go_ret;exact HP.out
theorem ER{w:World}{c:Nat}{S:Kor}{B:Nat->Prop}(hK:KI w c S B){N0 g q6 q7 q11 q4 q12:Nat}{x:Int}(hT:ThB B N0 c g x q6 q7 q11 q4 q12 w){v:Value}{ns:List Nat}(hO:mZ N0 q11 w v ns)(hN:N0≤w.heap.size)(pv:Value)(t:Tr)(a:Nat)(hns:ns.length≤1000)(ha:a≤64)(ht:Tr.Ok S 0 t)(hp:aX w B pv t.ptr)(hpo:∀i,pv.ownBlock=some i->i≠q11/\v.ownBlock≠some i)(hh:t.isHole=false)(hn:decide (x<t.ptr.birth)=true):Calls Tryz.prog 61 #[.agg (dJ pv t.ptr (a:Int)).toArray,.int .i64 0,.pointer (some ⟨q6,0,none⟩),.pointer (some ⟨q7,0,none⟩),.pointer (some ⟨q11,0,none⟩),.pointer (some ⟨q4,0,none⟩),.pointer (some ⟨q12,0,none⟩)] w (qD N0 q11 x 0 t a v ns w):=by
 have hhp:t.ptr.hole=false:=by rw[ht.hole_eq,hh]
 have HEQ:=O (M9 (a:=a) hh hn);have HT:=O hT;have HO:=O hO;have HNN:=O hN;have HNS:=O hns;have HAA:=O ha;have hlev:t.ptr.level=0:=(ht.born hh).2.2;obtain⟨p,hpe⟩:∃p,t.ptr=p:=⟨_,rfl⟩
 have HPE:=O hpe;rw[hpe] at hp hhp hn hlev ⊢;have HPT:=O hp;have hpc:=aI (v:=pv) hp.pt.sum;have HOP0:=aO hp.pt;have hlc:=jR (v:=pv) (a:=(a:Int)) hp.pt.sum;have HOL0:=jS (a:=(a:Int)) hp.pt;have HSM:=O hp.pt.sum;obtain⟨pc,hpce⟩:∃l,aE pv p=l:=⟨_,rfl⟩
 obtain⟨lc,hlce⟩:∃l,dJ pv p (a:Int)=l:=⟨_,rfl⟩
 have HOP:Hid (∀u∈pc,u.oneCell'=true):=O (by rw[←hpce];exact HOP0);have HOL:Hid (∀u∈lc,u.oneCell'=true):=O (by rw[←hlce];exact HOL0);have HPC:=O hpce;have HLC:=O hlce;rw[hpce] at hpc;rw[hlce] at hlc ⊢;have HHP:=O hhp;have HN1:=O hn;have HLEV:=O hlev;clear HOP0 HOL0 hpce hlce hp hT hO hh hhp hn hN hns hpe hK ht hlev ha hpo;have HL:=lN w;go_in
 go_wp2_with ((with_reducible show WL _ _);refine bxL HL 83 (.tmp 0) (lc.toArray) ?_)
 intro b7 w1 hk HL;replace HPT:=pK HPT hk;replace HT:=O (HT.out.keep hk fun _ e=>e.elim);replace HO:=O (HO.out.keep0 hk);clear hk
 go_wp2_with ((with_reducible show WL _ _);refine wpList_load_mid rfl 26 (.tmp 15) rfl b7 0 rfl pc _ (by have h:=HL.out.b 0;rw[←HLC.out] at h;rw[←HPC.out];exact eF h) aF rfl (szP9 hpc) ?_)
 refine((by rw[←HPC.out];exact cG w1 pv p HPT.out.pt:Calls _ _ _ w1 (aW w1 p.hole))).mono ?_;rintro e w2 ⟨rfl,hk⟩;replace HL:=kL HL hk;replace HPT:=pK HPT hk;replace HT:=O (HT.out.keep hk fun _ e=>e.elim);replace HO:=O (HO.out.keep0 hk);clear hk;rw[HHP.out];have c1:w2.cell? ⟨q6,0,none⟩=some (nwV g):=(cell_of_one HT.out.c6)
 go_wp2_with ((with_reducible show WL _ _);refine aM (by rfl) 26 (.tmp 20) rfl b7 0 rfl pc _ (by have h:=HL.out.b 0;rw[←HLC.out] at h;rw[←HPC.out];exact eF h) aF rfl (szP9 hpc) ?_)
 clear c1;refine((by rw[←HPC.out];exact kH HT.out.cg pv p HPT.out.pt:Calls _ _ _ w2 (aW w2 (decide (x<p.birth))))).mono ?_;rintro e w3 ⟨rfl,hk⟩;replace HL:=kL HL hk;replace HPT:=pK HPT hk;replace HT:=O (HT.out.keep hk fun _ e=>e.elim);replace HO:=O (HO.out.keep0 hk);clear hk;rw[HN1.out];have c1:w3.cell? ⟨q7,0,none⟩=some (bkV):=(cell_of_one HT.out.c7)
 go_wp2_with ((with_reducible show WL _ _);refine wpList_load_mid rfl 83 (.tmp 7) rfl b7 0 rfl lc _ (aD (HL.out.b 0)) Tryz.underlying83 rfl (by rw[hlc];exact wF) ?_)
 clear c1;refine((by rw[←HLC.out];exact BM w3 pv p HPT.out.pt a:Calls _ _ _ w3 (wH w3 p a))).mono ?_;rintro e w4 ⟨rfl,hk⟩;replace HL:=kL HL hk;replace HPT:=pK HPT hk;replace HT:=O (HT.out.keep hk fun _ e=>e.elim);replace HO:=O (HO.out.keep0 hk);clear hk;rw[HLEV.out,show decide ((0:Int)=0)=true from rfl];have c1:w4.cell? ⟨q11,0,none⟩=some (v):=(cell_of_one HO.out.cell)
 go_wp2_with ((with_reducible show WL _ _);refine bs1 35 3 (.tmp 33) (.int .i64 (a:Int)) (by kernel_rfl) (by kernel_rfl) Tryz.underlying35 rfl ?_)
 clear c1;intro b34 w5 hbs hk hb;have HRN:Hid (Rd w5 1 (.slice (some ⟨b34,0,none⟩) 1 1) 1 [.int .i64 (a:Int)]):=O (dX (n:=1) (size:=1) hb rfl (by unfold maxLen;omega));replace HL:=lW HL hbs hk hb;replace HPT:=pK HPT hk;replace HT:=O (HT.out.keep hk fun _ e=>e.elim);replace HO:=O (HO.out.keep0 hk);clear hbs hk hb;have HLN:=O (show N0≤w5.heap.size from Nat.le_trans HNN.out HL.out.keep.size);have HPS2:Hid (ns.length+1≤maxLen/\(ns.length+1)*8≤140737488355328):=O (by have:=HNS.out;unfold maxLen;omega)
 go_wp2_with (at_builtin;refine aN rfl (.tmp 32) (.tmp 34) 35 rfl N0 3 (.int .i64 0) 1 8 Tryz.underlying35 DZ rfl (by decide) v ns.length (lH ns) rfl HO.out.row (.slice (some ⟨b34,0,none⟩) 1 1) 1 [.int .i64 (a:Int)] rfl HRN.out (by intro u hu;rcases List.mem_singleton.1 hu with rfl;rfl) HPS2.out.1 HPS2.out.2 HLN.out ?_)
 intro v2 w8 ho5 hk5 hn5 hb5;obtain⟨g2,c2,rfl,-,-⟩:=(Rd.of_owns ho5).form;have H11:=O (hk5.blk HO.out.cell fun e=>by have h1:=aT HO.out.row e;have h2:=HT.out.l11.1;omega);have HO5:=O ho5;have HK5:=O hk5;have HB5:=O hb5;have HKL:=O HL.out.keep;have HOG:=O (fun i (hi:v.ownBlock=some i)=>(aT HO.out.row hi:N0≤i));clear ho5 hk5 hn5 hb5 HRN
 go_wp2_with ((with_reducible show WL _ (.store 35 _ _));refine sta 35 (.tmp 4) (.tmp 35) q11 0 [.slice g2 (ns.length+1) c2] H11.out (by simp) (by kernel_rfl) (by intro u hu;rw[List.mem_singleton] at hu;subst hu;rfl) ?_)
 intro w9 hk hb;replace hb:w9.heap[q11]?=some (.cells #[.slice g2 (ns.length+1) c2] 35 (0,0)):=hb
 have HP:Hid (qD N0 q11 x 0 t a v ns w (.returned (.int .i64 0)) w9):=O (by
  have hge:=fun i (hi:(Value.slice g2 (ns.length+1) c2).ownBlock=some i)=>aT HO5.out hi
  refine⟨_,rfl,⟨hb,?_⟩,fun i hi=>?_,(HKL.out.any.trans' HK5.out (fun _ _ h=>h) (fun i _ e=>.inr e)).trans' hk (fun _ _ h=>h) (fun i _ e=>.inl e)⟩
  ·rw[HEQ.out,List.length_append]
   have e:lH (ns++[a])=lH ns++[.int .i64 (a:Int)]:=by unfold lH;rw[List.map_append];rfl
   rw[e];exact hk.owns HO5.out fun i hi e=>by have h1:=hge i hi;have h2:=HT.out.l11.1;omega
  ·rcases HB5.out with e|e
   ·exact .inl (e▸hi)
   ·rw[e] at hi
    injection hi with hi
    have:=HKL.out.size;exact .inr (by omega))
 clear HL HO HT HPT hk hb HK5 HO5 H11;go_wp2;go_ret;exact HP.out
theorem ES{w:World}{c:Nat}{S:Kor}{B:Nat->Prop}(hK:KI w c S B){N0 g q6 q7 q11 q4 q12 l:Nat}{x:Int}(hl2:l≤2)(IH:NU B S c N0 g q6 q7 q11 q4 q12 x l)(hB:∀i,B i->i<N0)(hT:ThB B N0 c g x q6 q7 q11 q4 q12 w){v:Value}{ns:List Nat}(hO:mZ N0 q11 w v ns)(hN:N0≤w.heap.size)(pv:Value)(t:Tr)(a:Nat)(hps:ns.length+(bks (bB x) (l+1) t a).length≤1000)(ha:a+4 ^ (l+1)≤64)(ht:Tr.Ok S (l+1) t)(hp:aX w B pv t.ptr)(hpo:∀i,pv.ownBlock=some i->i≠q11/\v.ownBlock≠some i)(hh:t.isHole=false)(hn:decide (x<t.ptr.birth)=true):Calls Tryz.prog 61 #[.agg (dJ pv t.ptr (a:Int)).toArray,.int .i64 ((l+1:Nat):Int),.pointer (some ⟨q6,0,none⟩),.pointer (some ⟨q7,0,none⟩),.pointer (some ⟨q11,0,none⟩),.pointer (some ⟨q4,0,none⟩),.pointer (some ⟨q12,0,none⟩)] w (qD N0 q11 x (l+1) t a v ns w):=by
 have hhp:t.ptr.hole=false:=by rw[ht.hole_eq,hh]
 have HIH:=O IH;have HBN:=O hB;have HTR:=O ht;have HPSL:=O hps;have HA:=O ha;have HPO:=O hpo;have HHH:Hid (t.isHole=false/\bB x t.ptr=true):=O ⟨hh,hn⟩;have HT:=O hT;have HQ:=O hO;have HNN:=O hN;have HKI:=O hK;have HVO0:Hid (∀i,v.ownBlock=some i->i<w.heap.size):=O fun i hi=>by (obtain⟨cur,hc⟩:=aL hO.row hi;exact lt_of_block hc)
 have hlev:t.ptr.level=((l+1:Nat):Int):=(ht.born hh).2.2;obtain⟨p,hpe⟩:∃p,t.ptr=p:=⟨_,rfl⟩
 have HPE:=O hpe;rw[hpe] at hp hhp hn hlev ⊢;have HPT:=O hp;have hpc:=aI (v:=pv) hp.pt.sum;have HOP0:=aO hp.pt;have hlc:=jR (v:=pv) (a:=(a:Int)) hp.pt.sum;have HOL0:=jS (a:=(a:Int)) hp.pt;have HSM:=O hp.pt.sum;obtain⟨pc,hpce⟩:∃l,aE pv p=l:=⟨_,rfl⟩
 obtain⟨lc,hlce⟩:∃l,dJ pv p (a:Int)=l:=⟨_,rfl⟩
 have HOP:Hid (∀u∈pc,u.oneCell'=true):=O (by rw[←hpce];exact HOP0);have HOL:Hid (∀u∈lc,u.oneCell'=true):=O (by rw[←hlce];exact HOL0);have HPC:=O hpce;have HLC:=O hlce;rw[hpce] at hpc;rw[hlce] at hlc ⊢;have HHP:=O hhp;have HN1:=O hn;have HLEV:Hid (decide (p.level=0)=false):=O (decide_eq_false (by rw[hlev];omega));have hl0:(0:Int)≤((l+1:Nat):Int):=by omega
 have hlz:(((l:Int)+1) == 0)=false:=by rw[beq_eq_false_iff_ne];omega
 clear HOP0 HOL0 hpce hlce hp hT hO hh hhp hn hN hps hpe hK IH hB ht ha hpo hlev;have HL:=lN w;go_in
 go_wp2_with ((with_reducible show WL _ _);refine bxL HL 83 (.tmp 0) (lc.toArray) ?_)
 intro b7 w1 hk HL;replace HPT:=pK HPT hk;replace HT:=O (HT.out.keep hk fun _ e=>e.elim);replace HQ:=O (HQ.out.keep0 hk);replace HKI:=O (KI.keep0 HKI.out hk);clear hk
 go_wp2_with ((with_reducible show WL _ _);refine wpList_load_mid rfl 26 (.tmp 15) rfl b7 0 rfl pc _ (by have h:=HL.out.b 0;rw[←HLC.out] at h;rw[←HPC.out];exact eF h) aF rfl (szP9 hpc) ?_)
 refine((by rw[←HPC.out];exact cG w1 pv p HPT.out.pt:Calls _ _ _ w1 (aW w1 p.hole))).mono ?_;rintro e w2 ⟨rfl,hk⟩;replace HL:=kL HL hk;replace HPT:=pK HPT hk;replace HT:=O (HT.out.keep hk fun _ e=>e.elim);replace HQ:=O (HQ.out.keep0 hk);replace HKI:=O (KI.keep0 HKI.out hk);clear hk;rw[HHP.out];have c1:w2.cell? ⟨q6,0,none⟩=some (nwV g):=(cell_of_one HT.out.c6)
 go_wp2_with ((with_reducible show WL _ _);refine aM (by rfl) 26 (.tmp 20) rfl b7 0 rfl pc _ (by have h:=HL.out.b 0;rw[←HLC.out] at h;rw[←HPC.out];exact eF h) aF rfl (szP9 hpc) ?_)
 clear c1;refine((by rw[←HPC.out];exact kH HT.out.cg pv p HPT.out.pt:Calls _ _ _ w2 (aW w2 (decide (x<p.birth))))).mono ?_;rintro e w3 ⟨rfl,hk⟩;replace HL:=kL HL hk;replace HPT:=pK HPT hk;replace HT:=O (HT.out.keep hk fun _ e=>e.elim);replace HQ:=O (HQ.out.keep0 hk);replace HKI:=O (KI.keep0 HKI.out hk);clear hk;rw[HN1.out];have c1:w3.cell? ⟨q7,0,none⟩=some (bkV):=(cell_of_one HT.out.c7)
 go_wp2_with ((with_reducible show WL _ _);refine wpList_load_mid rfl 83 (.tmp 7) rfl b7 0 rfl lc _ (aD (HL.out.b 0)) Tryz.underlying83 rfl (by rw[hlc];exact wF) ?_)
 clear c1;refine((by rw[←HLC.out];exact BM w3 pv p HPT.out.pt a:Calls _ _ _ w3 (wH w3 p a))).mono ?_;rintro e w4 ⟨rfl,hk⟩;replace HL:=kL HL hk;replace HPT:=pK HPT hk;replace HT:=O (HT.out.keep hk fun _ e=>e.elim);replace HQ:=O (HQ.out.keep0 hk);replace HKI:=O (KI.keep0 HKI.out hk);clear hk;rw[HLEV.out];have c1:w4.cell? ⟨q4,0,none⟩=some (.pointer (some ⟨c,0,none⟩)):=(cell_of_one HT.out.c4)
 go_wp2_with ((with_reducible show WL _ _);refine wpList_load_mid rfl 26 (.tmp 40) rfl b7 0 rfl pc _ (by have h:=HL.out.b 0;rw[←HLC.out] at h;rw[←HPC.out];exact eF h) aF rfl (szP9 hpc) ?_)
 clear c1;have HLW:=O HL.out.keep.size;refine((by rw[←HPC.out,←HPE.out];exact qT HKI.out hl2 pv t HTR.out (by rw[HPE.out];exact HPT.out.pt):Calls _ _ _ w4 (eI w4 B l t))).mono ?_;rintro e w5 ⟨vs,rfl,hvs,hnew,hk⟩;have HNN2:=O hvs;have HNO:Hid (∀q,q<4->∀i,(vs q).ownBlock=some i->i≠q11/\v.ownBlock≠some i):=O (fun q hq i hi=>⟨fun e=>by (have h1:=hnew q hq i hi;have h2:=HLW.out;have h3:=HT.out.l11.1;have h4:=HNN.out;omega),fun e=>by (have h1:=hnew q hq i hi;have h2:=HVO0.out i e;have h3:=HLW.out;omega)⟩);have hnn:=dI ((l+1:Nat):Int) vs hvs.nv;have HOF0:=cV ((l+1:Nat):Int) hvs.nv;obtain⟨nn,hnne⟩:∃x,bV ((l+1:Nat):Int) vs (fun i=>(t.kid i).ptr)=x:=⟨_,rfl⟩
 have HOF:Hid (∀u∈nn,u.oneCell'=true):=O (by rw[←hnne];exact HOF0);have HNF:=O hnne;rw[hnne] at hnn ⊢;clear HOF0 hnne hvs hnew;replace HL:=kL HL hk;replace HPT:=pK HPT hk;replace HT:=O (HT.out.keep hk fun _ e=>e.elim);replace HQ:=O (HQ.out.keep0 hk);replace HKI:=O (KI.keep0 HKI.out hk);clear hk
 go_wp2_with ((with_reducible show WL _ _);refine al 92 (.agg cL.toArray) (cL.toArray) iA ?_)
 intro b12 w6 hbs hk0 hb0_
 go_wp2_with ((with_reducible show WL _ _);refine sta 92 (.tmp 12) (.tmp 44) b12 0 nn hb0_ (by first|decide|(rw[List.size_toArray,hnn];exact Nat.le_refl _)|simp[hnn,bK]) (by rw[hnn];exact cX) HOF.out ?_)
 intro w7 hk hb;rw[aJ _ _ (by first|rfl|(rw[List.size_toArray,hnn];rfl)|simp[hnn,bK])] at hb;replace hk:=tX hk0 hk (fun i hi e=>by omega);replace HL:=lW HL hbs hk hb;replace HPT:=pK HPT hk;replace HT:=O (HT.out.keep hk fun _ e=>e.elim);replace HQ:=O (HQ.out.keep0 hk);replace HKI:=O (KI.keep0 HKI.out hk);replace HNN2:=O (bR.keep0 HNN2.out hk);clear hbs hk hb hk0 hb0_;go_wp2_with fail
 have HST:Hid (∃vk,tM w B S c N0 g q6 q7 q11 q4 q12 x b7 b12 l t a pv v ns vs 0 w7 vk):=O ⟨v,HKI.out,HT.out,by rw[show (List.range 0)=[] from rfl,List.flatMap_nil,List.append_nil];exact HQ.out,HNN2.out,HNO.out,by (have h:=HL.out.b 1;rw[←HLC.out] at h;rw[HPE.out];exact h),by (have h:=HL.out.b 0;rw[←HNF.out] at h;exact h),fun i hi=>by
  have h7:=HL.out.lt 1;have h12:=HL.out.lt 0;have h1:=HVO0.out i hi;exact⟨.inl hi,by omega,by omega⟩,⟨by have h1:=(HL.out.lt 1).1;have h2:=HNN.out;omega,by have h1:=(HL.out.lt 0).1;have h2:=HNN.out;omega,HNN.out⟩,HL.out.keep.any⟩
 clear HL HKI HPT HT HQ HNN2
 go_loopw [13,14] (fun e i wr=>∃k:Nat,k≤4/\e=.int .i64 0/\i=.int .i64 (k:Int)/\Hid (∃vk,tM w B S c N0 g q6 q7 q11 q4 q12 x b7 b12 l t a pv v ns vs k wr vk)) (fun _ i _=>4-(intOf i).toNat)
 case atStart=>exact⟨0,by omega,rfl,rfl,HST⟩
 case round =>
  obtain⟨k,hk,rfl,rfl,HCI⟩:=hrel;obtain⟨vk,hci⟩:=HCI.out
  by_cases hk8:k<4
  ·have hk0:(0:Int)≤(k:Int):=by omega
   have hk1:(k:Int)<4:=by omega
   have HKI:=O hci.ki;have HT:=O hci.th;have HQ:=O hci.out;have HQV:=O (hci.old k hk8);have HCX:=O hci;have hqc:=aI (v:=vs k) HQV.out.pt.sum;have HOQ0:=aO HQV.out.pt;have HX0:=lE hci.old.nv (aD hci.h12) hk8;obtain⟨qc,hqce⟩:∃x,aE (vs k) ((t.kid k).ptr)=x:=⟨_,rfl⟩
   have HOQ:Hid (∀u∈qc,u.oneCell'=true):=O (by rw[←hqce];exact HOQ0);have HQC:=O hqce;rw[hqce] at hqc HX0;have HX:=O HX0;have HAT:=O (G4 (by rw[HPE.out];exact HSM.out) hci.h7);obtain⟨W,hW⟩:∃W:Nat,4 ^ l=W:=⟨_,rfl⟩
   have hW16:W≤16/\1≤W:=by
    have:l=0\/l=1\/l=2:=by omega
    rcases this with rfl|rfl|rfl<;>omega
   have HW:=O hW;obtain⟨kw,hkw⟩:∃q:Nat,k*W=q:=⟨_,rfl⟩
   have hkw48:kw+W≤4*W:=by rw[←hkw];have h1:=Nat.mul_le_mul_right W (show k+1≤4 by omega);rw[Nat.succ_mul] at h1;exact h1
   have hkwi:(k:Int)*(W:Int)=(kw:Int):=by rw[←hkw];push_cast;rfl
   have hal:a+4*W≤64:=by have h1:=HA.out;rw[Nat.pow_succ,hW] at h1;omega
   obtain⟨ak,hak⟩:∃ak,a+kw=ak:=⟨_,rfl⟩
   have HKWI:Hid (a+k*4 ^ l=ak):=O (by rw[hW,hkw,hak]);have hai:(a:Int)+(kw:Int)=(ak:Int):=by omega
   obtain⟨nk,hnk⟩:∃q,(ns++(List.range k).flatMap fun i=>bks (bB x) l (t.kid i) (a+i*4 ^ l))=q:=⟨_,rfl⟩
   have HNK:=O hnk;have HNQ:Hid ((∀i,(vs k).ownBlock=some i->i≠q11/\vk.ownBlock≠some i)/\nk.length+(bks (bB x) l (t.kid k) ak).length≤1000/\ak+4 ^ l≤64/\N0≤wr.heap.size):=O ⟨hci.off k hk8,by rw[←hnk,←hak,←hkw,←hW];exact hci.len hk8 HPSL.out HHH.out.1 HHH.out.2,by rw[hW];omega,by have h1:=hci.ge;have h2:=hci.keep.size;omega⟩;have HTK:=O (HTR.out.kid hk8);have HL:=lN wr
   have H12N:Hid (¬(b12=q11\/vk.ownBlock=some b12)/\¬(b7=q11\/vk.ownBlock=some b7)/\¬(q12=q11\/vk.ownBlock=some q12)):=O (by
    have h1:=hci.ge;have h2:=hci.th.l11.1;have h3:=hci.th.lt q12 (.inr (.inr (.inr (.inr rfl))));refine⟨fun e=>e.elim (fun e=>by omega) fun e=>(hci.own _ e).2.2 rfl,fun e=>e.elim (fun e=>by omega) fun e=>(hci.own _ e).2.1 rfl,fun e=>e.elim (fun e=>by omega) fun e=>?_⟩;have h4:=aT hci.out.row e;omega)
   have hbp:=Fv (vs k) (t.kid k).ptr (ak:Int) HQV.out.pt.sum;obtain⟨mc,hmc⟩:∃x,dJ (vs k) (t.kid k).ptr (ak:Int)=x:=⟨_,rfl⟩
   have HMC:=O hmc;rw[hmc,hqce] at hbp;rw[hnk] at HQ;have HBP:=O hbp;clear hqce HOQ0 HX0 hci HCI hW hkw hmc hbp hak hnk;go_wp2_with fail;refine dwA (fun i=>i=q11\/vk.ownBlock=some i) (by kernel_rfl) ?_;intro w9 S HSE HSI hS hkd;replace HL:=kL HL hkd;replace HKI:=O (KI.keep0 HKI.out hkd);replace HT:=O (HT.out.keep hkd fun _ e=>e.elim);replace HQ:=O (HQ.out.keep0 hkd);replace HX:=O (hkd.rangeAt HX.out);replace HQV:=pK HQV hkd;replace HAT:=O (hkd.cell HAT.out id);clear hkd;have HLs:=HL;have HKIs:=HKI;have HTs:=HT;have HQs:=HQ;have HXs:=HX;have HQVs:=HQV;have HATs:=HAT;refine tnd 0 (dbV q6 q7 q11 q4 q12) rfl (.inl ⟨by rfl,fun w' hw'=>by have c:World.cell? w' ⟨q12,0,none⟩=some (dbV q6 q7 q11 q4 q12):=(HSE.out w' hw').cell (cell_of_one HTs.out.c12) H12N.out.2.2;go_simp⟩) hS ?_;refine tna 1 (.int .i64 (k:Int)) rfl hS ?_;refine tnb 2 (.pointer (some ⟨b12,1,none⟩)) rfl hS ?_;refine tnd 3 (.pointer (some ⟨b12,1+k*35,none⟩)) rfl (.inl ⟨by rfl,fun _ _=>by go_simp<;>omega⟩) hS ?_;refine tnd 4 (.agg qc.toArray) rfl (yieldsIf_load_mid (by rfl) 26 (.tmp 57) rfl b12 (1+k*35) rfl qc _ (fun w' h=>(HSE.out w' h).rangeAt2 HXs.out H12N.out.1) aF rfl (szP9 hqc)) hS ?_;refine tnb 5 (.pointer (some ⟨b7,35,none⟩)) rfl hS ?_;refine tnd 6 (.int .i64 (a:Int)) rfl (.inl ⟨by rfl,fun w' hw'=>by have c:World.cell? w' ⟨b7,35,none⟩=some (.int .i64 (a:Int)):=(HSE.out w' hw').cell HATs.out H12N.out.2.1;go_simp⟩) hS ?_;refine tna 7 (.int .i64 (k:Int)) rfl hS ?_;refine tna 8 (.int .i64 ((l+1:Nat):Int)) rfl hS ?_;refine tnd 9 (.int .i64 (l:Int)) rfl (.inl ⟨by rfl,fun _ _=>by go_simp;exact IntWalk.i64_in _ (by omega)⟩) hS ?_;refine tna 14 (.int .i64 ((l+1:Nat):Int)) rfl hS ?_;refine tnd 15 (.int .i64 (l:Int)) rfl (.inl ⟨by rfl,fun _ _=>by go_simp;exact IntWalk.i64_in _ (by omega)⟩) hS ?_;refine wA9 10 ?_;go_wp2_with fail;refine((by rw[←HW.out];exact tJ w9 l (by omega):Calls _ _ _ w9 (aK w9 (.int .i64 (W:Int))))).mono ?_;rintro e wa ⟨rfl,hk⟩;have hS1:=HSI.out _ ((HSE.out _ hS).trans hk.any);replace HL:=kL HL hk;replace HKI:=O (KI.keep0 HKI.out hk);replace HT:=O (HT.out.keep hk fun _ e=>e.elim);replace HQ:=O (HQ.out.keep0 hk);replace HX:=O (hk.rangeAt HX.out);replace HQV:=pK HQV hk;replace HAT:=O (hk.cell HAT.out id);clear hS hk;go_wp2_with fail;refine⟨hS1,?_⟩;refine tnd 11 (.int .i64 (kw:Int)) rfl (.inl ⟨by rfl,fun _ _=>by go_simp;exact IntWalk.i64_in _ (by omega)⟩) hS1 ?_;refine tnd 12 (.int .i64 (ak:Int)) rfl (.inl ⟨by rfl,fun _ _=>by go_simp;exact IntWalk.i64_in _ (by omega)⟩) hS1 ?_;refine tnd 13 (.agg mc.toArray) rfl (eP 83 #[(0,.tmp 58),(1,.tmp 66)] [(0,.agg qc.toArray),(1,.int .i64 (ak:Int))] (.agg mc.toArray) HBP.out) hS1 ?_;refine wA9 16 ?_;go_wp2_with fail;have HLK:Hid (aA aB wr wa):=O HL.out.keep;refine((by rw[←HMC.out];exact HIH.out wa vk nk (vs k) (t.kid k) ak HKI.out HT.out HQ.out (Nat.le_trans HNQ.out.2.2.2 HL.out.keep.size) HNQ.out.2.1 HNQ.out.2.2.1 HTK.out HQV.out HNQ.out.1:Calls _ _ _ wa (qD N0 q11 x l (t.kid k) ak vk nk wa))).mono ?_;rintro e wb hm;obtain⟨he,hmk,hnx⟩:=HCX.out.step HBN.out HLK.out (by rw[HKWI.out,HNK.out];exact hm);subst he;have HNX:=O hnx;have hS2:=HSI.out _ ((HSE.out _ hS1).trans hmk);clear hS1 hmk hm hnx HL HKI HT HX HQV HQ HAT HLK;go_wp2_with fail;refine⟨hS2,?_⟩;refine tna 17 (.int .i64 0) rfl hS2 ?_;refine wpAnyH_done (by kernel_rfl) ?_ _;clear hS2 HSE HSI HLs HKIs HTs HQs HXs HQVs HATs;clear HCX;go_wp2
   go_roundw
   case rel=>exact⟨k+1,by omega,rfl,by go_num,HNX⟩
   case measure=>simp[intOf];omega
  ·obtain rfl:k=4:=by omega
   have HP:=O (hci.fin HHH.out.1 HHH.out.2 (aA.refl aB wr));clear hci HCI;go_wp2;go_ret;exact HP.out
theorem LB{B:Nat->Prop}{S:Kor}{c N0 g q6 q7 q11 q4 q12:Nat}{x:Int}(hB:∀i,B i->i<N0):∀l,l≤3->NU B S c N0 g q6 q7 q11 q4 q12 x l:=by
 intro l
 induction l with
 | zero =>
   intro hl w v ns pv t a hK hT hO hN hps ha ht hp hpo;cases hh:t.isHole with
   | true=>exact nM hK hT hO pv t 0 a ht hp (.inl hh)
   | false =>
     cases hn:decide (x<t.ptr.birth) with
     | false=>exact nM hK hT hO pv t 0 a ht hp (.inr hn)
     | true=>exact ER hK hT hO hN pv t a (by omega) (by omega) ht hp hpo hh hn
 | succ l ih =>
   intro hl w v ns pv t a hK hT hO hN hps ha ht hp hpo;cases hh:t.isHole with
   | true=>exact nM hK hT hO pv t (l+1) a ht hp (.inl hh)
   | false =>
     cases hn:decide (x<t.ptr.birth) with
     | false=>exact nM hK hT hO pv t (l+1) a ht hp (.inr hn)
     | true=>exact ES hK (by omega) (ih (by omega)) hB hT hO hN pv t a hps ha ht hp hpo hh hn
def fL(w:World)(ns:List Nat)(e:Ending)(w':World):Prop:=∃v,e=.returned (.tuple #[v,.int .i64 0])/\w'.ownsRow w.heap.size 3 1 v ns.length (lH ns)/\aA aB w w'
theorem D1{w:World}{c:Nat}{S:Kor}{B:Nat->Prop}(hK:KI w c S B){g:Nat}{x:Int}(hg:w.heap[g]?=some (.cells #[.int .i64 x] 3 (0,0)))(pv:Value)(t:Tr)(ht:Tr.Ok S 3 t)(hp:aX w B pv t.ptr):Calls Tryz.prog 28 #[.pointer (some ⟨c,0,none⟩),.agg (aE pv t.ptr).toArray,nwV g,bkV] w (fL w (bks (bB x) 3 t 0)):=by
 have HTR:=O ht;have HKI:=O hK;have HBLT:=O (fun i (e:B i)=>hK.lt e);have HGB:=O hg;have HGL:=O (lt_of_block hg);obtain⟨p,hpe⟩:∃p,t.ptr=p:=⟨_,rfl⟩
 have HPE:=O hpe;rw[hpe] at hp ⊢;have HPT:=O hp;have HRT:Hid (p.root=true):=O (by rw[←hpe];exact ht.root);have hpc:=aI (v:=pv) hp.pt.sum;have HOP0:=aO hp.pt;have hbp:=DX pv p hp.pt.sum;obtain⟨pc,hpce⟩:∃l,aE pv p=l:=⟨_,rfl⟩
 obtain⟨lc,hlce⟩:∃l,dJ pv p 0=l:=⟨_,rfl⟩
 have HOP:Hid (∀u∈pc,u.oneCell'=true):=O (by rw[←hpce];exact HOP0);have HPC:=O hpce;have HLC:=O hlce;rw[hpce] at hpc hbp ⊢;rw[hlce] at hbp;have HBP:=O hbp;have HPO:=O (fun i hi=>(hp.off i hi).2.lt);clear HOP0 hpce hlce hp ht hK hpe hg hbp;have HL:=lN w;go_in
 go_wp2_with ((with_reducible show WL _ _);refine bxL HL 32 (.tmp 0) (#[.pointer (some ⟨c,0,none⟩)]) ?_)
 intro b4 w1 hk HL;replace HPT:=pK HPT hk;replace HKI:=O (KI.keep0 HKI.out hk);replace HGB:=O (hk.blk HGB.out id);clear hk
 go_wp2_with ((with_reducible show WL _ _);refine bxL HL 26 (.tmp 1) (pc.toArray) ?_)
 intro b5 w2 hk HL;replace HPT:=pK HPT hk;replace HKI:=O (KI.keep0 HKI.out hk);replace HGB:=O (hk.blk HGB.out id);clear hk
 go_wp2_with ((with_reducible show WL _ _);refine bxL HL 78 (.tmp 2) (#[nwV g]) ?_)
 intro b6 w3 hk HL;replace HPT:=pK HPT hk;replace HKI:=O (KI.keep0 HKI.out hk);replace HGB:=O (hk.blk HGB.out id);clear hk
 go_wp2_with ((with_reducible show WL _ _);refine bxL HL 84 (.tmp 3) (#[bkV]) ?_)
 intro b7 w4 hk HL;replace HPT:=pK HPT hk;replace HKI:=O (KI.keep0 HKI.out hk);replace HGB:=O (hk.blk HGB.out id);clear hk;have c1:w4.cell? ⟨b4,0,none⟩=some (.pointer (some ⟨c,0,none⟩)):=(aC (i:=0) (HL.out.b 3) rfl)
 go_wp2_with ((with_reducible show WL _ _);first
  | refine wpList_load_mid rfl 26 (.tmp 5) rfl b5 0 rfl pc _ (aD (HL.out.b 2)) aF rfl (szP9 hpc) ?_
  | refine bsA 42 26 (.tmp 15) Tryz.underlying42 oG (by omega) pc hpc (by omega) ?_)
 clear c1;intro b16 w5 hbs hk hb;replace HL:=lW HL hbs hk hb;replace HPT:=pK HPT hk;replace HKI:=O (KI.keep0 HKI.out hk);replace HGB:=O (hk.blk HGB.out id);clear hbs hk hb;go_wp2_with fail;refine((xC HKI.out pv p HPT.out.pt HRT.out (by rw[HPC.out];exact HL.out.b 0):Calls _ _ _ w5 (aK w5 (.int .i64 0)))).mono ?_;rintro e w6 ⟨rfl,hk⟩;replace HL:=kL HL hk;replace HPT:=pK HPT hk;replace HKI:=O (KI.keep0 HKI.out hk);replace HGB:=O (hk.blk HGB.out id);clear hk
 go_wp2_with ((with_reducible show WL _ _);refine alL HL 35 (.slice none 0 0) (#[.slice none 0 0]) OD ?_)
 intro b11 w7 hk HL;replace HPT:=pK HPT hk;replace HKI:=O (KI.keep0 HKI.out hk);replace HGB:=O (hk.blk HGB.out id);clear hk
 go_wp2_with ((with_reducible show WL _ _);refine alL HL 126 (.nilFunc) (#[.nilFunc]) NT ?_)
 intro b12 w8 hk HL;replace HPT:=pK HPT hk;replace HKI:=O (KI.keep0 HKI.out hk);replace HGB:=O (hk.blk HGB.out id);clear hk
 go_wp2_with ((with_reducible show WL _ _);refine sta 126 (.tmp 12) (.tmp 21) b12 0 ([dbV b6 b7 b11 b4 b12]) (HL.out.b 0) (by simp) (by kernel_rfl) (one9) ?_)
 intro w9 hk hb;replace hb:w9.heap[b12]?=some (.cells #[dbV b6 b7 b11 b4 b12] 126 (0,0)):=hb;replace HL:=O (HL.out.set 0 hk hb);replace HPT:=O (HPT.out.keepT hk fun i hi e=>by have h1:=HPO.out i hi;have h2:=(HL.out.lt 0).1;omega);replace HKI:=O (HKI.out.keepT hk fun i e hb=>by have h1:=HBLT.out i hb;have h2:=(HL.out.lt 0).1;omega);replace HGB:=O (hk.blk HGB.out fun e=>by have h1:=HGL.out;have h2:=(HL.out.lt 0).1;omega);clear hk hb;obtain⟨N0,hN0⟩:∃n,w9.heap.size=n:=⟨_,rfl⟩
 have hg_:g<w9.heap.size:=Nat.lt_of_lt_of_le HGL.out HL.out.keep.size;have hB0:∀i,B i->i<N0:=fun i e=>by have h1:=HBLT.out i e;have h2:=HL.out.keep.size;omega
 have hT0:ThB B N0 c g x b6 b7 b11 b4 b12 w9:=⟨HGB.out,HL.out.b 4,HL.out.b 3,HL.out.b 6,HL.out.b 0,fun i hi=>by
  have g6:=HL.out.lt 4;have g7:=HL.out.lt 3;have g4:=HL.out.lt 6;have g12:=HL.out.lt 0;have g11:=HL.out.lt 1;have gg:=HGL.out;have n6:b11≠b6:=bG HL.out.nd (i:=4) rfl 1 (by decide) rfl;have n7:b11≠b7:=bG HL.out.nd (i:=3) rfl 1 (by decide) rfl;have n4:b11≠b4:=bG HL.out.nd (i:=6) rfl 1 (by decide) rfl;have n12:b11≠b12:=bG HL.out.nd (i:=0) rfl 1 (by decide) rfl;rcases hi with rfl|rfl|rfl|rfl|rfl<;>omega,⟨by have g11:=HL.out.lt 1;omega,fun e=>by have h1:=HBLT.out _ e;have g11:=HL.out.lt 1;omega⟩⟩
 have HO0:Hid (mZ N0 b11 w9 (.slice none 0 0) []):=O ⟨HL.out.b 1,World.ownsRow_nil _ _ _ _⟩;have HT:=O hT0;have HB0:=O hB0;have HN0:=O hN0;have HPO2:Hid (∀i,pv.ownBlock=some i->i≠b11/\(Value.slice none 0 0).ownBlock≠some i):=O (fun i hi=>⟨fun e=>by have h1:=HPO.out i hi;have h2:=(HL.out.lt 1).1;omega,fun e=>by cases e⟩);clear hg_ hB0 hT0 hN0;have HKW0:=O HL.out.keep.size;have c1:w9.cell? ⟨b12,0,none⟩=some (dbV b6 b7 b11 b4 b12):=(aC (i:=0) (HL.out.b 0) rfl)
 go_wp2_with ((with_reducible show WL _ _);first
  | refine wpList_load_mid rfl 26 (.tmp 5) rfl b5 0 rfl pc _ (aD (HL.out.b 5)) aF rfl (szP9 hpc) ?_
  | refine bld 83 #[(0,.tmp 23)] [(0,.agg pc.toArray)] (.agg lc.toArray) HBP.out ?_)
 clear c1;have HNS:Hid (w.heap.size≤N0):=O (by have h1:=HN0.out;have h2:=HKW0.out;omega);refine((by rw[←HLC.out,←HPE.out];exact LB HB0.out 3 (by omega) w9 (.slice none 0 0) [] pv t 0 HKI.out HT.out HO0.out (by have h1:=HN0.out;have h2:=HL.out.keep.size;omega) (by have h1:=Nb (x:=x) (t:=t);rw[List.length_nil];omega) (by decide) HTR.out (by rw[HPE.out];exact HPT.out) HPO2.out:Calls _ _ _ w9 (qD N0 b11 x 3 t 0 (.slice none 0 0) [] w9))).mono ?_;rintro e wa ⟨v,rfl,ho,-,hk⟩;have HC11:=O (cell_of_one ho.cell)
 have HP:Hid (fL w (bks (bB x) 3 t 0) (.returned (.tuple #[v,.int .i64 0])) wa):=O (by
  have hsz:=HL.out.keep.size;have hn:=HN0.out;have hr:=ho.row;rw[List.nil_append] at hr;refine⟨v,rfl,aV hr HNS.out,HL.out.keep.trans' hk (fun _ _ h=>h) (fun i hi e=>?_)⟩;rcases e with e|e
  ·have h1:=(HL.out.lt 1).1;omega
  ·cases e)
 clear HL HT HO0 HKI HPT ho hk;have c1:wa.cell? ⟨b11,0,none⟩=some (v):=HC11.out;go_wp2_with fail;clear c1
 go_ret2
 exact HP.out
theorem Af{w:World}{c:Nat}{S:Kor}{B:Nat->Prop}(hK:KI w c S B)(pv:Value)(t:Tr)(ht:Tr.Ok S 3 t)(hp:aX w B pv t.ptr)(x:Int):Calls Tryz.prog 11 #[.pointer (some ⟨c,0,none⟩),.agg (aE pv t.ptr).toArray,.int .i64 x] w (fL w (bks (bB x) 3 t 0)):=by
 have HTR:=O ht;have HKI:=O hK;obtain⟨p,hpe⟩:∃p,t.ptr=p:=⟨_,rfl⟩
 have HPE:=O hpe;rw[hpe] at hp ⊢;have HPT:=O hp;obtain⟨pc,HPC,hpc,HOP⟩:=nmPt hp.pt;rw[HPC.out];clear hp ht hK hpe;have HL:=lN w;go_in
 go_wp2_with ((with_reducible show WL _ _);refine bxL HL 26 (.tmp 1) (pc.toArray) ?_)
 intro b4 w1 hk HL;replace HPT:=pK HPT hk;replace HKI:=O (KI.keep0 HKI.out hk);clear hk;go_wp2_with fail;refine dwA aB (by kernel_rfl) ?_;intro w2 S HSE HSI hS hkd;replace HL:=kL HL hkd;replace HPT:=pK HPT hkd;replace HKI:=O (KI.keep0 HKI.out hkd);clear hkd;have HLs:=HL;have HPTs:=HPT;have HKIs:=HKI;refine tna 0 (.pointer (some ⟨c,0,none⟩)) rfl hS ?_;refine tnd 1 (.agg pc.toArray) rfl (yieldsIf_load_mid (by rfl) 26 (.tmp 4) rfl b4 0 rfl pc _ (fun w' h=>aD ((HSE.out w' h).blk (HLs.out.b 0) id)) aF rfl (szP9 hpc)) hS ?_;refine tna 2 (.int .i64 x) rfl hS ?_;refine wA9 3 ?_;go_wp2_with fail;refine((qU w2 x)).mono ?_;rintro e w3 ⟨g,rfl,hg,-,hk⟩;have HGB:=O hg;clear hg;have hS1:=HSI.out _ ((HSE.out _ hS).trans hk);replace HL:=kL HL hk;replace HPT:=pK HPT hk;replace HKI:=O (KI.keep0 HKI.out hk);clear hS hk;go_wp2_with fail;refine⟨hS1,?_⟩;refine wA9 4 ?_;go_wp2_with fail;refine((by rw[←HPC.out,←HPE.out];exact D1 HKI.out HGB.out pv t HTR.out (by rw[HPE.out];exact HPT.out):Calls _ _ _ w3 (fL w3 (bks (bB x) 3 t 0)))).mono ?_;rintro e w4 ⟨v,rfl,ho,hk⟩;have HP:Hid (fL w (bks (bB x) 3 t 0) (.returned (.tuple #[v,.int .i64 0])) w4):=O ⟨v,rfl,aV ho HL.out.keep.size,HL.out.keep.trans hk⟩;have hS2:=HSI.out _ ((HSE.out _ hS1).trans hk);clear hS1 hk ho HL HKI HPT HGB;go_wp2_with fail;refine⟨hS2,?_⟩;refine tnb 5 v rfl hS2 ?_;refine tnb 6 (.int .i64 0) rfl hS2 ?_;refine tna 7 v rfl hS2 ?_;refine tna 8 (.int .i64 0) rfl hS2 ?_;refine wpAnyH_done (by kernel_rfl) ?_ _;clear hS2 HSE HSI HLs HPTs HKIs;go_wp2
 go_ret2
 exact HP.out
theorem BN{w:World}{c:Nat}{S:Kor}{B:Nat->Prop}(hK:KI w c S B)(pv:Value)(t:Tr)(ht:Tr.Ok S 3 t)(hp:aX w B pv t.ptr)(x:Int):Calls Tryz.prog 10 #[.pointer (some ⟨c,0,none⟩),.agg (aE pv t.ptr).toArray,.int .i64 x] w (eJ w ((thr (bB x) 3 t 0).map (·.1))):=by
 have HTR:=O ht;have HKI:=O hK;obtain⟨p,hpe⟩:∃p,t.ptr=p:=⟨_,rfl⟩
 have HPE:=O hpe;rw[hpe] at hp ⊢;have HPT:=O hp;obtain⟨pc,HPC,hpc,HOP⟩:=nmPt hp.pt;rw[HPC.out];clear hp ht hK hpe;have HL:=lN w;go_in
 go_wp2_with ((with_reducible show WL _ _);refine bxL HL 26 (.tmp 1) (pc.toArray) ?_)
 intro b4 w1 hk HL;replace HPT:=pK HPT hk;replace HKI:=O (KI.keep0 HKI.out hk);clear hk;go_wp2_with fail;refine dwA aB (by kernel_rfl) ?_;intro w2 S HSE HSI hS hkd;replace HL:=kL HL hkd;replace HPT:=pK HPT hkd;replace HKI:=O (KI.keep0 HKI.out hkd);clear hkd;have HLs:=HL;have HPTs:=HPT;have HKIs:=HKI;refine tna 0 (.pointer (some ⟨c,0,none⟩)) rfl hS ?_;refine tnd 1 (.agg pc.toArray) rfl (yieldsIf_load_mid (by rfl) 26 (.tmp 4) rfl b4 0 rfl pc _ (fun w' h=>aD ((HSE.out w' h).blk (HLs.out.b 0) id)) aF rfl (szP9 hpc)) hS ?_;refine tna 2 (.int .i64 x) rfl hS ?_;refine wA9 3 ?_;go_wp2_with fail;refine((qU w2 x)).mono ?_;rintro e w3 ⟨g,rfl,hg,-,hk⟩;have HGB:=O hg;clear hg;have hS1:=HSI.out _ ((HSE.out _ hS).trans hk);replace HL:=kL HL hk;replace HPT:=pK HPT hk;replace HKI:=O (KI.keep0 HKI.out hk);clear hS hk;go_wp2_with fail;refine⟨hS1,?_⟩;refine wA9 4 ?_;go_wp2_with fail;refine((by rw[←HPC.out,←HPE.out];exact xD HKI.out HGB.out pv t HTR.out (by rw[HPE.out];exact HPT.out) (Fw HTR.out):Calls _ _ _ w3 (eJ w3 ((thr (bB x) 3 t 0).map (·.1))))).mono ?_;rintro e w4 ⟨v,qs,rfl,hq,ho,hat,hk⟩;have HP:Hid (eJ w ((thr (bB x) 3 t 0).map (·.1)) (.returned (.tuple #[v,.int .i64 0])) w4):=O ⟨v,qs,rfl,hq,aV ho HL.out.keep.size,fun y hy=>⟨(hat y hy).1,fun i hi=>⟨Nat.le_trans HL.out.keep.size ((hat y hy).2 i hi).1,((hat y hy).2 i hi).2⟩⟩,HL.out.keep.trans hk⟩;have hS2:=HSI.out _ ((HSE.out _ hS1).trans hk);clear hS1 hk hq ho hat HL HKI HPT HGB;go_wp2_with fail;refine⟨hS2,?_⟩;refine tnb 5 v rfl hS2 ?_;refine tnb 6 (.int .i64 0) rfl hS2 ?_;refine tna 7 v rfl hS2 ?_;refine tna 8 (.int .i64 0) rfl hS2 ?_;refine wpAnyH_done (by kernel_rfl) ?_ _;clear hS2 HSE HSI HLs HPTs HKIs;go_wp2
 go_ret2
 exact HP.out
theorem xE{α:Type}{f:α->List Value}{k:Nat}:∀{l:List α},(∀y∈l,(f y).length=k)->∀(i:Nat){y:α},l[i]?=some y->∀j,j<k->(l.flatMap f)[i*k+j]?=(f y)[j]?
 | [],_,_,_,hy,_,_=>by simp at hy
 | x::l,h,0,y,hy,j,hj=>by
   have e:x=y:=by simpa using hy
   subst e;rw[List.flatMap_cons,Nat.zero_mul,Nat.zero_add,List.getElem?_append_left (by rw[h x (List.mem_cons_self ..)];exact hj)]
 | x::l,h,i+1,y,hy,j,hj=>by
   rw[List.flatMap_cons,List.getElem?_append_right (by rw[h x (List.mem_cons_self ..),Nat.succ_mul];omega),h x (List.mem_cons_self ..),show (i+1)*k+j-k=i*k+j by rw[Nat.succ_mul];omega];exact xE (fun y hy=>h y (List.mem_cons_of_mem _ hy)) i (by simpa using hy) j hj
theorem G5{α:Type}{f:α->List Value}{s:Nat}{w:World}{v:Value}{l:List α}(hf:∀y∈l,(f y).length=s)(hs:0<s)(h:Rd w s v l.length (l.flatMap f)){k:Nat}{x:α}(hk:l[k]?=some x) :
 ∃g o cap,v=.slice (some ⟨g,o,none⟩) l.length cap/\w.rangeAt g (o+k*s) (f x):=by
 obtain⟨h0,a,cap,rfl,h1,h2,h3,h4⟩:=h;have hlt:=(List.getElem?_eq_some_iff.1 hk).1;have hpos:0<l.length*s:=Nat.mul_pos (by omega) hs;obtain⟨g,o,rfl,hc⟩:=h4 (by rw[h0];exact hpos);refine⟨g,o,cap,rfl,fun j u hj=>?_⟩;have hj5:j<s:=by have:=(List.getElem?_eq_some_iff.1 hj).1;rwa [hf x (List.mem_of_getElem? hk)] at this
 have h5:=xE (f:=f) (k:=s) (l:=l) hf k hk j hj5;have:=hc (k*s+j) u (h5.trans hj)
 rwa [←Nat.add_assoc] at this
theorem D2{w:World}{base n s:Nat}{e:TypeId}{g:Option Addr}{cap:Nat}{xs ys:List Value}(h:w.ownsRow base e s (.slice g (n+1) cap) (n+1) (xs++ys))(hl:xs.length=n*s):w.ownsRow base e s (.slice g n cap) n xs:=by
 rcases h.2 with⟨h1,h2⟩|⟨g',cap',cur,h1,h2,h3,h4,h5,h6,h7⟩
 ·omega
 ·injection h1 with h1 h8 h9
  subst h1 h9;refine⟨hl,.inr ⟨g',cap,cur,rfl,h2,h3,by omega,h5,h6,?_⟩⟩;have h8:=congrArg (List.take (n*s)) h7;rw[List.take_take,←hl,List.take_left,hl] at h8;rw[show min (n*s) ((n+1)*s)=n*s from Nat.min_eq_left (Nat.mul_le_mul_right s (Nat.le_succ n))] at h8;exact h8
theorem qE{α:Type}(R:α->Prop)(wt:α->Nat):∀(n:Nat),(∃a,R a/\wt a≤n)->∃a,R a/\∀b,R b->wt a≤wt b
 | 0,⟨a,ha,h⟩=>⟨a,ha,fun b _=>by omega⟩
 | n+1,⟨a,ha,h⟩=>by
   by_cases c:∃b,R b/\wt b≤n
   ·exact qE R wt n c
   ·exact⟨a,ha,fun b hb=>by
     have:¬wt b≤n:=fun e=>c ⟨b,hb,e⟩
     omega⟩
open Classical in
noncomputable def jV{α:Type}(R:α->Prop)(wt:α->Nat):Nat:=if h:∃a,R a/\∀b,R b->wt a≤wt b then wt h.choose else 0
theorem JA{α:Type}{R:α->Prop}{wt:α->Nat}{a:α}(ha:R a):∃b,R b/\jV R wt=wt b:=by
 have h:∃a,R a/\∀b,R b->wt a≤wt b:=qE R wt (wt a) ⟨a,ha,Nat.le_refl _⟩;refine⟨h.choose,h.choose_spec.1,?_⟩;unfold jV;rw[dif_pos h]
theorem vP{α:Type}{R:α->Prop}{wt:α->Nat}{a:α}(ha:R a):jV R wt≤wt a:=by
 have h:∃a,R a/\∀b,R b->wt a≤wt b:=qE R wt (wt a) ⟨a,ha,Nat.le_refl _⟩;unfold jV;rw[dif_pos h];exact h.choose_spec.2 a ha
structure Ent where
 s:Tr
 t:Tr
 sv:Value
 tv:Value
 l:Nat
 a:Nat
def fF(v u:Value)(p q:Pt)(l a:Int):List Value:=aE v p++(aE u q++[.int .i64 l,.int .i64 a])
def iN(e:Ent):List Value:=fF e.sv e.tv e.s.ptr e.t.ptr (e.l:Int) (e.a:Int)
theorem tN{v u:Value}{p q:Pt}{l a:Int}(h1:p.sum.length=32)(h2:q.sum.length=32):(fF v u p q l a).length=72:=by
 unfold fF;rw[List.length_append,List.length_append,aI h1,aI h2];rfl
theorem D3{w:World}{v u:Value}{p q:Pt}{l a:Int}(h1:PtV w v p)(h2:PtV w u q):∀x∈fF v u p q l a,x.oneCell'=true:=by
 intro x hx;unfold fF at hx;rcases List.mem_append.1 hx with hx|hx
 ·exact aO h1 x hx
 ·rcases List.mem_append.1 hx with hx|hx
  ·exact aO h2 x hx
  ·simp only[List.mem_cons,List.not_mem_nil,or_false] at hx
   rcases hx with rfl|rfl<;>rfl
theorem JB{w:World}{b:Nat}{v u:Value}{p q:Pt}{l a:Int}{t:TypeId}{fr:Nat×Nat}(h:w.heap[b]?=some (.cells (fF v u p q l a).toArray t fr)):w.rangeAt b 0 (aE v p):=fun j x hj =>
 aC h (by
  rw[List.getElem?_toArray,Nat.zero_add];unfold fF;rw[List.getElem?_append_left (List.getElem?_eq_some_iff.1 hj).1];exact hj)
theorem JC{w:World}{b:Nat}{v u:Value}{p q:Pt}{l a:Int}{t:TypeId}{fr:Nat×Nat}(h1:p.sum.length=32)(h:w.heap[b]?=some (.cells (fF v u p q l a).toArray t fr)):w.rangeAt b 35 (aE u q):=fun j x hj =>
 aC h (by
  rw[List.getElem?_toArray];unfold fF;rw[List.getElem?_append_right (by rw[aI h1];omega),aI h1,show 35+j-35=j by omega,List.getElem?_append_left (List.getElem?_eq_some_iff.1 hj).1];exact hj)
theorem rY{w:World}{b:Nat}{v u:Value}{p q:Pt}{l a:Int}{t:TypeId}{fr:Nat×Nat}(h1:p.sum.length=32)(h2:q.sum.length=32)(h:w.heap[b]?=some (.cells (fF v u p q l a).toArray t fr)):w.cell? ⟨b,70,none⟩=some (.int .i64 l):=
 aC h (by
  rw[List.getElem?_toArray];unfold fF;rw[List.getElem?_append_right (by rw[aI h1];omega),aI h1,List.getElem?_append_right (by rw[aI h2];omega),aI h2];rfl)
theorem JD{w:World}{b:Nat}{v u:Value}{p q:Pt}{l a:Int}{t:TypeId}{fr:Nat×Nat}(h1:p.sum.length=32)(h2:q.sum.length=32)(h:w.heap[b]?=some (.cells (fF v u p q l a).toArray t fr)):w.cell? ⟨b,71,none⟩=some (.int .i64 a):=
 aC h (by
  rw[List.getElem?_toArray];unfold fF;rw[List.getElem?_append_right (by rw[aI h1];omega),aI h1,List.getElem?_append_right (by rw[aI h2];omega),aI h2];rfl)
def lI(e:Ent):List Nat:=unl e.l e.s e.t e.a
def nA:Nat->Nat
 | 0=>1
 | l+1=>4*nA l+1
def wtE(es:List Ent):Nat:=(es.map fun e=>nA e.l).sum
theorem yH(l:Nat):1≤nA l:=by cases l<;>(unfold nA;omega)
theorem pG(es fs:List Ent):wtE (es++fs)=wtE es+wtE fs:=by unfold wtE;rw[List.map_append,List.sum_append]
theorem AU:∀(es:List Ent),es.length≤wtE es
 | []=>Nat.zero_le _
 | e::es=>by
   have h1:=AU es;have h2:=yH e.l;unfold wtE at h1 ⊢;rw[List.map_cons,List.sum_cons,List.length_cons];omega
structure kW(S:Kor)(B:Nat->Prop)(w:World)(kv ov:Value)(e:Ent):Prop where
 s:Tr.Ok S e.l e.s
 t:Tr.Ok S e.l e.t
 l3:e.l≤3
 a64:e.a+4 ^ e.l≤64
 sp:aX w B e.sv e.s.ptr
 tp:aX w B e.tv e.t.ptr
 off:∀i,e.sv.ownBlock=some i\/e.tv.ownBlock=some i->kv.ownBlock≠some i/\ov.ownBlock≠some i
theorem kW.len{S:Kor}{B:Nat->Prop}{w:World}{kv ov:Value}{e:Ent}(h:kW S B w kv ov e):(iN e).length=72:=tN h.sp.pt.sum h.tp.pt.sum
theorem kW.keep0{S:Kor}{B:Nat->Prop}{w w':World}{kv ov:Value}{e:Ent}(h:kW S B w kv ov e)(k:aA aB w w'):kW S B w' kv ov e:=⟨h.s,h.t,h.l3,h.a64,h.sp.keep0 k,h.tp.keep0 k,h.off⟩
theorem kW.turn{S:Kor}{B T:Nat->Prop}{w w':World}{kv ov kv' ov':Value}{e:Ent}(h:kW S B w kv ov e)(k:aA T w w')(hT:∀i,T i->kv.ownBlock=some i\/ov.ownBlock=some i)(h1:∀i,kv'.ownBlock=some i->kv.ownBlock=some i\/w.heap.size≤i)(h2:∀i,ov'.ownBlock=some i->ov.ownBlock=some i\/w.heap.size≤i):kW S B w' kv' ov' e:=by
 have q1:∀i,e.sv.ownBlock=some i->¬T i:=fun i hi e=>(hT i e).elim (h.off i (.inl hi)).1 (h.off i (.inl hi)).2
 have q2:∀i,e.tv.ownBlock=some i->¬T i:=fun i hi e=>(hT i e).elim (h.off i (.inr hi)).1 (h.off i (.inr hi)).2
 have lt:∀i,e.sv.ownBlock=some i\/e.tv.ownBlock=some i->i<w.heap.size:=fun i hi=>hi.elim (fun hi=>(h.sp.off i hi).2.lt) fun hi=>(h.tp.off i hi).2.lt
 refine⟨h.s,h.t,h.l3,h.a64,h.sp.keepT k q1,h.tp.keepT k q2,fun i hi=>⟨fun e=>?_,fun e=>?_⟩⟩
 ·exact(h1 i e).elim (h.off i hi).1 fun e=>by have:=lt i hi;omega
 ·exact(h2 i e).elim (h.off i hi).2 fun e=>by have:=lt i hi;omega
structure UnI(w:World)(c:Nat)(S:Kor)(B:Nat->Prop)(tot:List Nat)(wr:World)(kv ov:Value)(es:List Ent)(ns:List Nat):Prop where
 keep:aA aB w wr
 ki:KI wr c S B
 stk:wr.ownsRow w.heap.size 87 72 kv es.length (es.flatMap iN)
 out:wr.ownsRow w.heap.size 3 1 ov ns.length (lH ns)
 ap:∀i,kv.ownBlock=some i->ov.ownBlock≠some i
 ents:∀e∈es,kW S B wr kv ov e
 tot:ns++es.reverse.flatMap lI=tot
 wt:wtE es≤85
 bl:∀i,B i->i<w.heap.size
theorem rZ:∀{l:Nat}{s t:Tr}{a:Nat},(unl l s t a).length≤4 ^ l
 | 0,s,t,a=>by rw[mY];split<;>simp
 | l+1,s,t,a=>by
   rw[gT];split
   ·simp
   ·have h0:=rZ (l:=l) (s:=s.kid 0) (t:=t.kid 0) (a:=a+0*4 ^ l);have h1:=rZ (l:=l) (s:=s.kid 1) (t:=t.kid 1) (a:=a+1*4 ^ l)
    have h2:=rZ (l:=l) (s:=s.kid 2) (t:=t.kid 2) (a:=a+2*4 ^ l);have h3:=rZ (l:=l) (s:=s.kid 3) (t:=t.kid 3) (a:=a+3*4 ^ l);rw[show List.range 4=[0,1,2,3] from rfl];simp only[List.flatMap_cons,List.flatMap_nil,List.append_nil,List.length_append];rw[Nat.pow_succ];omega
def D4(e:Ent)(l:Nat)(vs us:Nat->Value)(i:Nat):Ent:=⟨e.s.kid i,e.t.kid i,vs i,us i,l,e.a+i*4 ^ l⟩
def gC(e:Ent)(l:Nat)(vs us:Nat->Value)(k:Nat):List Ent:=(List.range k).map fun j=>D4 e l vs us (3-j)
theorem JE(e:Ent)(l:Nat)(vs us:Nat->Value)(k:Nat):(gC e l vs us k).length=k:=by unfold gC;rw[List.length_map,List.length_range]
theorem Ag(e:Ent)(l:Nat)(vs us:Nat->Value)(k:Nat):gC e l vs us (k+1)=gC e l vs us k++[D4 e l vs us (3-k)]:=by unfold gC;rw[List.range_succ,List.map_append];rfl
theorem JF{e:Ent}{l:Nat}{vs us:Nat->Value}(hl:e.l=l+1)(hn:e.s.ptr.eqB e.t.ptr=false):(gC e l vs us 4).reverse.flatMap lI=lI e:=by
 unfold lI;rw[hl,gT,hn];rfl
theorem D5(e:Ent)(l:Nat)(vs us:Nat->Value):∀k,wtE (gC e l vs us k)=k*nA l
 | 0=>by rw[Nat.zero_mul];rfl
 | k+1=>by
   rw[Ag,pG,D5 e l vs us k,Nat.succ_mul];rfl
theorem UnI.skip{w:World}{c:Nat}{S:Kor}{B:Nat->Prop}{tot:List Nat}{wr:World}{g cap n:Nat}{ov:Value}{es:List Ent}{e:Ent}{ns:List Nat}(hn:es.length=n)(h:UnI w c S B tot wr (.slice (some ⟨g,0,none⟩) (n+1) cap) ov (es++[e]) ns)(he:lI e=[]):UnI w c S B tot wr (.slice (some ⟨g,0,none⟩) n cap) ov es ns:=by
 subst hn;refine⟨h.keep,h.ki,?_,h.out,h.ap,fun y hy=>?_,?_,?_,h.bl⟩
 ·have h1:=h.stk
  rw[List.length_append,List.length_singleton,List.flatMap_append] at h1;refine D2 h1 ?_;have h2:∀y∈es,(iN y).length=72:=fun y hy=>(h.ents y (List.mem_append_left _ hy)).len
  clear h h1
  induction es with
  | nil=>rfl
  | cons y es ih=>rw[List.flatMap_cons,List.length_append,h2 y (List.mem_cons_self ..),ih fun z hz=>h2 z (List.mem_cons_of_mem _ hz),List.length_cons,Nat.succ_mul];omega
 ·have h1:=h.ents y (List.mem_append_left _ hy)
  exact⟨h1.s,h1.t,h1.l3,h1.a64,h1.sp,h1.tp,h1.off⟩
 ·have h1:=h.tot
  rw[List.reverse_append,List.flatMap_append,List.reverse_singleton,List.flatMap_cons,List.flatMap_nil,List.append_nil,he,List.nil_append] at h1;exact h1
 ·have h1:=h.wt
  rw[pG] at h1;omega
structure UnP(w:World)(c:Nat)(S:Kor)(B:Nat->Prop)(tot:List Nat)(wr:World)(kv ov:Value)(es:List Ent)(e:Ent)(ns:List Nat):Prop where
 keep:aA aB w wr
 ki:KI wr c S B
 stk:wr.ownsRow w.heap.size 87 72 kv es.length (es.flatMap iN)
 out:wr.ownsRow w.heap.size 3 1 ov ns.length (lH ns)
 ap:∀i,kv.ownBlock=some i->ov.ownBlock≠some i
 ents:∀y∈es,kW S B wr kv ov y
 top:kW S B wr kv ov e
 tot:ns++(lI e++es.reverse.flatMap lI)=tot
 wt:wtE es+nA e.l≤85
 bl:∀i,B i->i<w.heap.size
theorem UnI.pops{w:World}{c:Nat}{S:Kor}{B:Nat->Prop}{tot:List Nat}{wr:World}{g cap n:Nat}{ov:Value}{es:List Ent}{e:Ent}{ns:List Nat}(hn:es.length=n)(h:UnI w c S B tot wr (.slice (some ⟨g,0,none⟩) (n+1) cap) ov (es++[e]) ns):UnP w c S B tot wr (.slice (some ⟨g,0,none⟩) n cap) ov es e ns:=by
 subst hn;refine⟨h.keep,h.ki,?_,h.out,h.ap,fun y hy=>?_,?_,?_,?_,h.bl⟩
 ·have h1:=h.stk
  rw[List.length_append,List.length_singleton,List.flatMap_append] at h1;refine D2 h1 ?_;have h2:∀y∈es,(iN y).length=72:=fun y hy=>(h.ents y (List.mem_append_left _ hy)).len
  clear h h1
  induction es with
  | nil=>rfl
  | cons y es ih=>rw[List.flatMap_cons,List.length_append,h2 y (List.mem_cons_self ..),ih fun z hz=>h2 z (List.mem_cons_of_mem _ hz),List.length_cons,Nat.succ_mul];omega
 ·have h1:=h.ents y (List.mem_append_left _ hy)
  exact⟨h1.s,h1.t,h1.l3,h1.a64,h1.sp,h1.tp,h1.off⟩
 ·have h1:=h.ents e (List.mem_append_right _ (List.mem_singleton.2 rfl))
  exact⟨h1.s,h1.t,h1.l3,h1.a64,h1.sp,h1.tp,h1.off⟩
 ·have h1:=h.tot
  rw[List.reverse_append,List.flatMap_append,List.reverse_singleton,List.flatMap_cons,List.flatMap_nil,List.append_nil] at h1;exact h1
 ·have h1:=h.wt
  rw[pG] at h1;exact h1
theorem UnP.keep0{w:World}{c:Nat}{S:Kor}{B:Nat->Prop}{tot:List Nat}{wr w':World}{kv ov:Value}{es:List Ent}{e:Ent}{ns:List Nat}(h:UnP w c S B tot wr kv ov es e ns)(k:aA aB wr w'):UnP w c S B tot w' kv ov es e ns:=
 ⟨h.keep.trans k,h.ki.keep0 k,k.owns h.stk fun _ _=>id,k.owns h.out fun _ _=>id,h.ap,fun e he=>(h.ents e he).keep0 k,h.top.keep0 k,h.tot,h.wt,h.bl⟩
theorem UnP.skip{w:World}{c:Nat}{S:Kor}{B:Nat->Prop}{tot:List Nat}{wr:World}{kv ov:Value}{es:List Ent}{e:Ent}{ns:List Nat}(h:UnP w c S B tot wr kv ov es e ns)(he:lI e=[]):UnI w c S B tot wr kv ov es ns:=
 ⟨h.keep,h.ki,h.stk,h.out,h.ap,h.ents,by have h1:=h.tot;rw[he,List.nil_append] at h1;exact h1,by have:=h.wt;omega,h.bl⟩
theorem UnP.tell{w:World}{c:Nat}{S:Kor}{B:Nat->Prop}{tot:List Nat}{wr w1 w2:World}{kv ov v':Value}{es:List Ent}{e:Ent}{ns:List Nat}(h:UnP w c S B tot wr kv ov es e ns)(he:lI e=[e.a])(k1:aA aB wr w1)(ho:w2.ownsRow w.heap.size 3 1 v' (ns.length+1) (lH ns++[.int .i64 (e.a:Int)]))(k2:aA (fun i=>ov.ownBlock=some i) w1 w2)(hb:v'.ownBlock=ov.ownBlock\/v'.ownBlock=some w1.heap.size):UnI w c S B tot w2 kv v' es (ns++[e.a]):=by
 have h0:=h.keep0 k1
 have hv':∀i,v'.ownBlock=some i->ov.ownBlock=some i\/w1.heap.size≤i:=fun i hi=>by
  rcases hb with e|e
  ·exact .inl (e▸hi)
  ·have e2:w1.heap.size=i:=Option.some.inj (e.symm.trans hi)
   exact .inr (by omega)
 have hge:∀i,ov.ownBlock=some i->w.heap.size≤i:=fun i hi=>aT h.out hi
 refine⟨h0.keep.trans' k2 (fun _ _ h=>h) fun i hi e=>by have:=hge i e;omega,h0.ki.keepT k2 fun i hi e=>by have h1:=hge i hi;have h2:=h.bl i e;omega,k2.owns h0.stk fun i hi e=>h0.ap i hi e,?_,fun i hi e=>?_,fun y hy=>(h0.ents y hy).turn k2 (fun i hi=>.inr hi) (fun i hi=>.inl hi) hv',?_,by have:=h.wt;omega,h.bl⟩
 ·rw[List.length_append,List.length_singleton]
  have e1:lH (ns++[e.a])=lH ns++[.int .i64 (e.a:Int)]:=by unfold lH;rw[List.map_append];rfl
  rw[e1];exact ho
 ·rcases hv' i e with e|e
  ·exact h0.ap i hi e
  ·obtain⟨cur,hc⟩:=aL h0.stk hi
   have:=lt_of_block hc;omega
 ·have h1:=h.tot
  rw[he] at h1;rw[List.append_assoc];exact h1
structure UnQ(w:World)(c:Nat)(S:Kor)(B:Nat->Prop)(tot:List Nat)(wr:World)(kv ov:Value)(es:List Ent)(e:Ent)(l:Nat)(ns:List Nat)(vs us:Nat->Value)(b11 b12 b14 k:Nat):Prop where
 keep:aA aB w wr
 ki:KI wr c S B
 stk:wr.ownsRow w.heap.size 87 72 kv (es.length+k) ((es++gC e l vs us k).flatMap iN)
 out:wr.ownsRow w.heap.size 3 1 ov ns.length (lH ns)
 ap:∀i,kv.ownBlock=some i->ov.ownBlock≠some i/\i≠b11/\i≠b12/\i≠b14
 ents:∀y∈es++gC e l vs us k,kW S B wr kv ov y
 vs_:bR wr B vs (fun i=>(e.s.kid i).ptr)
 us_:bR wr B us (fun i=>(e.t.kid i).ptr)
 off:∀q,q<4->∀i,(vs q).ownBlock=some i\/(us q).ownBlock=some i->kv.ownBlock≠some i/\ov.ownBlock≠some i
 h11:wr.heap[b11]?=some (.cells (iN e).toArray 87 (0,0))
 h12:wr.heap[b12]?=some (.cells (bV ((l+1:Nat):Int) vs (fun i=>(e.s.kid i).ptr)).toArray 92 (0,0))
 h14:wr.heap[b14]?=some (.cells (bV ((l+1:Nat):Int) us (fun i=>(e.t.kid i).ptr)).toArray 92 (0,0))
 el:e.l=l+1
 es_:Tr.Ok S (l+1) e.s
 et:Tr.Ok S (l+1) e.t
 l2:l≤2
 a64:e.a+4 ^ (l+1)≤64
 ne:e.s.ptr.eqB e.t.ptr=false
 tot:ns++(lI e++es.reverse.flatMap lI)=tot
 wt:wtE es+nA e.l≤85
 bl:∀i,B i->i<w.heap.size
theorem UnQ.keep0{w:World}{c:Nat}{S:Kor}{B:Nat->Prop}{tot:List Nat}{wr w':World}{kv ov:Value}{es:List Ent}{e:Ent}{l:Nat}{ns:List Nat}{vs us:Nat->Value}{b11 b12 b14 k:Nat}(h:UnQ w c S B tot wr kv ov es e l ns vs us b11 b12 b14 k)(q:aA aB wr w'):UnQ w c S B tot w' kv ov es e l ns vs us b11 b12 b14 k:=
 ⟨h.keep.trans q,h.ki.keep0 q,q.owns h.stk fun _ _=>id,q.owns h.out fun _ _=>id,h.ap,fun e he=>(h.ents e he).keep0 q,h.vs_.keep0 q,h.us_.keep0 q,h.off,q.blk h.h11 id,q.blk h.h12 id,q.blk h.h14 id,h.el,h.es_,h.et,h.l2,h.a64,h.ne,h.tot,h.wt,h.bl⟩
theorem UnQ.push{w:World}{c:Nat}{S:Kor}{B:Nat->Prop}{tot:List Nat}{wr w1 w2:World}{kv ov v':Value}{es:List Ent}{e:Ent}{l:Nat}{ns:List Nat}{vs us:Nat->Value}{b11 b12 b14 k j:Nat}(h:UnQ w c S B tot wr kv ov es e l ns vs us b11 b12 b14 k)(hj:k+j=3)(k1:aA aB wr w1)
 (ho:w2.ownsRow w.heap.size 87 72 v' (es.length+k+1) ((es++gC e l vs us k).flatMap iN++iN (D4 e l vs us j))) (k2:aA (fun i=>kv.ownBlock=some i) w1 w2) (hb:v'.ownBlock=kv.ownBlock\/v'.ownBlock=some w1.heap.size):UnQ w c S B tot w2 v' ov es e l ns vs us b11 b12 b14 (k+1):=by
 have h0:=h.keep0 k1
 have hv':∀i,v'.ownBlock=some i->kv.ownBlock=some i\/w1.heap.size≤i:=fun i hi=>by
  rcases hb with e|e
  ·exact .inl (e▸hi)
  ·have e2:w1.heap.size=i:=Option.some.inj (e.symm.trans hi)
   exact .inr (by omega)
 have hge:∀i,kv.ownBlock=some i->w.heap.size≤i:=fun i hi=>aT h.stk hi
 have h11:=lt_of_block h0.h11;have h12:=lt_of_block h0.h12;have h14:=lt_of_block h0.h14;have hvlt:∀q,q<4->∀i,(vs q).ownBlock=some i\/(us q).ownBlock=some i->i<w1.heap.size:=fun q hq i hi=>hi.elim (fun hi=>((h0.vs_ q hq).off i hi).2.lt) fun hi=>((h0.us_ q hq).off i hi).2.lt
 have hoff:∀q,q<4->∀i,(vs q).ownBlock=some i\/(us q).ownBlock=some i->v'.ownBlock≠some i/\ov.ownBlock≠some i:=fun q hq i hi=>⟨fun e=>(hv' i e).elim (h.off q hq i hi).1 fun e=>by have:=hvlt q hq i hi;omega,(h.off q hq i hi).2⟩
 have hnv:bR w2 B vs (fun i=>(e.s.kid i).ptr):=h0.vs_.keepT k2 fun q hq i hi=>(h.off q hq i (.inl hi)).1
 have hnu:bR w2 B us (fun i=>(e.t.kid i).ptr):=h0.us_.keepT k2 fun q hq i hi=>(h.off q hq i (.inr hi)).1
 have hkk:gC e l vs us (k+1)=gC e l vs us k++[D4 e l vs us j]:=by rw[Ag,show 3-k=j by omega]
 have hj4:j<4:=by omega
 refine⟨h0.keep.trans' k2 (fun _ _ h=>h) fun i hi e=>by have:=hge i e;omega,h0.ki.keepT k2 fun i hi e=>by have h1:=hge i hi;have h2:=h.bl i e;omega,?_,k2.owns h0.out fun i hi e=>(h.ap i e).1 hi,fun i hi=>?_,fun y hy=>?_,hnv,hnu,hoff,k2.blk h0.h11 fun e=>(h.ap _ e).2.1 rfl,k2.blk h0.h12 fun e=>(h.ap _ e).2.2.1 rfl,k2.blk h0.h14 fun e=>(h.ap _ e).2.2.2 rfl,h.el,h.es_,h.et,h.l2,h.a64,h.ne,h.tot,h.wt,h.bl⟩
 ·rw[hkk,←List.append_assoc,List.flatMap_append,List.flatMap_cons,List.flatMap_nil,List.append_nil,←Nat.add_assoc]
  exact ho
 ·rcases hv' i hi with e|e
  ·exact h.ap i e
  ·refine⟨fun e2=>?_,by omega,by omega,by omega⟩
   obtain⟨cur,hc⟩:=aL h0.out e2;have:=lt_of_block hc;omega
 ·rw[hkk,←List.append_assoc] at hy
  rcases List.mem_append.1 hy with hy|hy
  ·exact(h0.ents y hy).turn k2 (fun i hi=>.inl hi) hv' (fun i hi=>.inl hi)
  ·rw[List.mem_singleton] at hy
   subst hy;have hm:(j+1)*4 ^ l≤4*4 ^ l:=Nat.mul_le_mul_right _ (by omega);have ha:=h.a64;rw[Nat.succ_mul] at hm;rw[Nat.pow_succ] at ha;exact⟨h.es_.kid hj4,h.et.kid hj4,by show l≤3;have:=h.l2;omega,by show e.a+j*4 ^ l+4 ^ l≤64;omega,hnv j hj4,hnu j hj4,fun i hi=>hoff j hj4 i hi⟩
theorem UnQ.fin{w:World}{c:Nat}{S:Kor}{B:Nat->Prop}{tot:List Nat}{wr:World}{kv ov:Value}{es:List Ent}{e:Ent}{l:Nat}{ns:List Nat}{vs us:Nat->Value}{b11 b12 b14:Nat}(h:UnQ w c S B tot wr kv ov es e l ns vs us b11 b12 b14 4):UnI w c S B tot wr kv ov (es++gC e l vs us 4) ns/\wtE (es++gC e l vs us 4)<wtE es+nA e.l:=by
 have hw:wtE (es++gC e l vs us 4)+1=wtE es+nA e.l:=by
  rw[pG,D5,h.el];show wtE es+4*nA l+1=wtE es+(4*nA l+1);omega
 refine⟨⟨h.keep,h.ki,by rw[List.length_append,JE];exact h.stk,h.out,fun i hi=>(h.ap i hi).1,h.ents,?_,by have:=h.wt;omega,h.bl⟩,by omega⟩;rw[List.reverse_append,List.flatMap_append,JF h.el h.ne];exact h.tot
end
end Go.Proofs.YthihofpfonfjfaaGreat
