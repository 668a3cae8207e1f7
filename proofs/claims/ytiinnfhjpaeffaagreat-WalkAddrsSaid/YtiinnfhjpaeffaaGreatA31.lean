import Derived.Test.YtiinnfhjpaeffaaGreatA1
import Derived.Test.YtiinnfhjpaeffaaGreatA30
namespace Go.Proofs.YtiinnfhjpaeffaaGreat
set_option maxHeartbeats 64000000
set_option maxRecDepth 100000
set_option linter.unusedVariables false
section
open Go.RowKit Go.Maps Go.ChangeMaps
variable{w w' wr:World}{b:List UInt8}{p:Pt}{a c N0 g q6 q7 q11 q4 q12 l b7 b11 b12 k s n base:Nat}{t u:Tr}{fr:Nat×Nat}{S T:Kor}{B:Nat->Prop}{x:Int}{ps qs:List (Value×Pt)}{ns:List Nat}{pv vk:Value}{vs:Nat->Value}
theorem G9{b:Nat}{v:Value}{a:Int}{t:TypeId}(d:p.sum.length=32)(h:w.heap[b]?=some (.cells (dR v p a).toArray t fr)):w.cell? ⟨b,35,none⟩=some (.int .i64 a):=
 aC h (by
  rw[List.getElem?_toArray];unfold dR;rw[List.getElem?_append_right (by rw[aJ d];exact Nat.le_refl _),aJ d];rfl)
theorem LC(f:Nat->Value)(a:Int):Tryz.prog.built 90 [(0,.agg ((List.range 35).map f).toArray),(1,.int .i64 a)]=some ((List.range 35).map f++[Value.int .i64 a]).toArray:=by kernel_rfl
theorem Fv(d:List Value)(h:d.length=35):d=(List.range 35).map fun i=>d.getD i undef:=by
 apply List.ext_getElem?;intro i;rw[List.getElem?_map]
 by_cases e:i<35
 ·rw[List.getElem?_range e,List.getElem?_eq_getElem (by omega)]
  simp[List.getD,List.getElem?_eq_getElem (show i<d.length by omega)]
 ·rw[List.getElem?_eq_none (by omega),List.getElem?_eq_none (by simp;omega)];rfl
theorem Fw(v:Value)(p:Pt)(a:Int)(d:p.sum.length=32)(w:World):(Instr.build 90 #[(0,.agg (aE v p).toArray),(1,.int .i64 a)]).run Tryz.prog w=.ok (.agg (dR v p a).toArray) w:=by
 refine run_build w 90 _ _ ?_;unfold dR;rw[Fv (aE v p) (aJ d)];exact LC _ _
theorem DY(hK:KI w c S B)(hl2:l≤2)(IH:N4 B S c N0 g q6 q7 q11 q4 q12 x l)(hB:∀i,B i->i<N0)(hT:Thr B N0 c g x q6 q7 q11 q4 q12 w){v:Value}(hO:jV N0 q11 w v ps)(hN:N0≤w.heap.size)(pv:Value)(t:Tr)(a:Nat)(hps:ps.length+(thr (bF x) (l+1) t a).length≤1000)(ha:a+4 ^ (l+1)≤64)(ht:Tr.Ok S (l+1) t)(hp:bC w B pv t.ptr)(hpo:∀i,pv.ownBlock=some i->i≠q11/\v.ownBlock≠some i)(hpl:t.ptr.addrs.length≤65536)(hh:t.isHole=false)(hn:decide (x<t.ptr.birth)=true):Calls Tryz.prog 67 #[.agg (dR pv t.ptr (a:Int)).toArray,.int .i64 ((l+1:Nat):Int),.pointer q6,.pointer q7,.pointer q11,.pointer q4,.pointer q12] w (qA N0 q11 x (l+1) t a v ps w):=by
 have hhp:t.ptr.hole=false:=by rw[ht.hole_eq,hh]
 have HIH:=O IH;have HBN:=O hB;have HTR:=O ht;have HPSL:=O hps;have HA:=O ha;have HPO:=O hpo;have HHH:Hid (t.isHole=false/\bF x t.ptr=true):=O ⟨hh,hn⟩;have hps1:ps.length≤1000:=by omega
 have r:=O hT;have D:=O hO;have HBLT:=O (fun i (e:B i)=>hK.lt e);have M:=O hN;have HPS:=O hps1;have f:=O hK;have HVO0:Hid (∀i,v.ownBlock=some i->i<w.heap.size):=O fun i y=>by (obtain⟨cur,hc⟩:=aO hO.row y;exact lt_of_block hc)
 obtain⟨p,hpe⟩:∃p,t.ptr=p:=⟨_,rfl⟩
 have HPE:=O hpe;rw[hpe] at hp hhp hn hpl ⊢;have m:=O hp;have HHP:=O hhp;have HN1:=O hn;have HPL:=O hpl;have HSM:=O hp.pt.sum;have hpc:=aJ (v:=pv) hp.pt.sum;have HOP0:=aT hp.pt;have hlc:=jS (v:=pv) (a:=(a:Int)) hp.pt.sum;have HOL0:=jT (a:=(a:Int)) hp.pt;obtain⟨pc,U⟩:∃l,aE pv p=l:=⟨_,rfl⟩
 obtain⟨lc,Q⟩:∃l,dR pv p (a:Int)=l:=⟨_,rfl⟩
 have HOP:Hid (∀u∈pc,u.oneCell'=true):=O (by rw[←U];exact HOP0);have HOL:Hid (∀u∈lc,u.oneCell'=true):=O (by rw[←Q];exact HOL0);have Y:=O U;have HLC:=O Q;rw[U] at hpc;rw[Q] at hlc ⊢;have hl0:(0:Int)≤((l+1:Nat):Int):=by omega
 have hlz:(((l:Int)+1) == 0)=false:=by rw[beq_eq_false_iff_ne];omega
 clear HOP0 HOL0 U Q hp hT hO hh hhp hn hN hps hpl hpe hK IH hB ht ha hpo hps1;have j:=lN w;go_in
 go_wp2_with ((with_reducible show WL _ _);refine bxL j 90 (.tmp 0) (lc.toArray) ?_)
 intro b7 w1 d j;replace m:=pK m d;replace r:=O (r.keep d fun _ e=>e.elim);replace D:=O (D.keep0 d);replace f:=O (KI.keep0 f.out d);clear d
 go_wp2_with ((with_reducible show WL _ _);refine wpList_load_mid rfl 27 (.tmp 15) rfl b7 0 rfl pc _ (by have h:=j.b 0;rw[←HLC.out] at h;rw[←Y.out];exact eM h) aH rfl (szP9 hpc) ?_)
 refine((by rw[←Y.out];exact cL w1 pv p m.pt:Calls _ _ _ w1 (aX w1 p.hole))).mono ?_;rintro e w2 ⟨rfl,d⟩;replace j:=kL j d;replace m:=pK m d;replace r:=O (r.keep d fun _ e=>e.elim);replace D:=O (D.keep0 d);replace f:=O (KI.keep0 f.out d);clear d;rw[HHP.out];have c1:w2.cell? ⟨q6,0,none⟩=some (nwV g):=(cell_of_one r.c6)
 go_wp2_with ((with_reducible show WL _ _);refine aP (by rfl) 27 (.tmp 20) rfl b7 0 rfl pc _ (by have h:=j.b 0;rw[←HLC.out] at h;rw[←Y.out];exact eM h) aH rfl (szP9 hpc) ?_)
 clear c1;refine((by rw[←Y.out];exact kI r.cg pv p m.pt:Calls _ _ _ w2 (aX w2 (decide (x<p.birth))))).mono ?_;rintro e w3 ⟨rfl,d⟩;replace j:=kL j d;replace m:=pK m d;replace r:=O (r.keep d fun _ e=>e.elim);replace D:=O (D.keep0 d);replace f:=O (KI.keep0 f.out d);clear d;rw[HN1.out];have c1:w3.cell? ⟨q7,0,none⟩=some (owV):=(cell_of_one r.c7)
 go_wp2_with ((with_reducible show WL _ _);refine wpList_load_mid rfl 90 (.tmp 7) rfl b7 0 rfl lc _ (aD (j.b 0)) Tryz.underlying90 rfl (by rw[hlc];exact wA) ?_)
 clear c1;have HSW:=O j.keep.size;refine((by rw[←HLC.out];exact DS (B:=B) (fun k d=>Nat.lt_of_lt_of_le (HBLT.out k d) j.keep.size) pv p m.pt HPL.out (a:Int):Calls _ _ _ w3 (tF w3 B p))).mono ?_;rintro e w4 ⟨v1,rfl,V,hnw1,d⟩;have HV1:Hid (PtV w4 v1 p):=O V.pt;have C:Hid (∀i,v1.ownBlock=some i->N0≤i/\v.ownBlock≠some i/\IsC w4 i):=O (fun i y=>⟨by have F:=hnw1 i y;have h2:=M.out;have h3:=HSW.out;omega,fun e=>by (obtain⟨cur,hc⟩:=aO D.row e;have F:=lt_of_block hc;have h2:=hnw1 i y;omega),(V.off i y).2⟩);obtain⟨rc,HRC,J,HOR⟩:=nmPt V.pt;rw[HRC.out];clear V hnw1;replace j:=kL j d;replace m:=pK m d;replace r:=O (r.keep d fun _ e=>e.elim);replace D:=O (D.keep0 d);replace f:=O (KI.keep0 f.out d);clear d
 go_wp2_with ((with_reducible show WL _ _);refine al 27 (.agg aI.toArray) (aI.toArray) bK ?_)
 intro b10 w5 E hk0 G
 go_wp2_with ((with_reducible show WL _ _);refine sta 27 (.tmp 10) (.tmp 29) b10 0 rc G (by first|decide|(rw[List.size_toArray,J];exact Nat.le_refl _)|simp[J,aG]) (szP9 J) HOR.out ?_)
 intro w6 d L;rw[aK _ _ (by first|rfl|(rw[List.size_toArray,J];rfl)|simp[J,aG])] at L;replace d:=tX hk0 d (fun i y e=>by omega);replace j:=lW j E d L;replace m:=pK m d;replace r:=O (r.keep d fun _ e=>e.elim);replace D:=O (D.keep0 d);replace f:=O (KI.keep0 f.out d);replace HV1:=O (HV1.keep d fun _ _=>id);replace C:=O (fun i y=>And.intro (C.out i y).1 (And.intro (C.out i y).2.1 ((C.out i y).2.2.keep d id)));clear E d L hk0 G;have c1:w6.cell? ⟨q11,0,none⟩=some (v):=(cell_of_one D.cell)
 go_wp2_with ((with_reducible show WL _ _);first
  | refine wpList_load_mid rfl 27 (.tmp 10) rfl b10 0 rfl rc _ (aD (j.b 0)) aH rfl (szP9 J) ?_
  | refine bsA 22 27 (.tmp 33) Tryz.underlying22 oF (by omega) rc J (by omega) ?_)
 clear c1;intro b34 w7 E d L;have HRN:Hid (Rd w7 35 (.slice b34 1 1) 1 rc):=O (dE (n:=1) (size:=35) L (by rw[J]) (by unfold maxLen;omega));replace j:=lW j E d L;replace m:=pK m d;replace r:=O (r.keep d fun _ e=>e.elim);replace D:=O (D.keep0 d);replace f:=O (KI.keep0 f.out d);replace HV1:=O (HV1.keep d fun _ _=>id);replace C:=O (fun i y=>And.intro (C.out i y).1 (And.intro (C.out i y).2.1 ((C.out i y).2.2.keep d id)));clear E d L;have HLN:=O (show N0≤w7.heap.size from Nat.le_trans M.out j.keep.size);have HPS2:Hid (ps.length+1≤maxLen/\(ps.length+1)*72≤140737488355328):=O (by have:=HPS.out;unfold maxLen;omega)
 go_wp2_with (at_builtin;refine aL rfl (.tmp 32) (.tmp 34) 22 rfl N0 27 (.agg aI.toArray) 35 72 Tryz.underlying22 oF rfl (by decide) v ps.length (ps.flatMap fun x=>aE x.1 x.2) rfl D.row (.slice b34 1 1) 1 rc rfl HRN.out HOR.out HPS2.1 HPS2.2 HLN.out ?_)
 intro v2 w8 ho5 hk5 hn5 hb5;obtain⟨g2,c2,rfl,-,-⟩:=(Rd.of_owns ho5).form;have H11:=O (hk5.blk D.cell fun e=>by have F:=aU D.row e;have h2:=r.l11.1;omega);have HO5:=O ho5;have HK5:=O hk5;have HB5:=O hb5;have HKL:=O j.keep;have HB7L:=O (j.lt 2);have HOG:=O (fun i (y:v.ownBlock=some i)=>(aU D.row y:N0≤i));clear ho5 hk5 hn5 hb5 HRN
 go_wp2_with ((with_reducible show WL _ (.store 22 _ _));refine sta 22 (.tmp 4) (.tmp 35) q11 0 [.slice g2 (ps.length+1) c2] H11.out (by simp) (by kernel_rfl) (by intro u hu;rw[List.mem_singleton] at hu;subst hu;rfl) ?_)
 intro w9 d L;replace L:w9.heap[q11]?=some (.cells #[.slice g2 (ps.length+1) c2] 22 (0,0)):=L;have hk9:aA (fun i=>i=q11\/v.ownBlock=some i) w7 w9:=HK5.trans' d (fun i _ e=>.inr e) (fun i _ e=>.inl e);have K:Hid (jV N0 q11 w9 (.slice g2 (ps.length+1) c2) (ps++[(v1,p)])):=O (D.grow r.l11.1 HV1.out C.out (by rw[HRC.out];exact HO5.out) HK5.out HB5.out d L)
 have hsl:∀i,w.heap.size≤i->¬(i=q11\/v.ownBlock=some i):=fun i y e=>by
  rcases e with rfl|e
  ·have F:=r.l11.1;have h2:=M.out;omega
  ·have F:=HVO0.out i e;omega
 replace j:=O (j.onto hk9 (fun z hz=>hsl _ (j.ge z hz)));replace r:=O (r.keep hk9 fun i e=>e.imp id (HOG.out i));replace f:=O (f.keepT hk9 fun i e hBi=>e.elim (fun e=>r.l11.2 (e▸hBi)) fun e=>by (have F:=HOG.out i e;have h2:=HBN.out i hBi;omega));replace m:=O (m.keepT hk9 fun i y e=>e.elim (HPO.out i y).1 (HPO.out i y).2)
 have HV2:Hid (∀i,(Value.slice g2 (ps.length+1) c2).ownBlock=some i->v.ownBlock=some i\/i=w7.heap.size):=O (fun i y=>by
  rcases HB5.out with e|e
  ·exact .inl (e▸y)
  ·rw[e] at y;injection y with y;exact .inr y.symm)
 have HS2:=O (And.intro HKL.size (And.intro hk9.size (j.lt 2)));obtain⟨v2,hv2⟩:∃u,Value.slice g2 (ps.length+1) c2=u:=⟨_,rfl⟩
 rw[hv2] at K HV2;clear hk9 d L HK5 HO5 H11 D HV1 C HB5 hv2;have c1:w9.cell? ⟨q4,0,none⟩=some (.pointer c):=(cell_of_one r.c4)
 go_wp2_with ((with_reducible show WL _ _);refine wpList_load_mid rfl 27 (.tmp 40) rfl b7 0 rfl pc _ (by have h:=j.b 2;rw[←HLC.out] at h;rw[←Y.out];exact eM h) aH rfl (szP9 hpc) ?_)
 clear c1;have HLW:=O j.keep.size;have HQL:Hid (∀i,v2.ownBlock=some i->i<w9.heap.size):=O fun i y=>by (obtain⟨cur,hc⟩:=aO K.row y;exact lt_of_block hc)
 refine((by rw[←Y.out,←HPE.out];exact BI f.out hl2 pv t HTR.out (by rw[HPE.out];exact m.pt):Calls _ _ _ w9 (fN w9 B l t))).mono ?_;rintro e w8 ⟨vs,rfl,hvs,hnew,d⟩;have N:=O hvs;have HWS:=O d.size;have HNO:Hid (∀q,q<4->∀i,(vs q).ownBlock=some i->i≠q11/\v2.ownBlock≠some i):=O (fun q hq i y=>⟨fun e=>by (have F:=hnew q hq i y;have h2:=HLW.out;have h3:=r.l11.1;have h4:=M.out;omega),fun e=>by (have F:=hnew q hq i y;have h2:=HQL.out i e;omega)⟩);have hnn:=eE ((l+1:Nat):Int) vs hvs.nv;have HOF0:=dQ ((l+1:Nat):Int) hvs.nv;obtain⟨nn,R⟩:∃x,cH ((l+1:Nat):Int) vs (fun i=>(t.kid i).ptr)=x:=⟨_,rfl⟩
 have HOF:Hid (∀u∈nn,u.oneCell'=true):=O (by rw[←R];exact HOF0);have HNF:=O R;rw[R] at hnn ⊢;clear HOF0 R hvs hnew;replace j:=kL j d;replace m:=pK m d;replace r:=O (r.keep d fun _ e=>e.elim);replace K:=O (K.keep0 d);replace f:=O (KI.keep0 f.out d);clear d
 go_wp2_with ((with_reducible show WL _ _);refine al 98 (.agg dI.toArray) (dI.toArray) jO ?_)
 intro b12 w9 E hk0 G
 go_wp2_with ((with_reducible show WL _ _);refine sta 98 (.tmp 12) (.tmp 44) b12 0 nn G (by first|decide|(rw[List.size_toArray,hnn];exact Nat.le_refl _)|simp[hnn,bX]) (by rw[hnn];exact dN) HOF.out ?_)
 intro wa d L;rw[aK _ _ (by first|rfl|(rw[List.size_toArray,hnn];rfl)|simp[hnn,bX])] at L;replace d:=tX hk0 d (fun i y e=>by omega);have HNb12:=O (show w8.heap.size≤b12 from Nat.le_of_eq E);replace j:=lW j E d L;replace m:=pK m d;replace r:=O (r.keep d fun _ e=>e.elim);replace K:=O (K.keep0 d);replace f:=O (KI.keep0 f.out d);replace N:=O (cI.keep0 N.out d);clear E d L hk0 G;go_wp2_with fail
 have HST:Hid (∃vk qs,tG w B S c N0 g q6 q7 q11 q4 q12 x b7 b12 l t a pv v ps vs 0 wa vk qs):=O ⟨v2,[(v1,p)],f.out,r.out,K.out,by rw[HPE.out];rfl,N.out,HNO.out,by (have h:=j.b 3;rw[←HLC.out] at h;rw[HPE.out];exact h),by (have h:=j.b 0;rw[←HNF.out] at h;exact h),fun i y=>by
  have h7:=HB7L.out;have hs:=HS2.out;have h12:=j.lt 0;have hq:=HQL.out i y;have h12n:=HNb12.out;have hws:=HWS.out;rcases HV2.out i y with e|e
  ·have F:=HVO0.out i e
   exact⟨.inl e,by omega,by omega⟩
  ·exact⟨.inr (by omega),by omega,by omega⟩,⟨by have F:=(j.lt 3).1;have h2:=M.out;omega,by have F:=(j.lt 0).1;have h2:=M.out;omega,M.out⟩,j.keep⟩
 clear j f m r K N
 go_loopw [13,14] (fun e i wr=>∃k:Nat,k≤4/\e=.int .i64 0/\i=.int .i64 (k:Int)/\Hid (∃vk qs,tG w B S c N0 g q6 q7 q11 q4 q12 x b7 b12 l t a pv v ps vs k wr vk qs)) (fun _ i _=>4-(intOf i).toNat)
 case atStart=>exact⟨0,by omega,rfl,rfl,HST⟩
 case round =>
  obtain⟨k,d,rfl,rfl,HCI⟩:=hrel;obtain⟨vk,qs,o⟩:=HCI.out
  by_cases hk8:k<4
  ·have hk0:(0:Int)≤(k:Int):=by omega
   have hk1:(k:Int)<4:=by omega
   have f:=O o.ki;have r:=O o.th;have K:=O o.out;have A:=O (o.old k hk8);have HCX:=O o;have hqc:=aJ (v:=vs k) A.pt.sum;have HOQ0:=aT A.pt;have HX0:=pW o.old.nv (aD o.h12) hk8;obtain⟨qc,I⟩:∃x,aE (vs k) ((t.kid k).ptr)=x:=⟨_,rfl⟩
   have HOQ:Hid (∀u∈qc,u.oneCell'=true):=O (by rw[←I];exact HOQ0);have HQC:=O I;rw[I] at hqc HX0;have HX:=O HX0;have X:=O (G9 (by rw[HPE.out];exact HSM.out) o.h7);obtain⟨W,hW⟩:∃W:Nat,4 ^ l=W:=⟨_,rfl⟩
   have hW16:W≤16/\1≤W:=by
    have:l=0\/l=1\/l=2:=by omega
    rcases this with rfl|rfl|rfl<;>omega
   have HW:=O hW;obtain⟨kw,hkw⟩:∃q:Nat,k*W=q:=⟨_,rfl⟩
   have hkw48:kw+W≤4*W:=by rw[←hkw];have F:=Nat.mul_le_mul_right W (show k+1≤4 by omega);rw[Nat.succ_mul] at F;exact F
   have hkwi:(k:Int)*(W:Int)=(kw:Int):=by rw[←hkw];push_cast;rfl
   have hal:a+4*W≤64:=by have F:=HA.out;rw[Nat.pow_succ,hW] at F;omega
   obtain⟨ak,hak⟩:∃ak,a+kw=ak:=⟨_,rfl⟩
   have HKWI:Hid (a+k*4 ^ l=ak):=O (by rw[hW,hkw,hak]);have hai:(a:Int)+(kw:Int)=(ak:Int):=by omega
   have HNQ:Hid ((∀i,(vs k).ownBlock=some i->i≠q11/\vk.ownBlock≠some i)/\(ps++qs).length+(thr (bF x) l (t.kid k) ak).length≤1000/\ak+4 ^ l≤64/\N0≤wr.heap.size):=O ⟨o.off k hk8,by rw[←hak,←hkw,←hW];exact o.len hk8 HPSL.out HHH.1 HHH.2,by rw[hW];omega,by have F:=o.ge;have h2:=o.keep.size;omega⟩;have HTK:=O (HTR.kid hk8);have j:=lN wr
   have H12N:Hid (¬(b12=q11\/vk.ownBlock=some b12)/\¬(b7=q11\/vk.ownBlock=some b7)/\¬(q12=q11\/vk.ownBlock=some q12)):=O (by
    have F:=o.ge;have h2:=o.th.l11.1;have h3:=o.th.lt q12 (.inr (.inr (.inr (.inr rfl))));refine⟨fun e=>e.elim (fun e=>by omega) fun e=>(o.own _ e).2.2 rfl,fun e=>e.elim (fun e=>by omega) fun e=>(o.own _ e).2.1 rfl,fun e=>e.elim (fun e=>by omega) fun e=>?_⟩;have h4:=aU o.out.row e;omega)
   have hbp:=Fw (vs k) (t.kid k).ptr (ak:Int) A.pt.sum;obtain⟨mc,hmc⟩:∃x,dR (vs k) (t.kid k).ptr (ak:Int)=x:=⟨_,rfl⟩
   have HMC:=O hmc;rw[hmc,I] at hbp;have HBP:=O hbp;clear I HOQ0 HX0 o HCI hW hkw hmc hbp hak;go_wp2_with fail;refine dwA (fun i=>i=q11\/vk.ownBlock=some i) (by kernel_rfl) ?_;intro wc S Z HSI P H;replace j:=kL j H;replace f:=O (KI.keep0 f.out H);replace r:=O (r.keep H fun _ e=>e.elim);replace K:=O (K.keep0 H);replace HX:=O (H.rangeAt HX.out);replace A:=pK A H;replace X:=O (H.cell X.out id);clear H;have HLs:=j;have HKIs:=f;have HTs:=r;have HQs:=K;have HXs:=HX;have HQVs:=A;have HATs:=X;refine tnd 0 (dnV q6 q7 q11 q4 q12) rfl (.inl ⟨by rfl,fun w' hw'=>by have c:World.cell? w' ⟨q12,0,none⟩=some (dnV q6 q7 q11 q4 q12):=(Z.out w' hw').cell (cell_of_one HTs.c12) H12N.2.2;go_simp⟩) P ?_;refine tna 1 (.int .i64 (k:Int)) rfl P ?_;refine tnb 2 (.pointer (some ⟨b12,1,none⟩)) rfl P ?_;refine tnd 3 (.pointer (some ⟨b12,1+k*35,none⟩)) rfl (.inl ⟨by rfl,fun _ _=>by go_simp<;>omega⟩) P ?_;refine tnd 4 (.agg qc.toArray) rfl (yieldsIf_load_mid (by rfl) 27 (.tmp 57) rfl b12 (1+k*35) rfl qc _ (fun w' h=>(Z.out w' h).rangeAt2 HXs.out H12N.1) aH rfl (szP9 hqc)) P ?_;refine tnb 5 (.pointer (some ⟨b7,35,none⟩)) rfl P ?_;refine tnd 6 (.int .i64 (a:Int)) rfl (.inl ⟨by rfl,fun w' hw'=>by have c:World.cell? w' ⟨b7,35,none⟩=some (.int .i64 (a:Int)):=(Z.out w' hw').cell HATs.out H12N.2.1;go_simp⟩) P ?_;refine tna 7 (.int .i64 (k:Int)) rfl P ?_;refine tna 8 (.int .i64 ((l+1:Nat):Int)) rfl P ?_;refine tnd 9 (.int .i64 (l:Int)) rfl (.inl ⟨by rfl,fun _ _=>by go_simp;exact IntWalk.i64_in _ (by omega)⟩) P ?_;refine tna 14 (.int .i64 ((l+1:Nat):Int)) rfl P ?_;refine tnd 15 (.int .i64 (l:Int)) rfl (.inl ⟨by rfl,fun _ _=>by go_simp;exact IntWalk.i64_in _ (by omega)⟩) P ?_;refine wA9 10 ?_;go_wp2_with fail;refine((by rw[←HW.out];exact Ac wc l (by omega):Calls _ _ _ wc (aN wc (.int .i64 (W:Int))))).mono ?_;rintro e wd ⟨rfl,d⟩;have hS1:=HSI.out _ ((Z.out _ P).trans d.any);replace j:=kL j d;replace f:=O (KI.keep0 f.out d);replace r:=O (r.keep d fun _ e=>e.elim);replace K:=O (K.keep0 d);replace HX:=O (d.rangeAt HX.out);replace A:=pK A d;replace X:=O (d.cell X.out id);clear P d;go_wp2_with fail;refine⟨hS1,?_⟩;refine tnd 11 (.int .i64 (kw:Int)) rfl (.inl ⟨by rfl,fun _ _=>by go_simp;exact IntWalk.i64_in _ (by omega)⟩) hS1 ?_;refine tnd 12 (.int .i64 (ak:Int)) rfl (.inl ⟨by rfl,fun _ _=>by go_simp;exact IntWalk.i64_in _ (by omega)⟩) hS1 ?_;refine tnd 13 (.agg mc.toArray) rfl (fH 90 #[(0,.tmp 58),(1,.tmp 66)] [(0,.agg qc.toArray),(1,.int .i64 (ak:Int))] (.agg mc.toArray) HBP.out) hS1 ?_;refine wA9 16 ?_;go_wp2_with fail;have HLK:Hid (aA aB wr wd):=O j.keep;refine((by rw[←HMC.out];exact HIH.out wd vk (ps++qs) (vs k) (t.kid k) ak f.out r.out K.out (Nat.le_trans HNQ.2.2.2 j.keep.size) HNQ.2.1 HNQ.2.2.1 HTK.out A.out HNQ.1:Calls _ _ _ wd (qA N0 q11 x l (t.kid k) ak vk (ps++qs) wd))).mono ?_;rintro e we hm;obtain⟨he,hmk,hnx⟩:=HCX.step HBN.out HLK.out (by rw[HKWI.out];exact hm);subst he;have HNX:=O hnx;have hS2:=HSI.out _ ((Z.out _ hS1).trans hmk);clear hS1 hmk hm hnx j f r HX A K X HLK;go_wp2_with fail;refine⟨hS2,?_⟩;refine tna 17 (.int .i64 0) rfl hS2 ?_;refine wpAnyH_done (by kernel_rfl) ?_ _;clear hS2 Z HSI HLs HKIs HTs HQs HXs HQVs HATs;clear HCX;go_wp2
   go_roundw
   case rel=>exact⟨k+1,by omega,rfl,by go_num,HNX⟩
   case measure=>simp[intOf];omega
  ·obtain rfl:k=4:=by omega
   have HP:=O (o.fin HHH.1 HHH.2 (aA.refl aB wr));clear o HCI;go_wp2;go_ret;exact HP.out
theorem N5:Hid (∀w,(zeroValue 132).run Tryz.prog w=.ok .nilFunc w):=O fun w=>by kernel_rfl
theorem Oz:Hid (∀w,(zeroValue 22).run Tryz.prog w=.ok (.slice none 0 0) w):=O fun w=>by kernel_rfl
theorem JM(f:Nat->Value):Tryz.prog.built 90 [(0,.agg ((List.range 35).map f).toArray)]=some ((List.range 35).map f++[Value.int .i64 0]).toArray:=by kernel_rfl
theorem DZ(v:Value)(p:Pt)(d:p.sum.length=32)(w:World):(Instr.build 90 #[(0,.agg (aE v p).toArray)]).run Tryz.prog w=.ok (.agg (dR v p 0).toArray) w:=by
 refine run_build w 90 _ _ ?_;unfold dR;rw[Fv (aE v p) (aJ d)];exact JM _
theorem Tr.Ok.few(h:Tr.Ok S l t):t.ptr.addrs.length≤65536:=by
 have:=(iK h.pmay).1;omega
theorem LD(A:∀i,B i->i<N0):∀l,l≤3->N4 B S c N0 g q6 q7 q11 q4 q12 x l:=by
 intro l
 induction l with
 | zero =>
   intro C w v ps pv t a e h f y r z d j q;cases m:t.isHole with
   | true=>exact lY e h f pv t 0 a d j (.inl m)
   | false =>
     cases o:decide (x<t.ptr.birth) with
     | false=>exact lY e h f pv t 0 a d j (.inr o)
     | true=>exact DW e h f y (by omega) pv t a j d.few m (by rw[d.hole_eq,m]) o
 | succ l D =>
   intro C w v ps pv t a e h f y r z d j q;cases m:t.isHole with
   | true=>exact lY e h f pv t (l+1) a d j (.inl m)
   | false =>
     cases o:decide (x<t.ptr.birth) with
     | false=>exact lY e h f pv t (l+1) a d j (.inr o)
     | true=>exact DY e (by omega) (D (by omega)) A h f y pv t a r z d j q d.few m o
def lK(w:World)(ps:List Pt)(e:Ending)(w':World):Prop:=
 ∃(v:Value) (qs:List (Value×Pt)),e=.returned (.tuple #[v,.int .i64 0])/\qs.map (·.2)=ps/\w'.ownsRow w.heap.size 27 35 v ps.length (qs.flatMap fun x=>aE x.1 x.2)/\(∀x∈qs,PtV w' x.1 x.2/\∀i,x.1.ownBlock=some i->w.heap.size≤i/\v.ownBlock≠some i/\IsC w' i)/\aA aB w w'
theorem EN(hK:KI w c S B)(hg:w.heap[g]?=some (.cells #[.int .i64 x] 3 (0,0)))(pv:Value)(t:Tr)(ht:Tr.Ok S 3 t)(L:bC w B pv t.ptr)(hm:(thr (bF x) 3 t 0).length≤1000):Calls Tryz.prog 34 #[.pointer c,.agg (aE pv t.ptr).toArray,nwV g,owV] w (lK w ((thr (bF x) 3 t 0).map (·.1))):=by
 have HTR:=O ht;have HM:=O hm;have j:=O hK;have r:=O (fun i (e:B i)=>hK.lt e);have o:=O hg;have J:=O (lt_of_block hg);obtain⟨p,F⟩:∃p,t.ptr=p:=⟨_,rfl⟩
 have X:=O F;rw[F] at L ⊢;have m:=O L;have HRT:Hid (p.root=true):=O (by rw[←F];exact ht.root);have E:=aJ (v:=pv) L.pt.sum;have H:=aT L.pt;have D:=DZ pv p L.pt.sum;obtain⟨Q,q⟩:∃l,aE pv p=l:=⟨_,rfl⟩
 obtain⟨lc,A⟩:∃l,dR pv p 0=l:=⟨_,rfl⟩
 have HOP:Hid (∀u∈Q,u.oneCell'=true):=O (by rw[←q];exact H);have HPC:=O q;have HLC:=O A;rw[q] at E D ⊢;rw[A] at D;have HBP:=O D;have Y:=O (fun i z=>(L.off i z).2.lt);clear H q A L ht hK F hg hm D;have d:=lN w;go_in
 go_wp2_with ((with_reducible show WL _ _);refine bxL d 39 (.tmp 0) (#[.pointer c]) ?_)
 intro M w1 f d;replace m:=pK m f;replace j:=O (KI.keep0 j.out f);replace o:=O (f.blk o.out id);clear f
 go_wp2_with ((with_reducible show WL _ _);refine bxL d 27 (.tmp 1) (Q.toArray) ?_)
 intro b5 w2 f d;replace m:=pK m f;replace j:=O (KI.keep0 j.out f);replace o:=O (f.blk o.out id);clear f
 go_wp2_with ((with_reducible show WL _ _);refine bxL d 85 (.tmp 2) (#[nwV g]) ?_)
 intro b6 w3 f d;replace m:=pK m f;replace j:=O (KI.keep0 j.out f);replace o:=O (f.blk o.out id);clear f
 go_wp2_with ((with_reducible show WL _ _);refine bxL d 87 (.tmp 3) (#[owV]) ?_)
 intro b7 w4 f d;replace m:=pK m f;replace j:=O (KI.keep0 j.out f);replace o:=O (f.blk o.out id);clear f;have c1:w4.cell? ⟨M,0,none⟩=some (.pointer c):=(aC (i:=0) (d.b 3) rfl)
 go_wp2_with ((with_reducible show WL _ _);first
  | refine wpList_load_mid rfl 27 (.tmp 5) rfl b5 0 rfl Q _ (aD (d.b 2)) aH rfl (szP9 E) ?_
  | refine bsA 22 27 (.tmp 15) Tryz.underlying22 oF (by omega) Q E (by omega) ?_)
 clear c1;intro b16 w5 hbs f C;replace d:=lW d hbs f C;replace m:=pK m f;replace j:=O (KI.keep0 j.out f);replace o:=O (f.blk o.out id);clear hbs f C;go_wp2_with fail;refine((wX j.out pv p m.pt HRT.out (by rw[HPC.out];exact d.b 0):Calls _ _ _ w5 (aN w5 (.int .i64 0)))).mono ?_;rintro e w6 ⟨rfl,f⟩;replace d:=kL d f;replace m:=pK m f;replace j:=O (KI.keep0 j.out f);replace o:=O (f.blk o.out id);clear f
 go_wp2_with ((with_reducible show WL _ _);refine alL d 22 (.slice none 0 0) (#[.slice none 0 0]) Oz ?_)
 intro b11 w7 f d;replace m:=pK m f;replace j:=O (KI.keep0 j.out f);replace o:=O (f.blk o.out id);clear f
 go_wp2_with ((with_reducible show WL _ _);refine alL d 132 (.nilFunc) (#[.nilFunc]) N5 ?_)
 intro b12 w8 f d;replace m:=pK m f;replace j:=O (KI.keep0 j.out f);replace o:=O (f.blk o.out id);clear f
 go_wp2_with ((with_reducible show WL _ _);refine sta 132 (.tmp 12) (.tmp 21) b12 0 ([dnV b6 b7 b11 M b12]) (d.b 0) (by simp) (by kernel_rfl) (one9) ?_)
 intro G f C;replace C:G.heap[b12]?=some (.cells #[dnV b6 b7 b11 M b12] 132 (0,0)):=C;replace d:=O (d.set 0 f C);replace m:=O (m.keepT f fun i z e=>by have I:=Y.out i z;have N:=(d.lt 0).1;omega);replace j:=O (j.keepT f fun i e C=>by have I:=r.out i C;have N:=(d.lt 0).1;omega);replace o:=O (f.blk o.out fun e=>by have I:=J.out;have N:=(d.lt 0).1;omega);clear f C;obtain⟨N0,hN0⟩:∃n,G.heap.size=n:=⟨_,rfl⟩
 have hg_:g<G.heap.size:=Nat.lt_of_lt_of_le J.out d.keep.size;have hB0:∀i,B i->i<N0:=fun i e=>by have I:=r.out i e;have N:=d.keep.size;omega
 have hT0:Thr B N0 c g x b6 b7 b11 M b12 G:=⟨o.out,d.b 4,d.b 3,d.b 6,d.b 0,fun i z=>by
  have g6:=d.lt 4;have g7:=d.lt 3;have g4:=d.lt 6;have g12:=d.lt 0;have g11:=d.lt 1;have gg:=J.out;have n6:b11≠b6:=bJ d.nd (i:=4) rfl 1 (by decide) rfl;have n7:b11≠b7:=bJ d.nd (i:=3) rfl 1 (by decide) rfl;have n4:b11≠M:=bJ d.nd (i:=6) rfl 1 (by decide) rfl;have n12:b11≠b12:=bJ d.nd (i:=0) rfl 1 (by decide) rfl;rcases z with rfl|rfl|rfl|rfl|rfl<;>omega,⟨by have g11:=d.lt 1;omega,fun e=>by have I:=r.out _ e;have g11:=d.lt 1;omega⟩⟩
 have W:Hid (jV N0 b11 G (.slice none 0 0) []):=O ⟨d.b 1,World.ownsRow_nil _ _ _ _,fun x hx=>by cases hx⟩;have HT:=O hT0;have HB0:=O hB0;have K:=O hN0;have Z:Hid (∀i,pv.ownBlock=some i->i≠b11/\(Value.slice none 0 0).ownBlock≠some i):=O (fun i z=>⟨fun e=>by have I:=Y.out i z;have N:=(d.lt 1).1;omega,fun e=>by cases e⟩);clear hg_ hB0 hT0 hN0;have U:=O d.keep.size;have c1:G.cell? ⟨b12,0,none⟩=some (dnV b6 b7 b11 M b12):=(aC (i:=0) (d.b 0) rfl)
 go_wp2_with ((with_reducible show WL _ _);first
  | refine wpList_load_mid rfl 27 (.tmp 5) rfl b5 0 rfl Q _ (aD (d.b 5)) aH rfl (szP9 E) ?_
  | refine bld 90 #[(0,.tmp 23)] [(0,.agg Q.toArray)] (.agg lc.toArray) HBP.out ?_)
 clear c1;have V:Hid (w.heap.size≤N0):=O (by have I:=K.out;have N:=U.out;omega);refine((by rw[←HLC.out,←X.out];exact LD HB0.out 3 (by omega) G (.slice none 0 0) [] pv t 0 j.out HT.out W.out (by have I:=K.out;have N:=d.keep.size;omega) (by rw[List.length_nil,Nat.zero_add];exact HM.out) (by decide) HTR.out (by rw[X.out];exact m.out) Z.out:Calls _ _ _ G (qA N0 b11 x 3 t 0 (.slice none 0 0) [] G))).mono ?_;rintro e wa ⟨v,qs,rfl,P,hq,-,f⟩;have R:=O (cell_of_one P.cell)
 have HP:Hid (lK w ((thr (bF x) 3 t 0).map (·.1)) (.returned (.tuple #[v,.int .i64 0])) wa):=O (by
  have hsz:=d.keep.size;have hn:=K.out;have hr:=P.row;rw[List.nil_append] at hr;refine⟨v,qs,rfl,hq,?_,fun y hy=>⟨(P.at_ y hy).1,fun i z=>⟨?_,((P.at_ y hy).2 i z).2⟩⟩,d.keep.trans' f (fun _ _ h=>h) (fun i z e=>?_)⟩
  ·rw[←hq,List.length_map]
   exact aQ hr V.out
  ·exact Nat.le_trans V.out ((P.at_ y hy).2 i z).1
  ·rcases e with e|e
   ·have I:=(d.lt 1).1;omega
   ·cases e)
 clear d HT W j m P hq f;have c1:wa.cell? ⟨b11,0,none⟩=some (v):=R.out;go_wp2_with fail;clear c1
 go_ret2
 exact HP.out
theorem Nc(h:Tr.Ok S 3 t):(thr (bF x) 3 t 0).length≤1000:=by
 have q:∀{l:Nat}{t:Tr}{a:Nat},(thr (bF x) l t a).length≤2*4 ^ l-1:=by
  intro l
  induction l with
  | zero=>intro t a;rw[gZ];split<;>simp
  | succ l d =>
    intro t a;rw[hE];split
    ·simp
    ·have h0:=d (t:=t.kid 0) (a:=a+0*4 ^ l);have e:=d (t:=t.kid 1) (a:=a+1*4 ^ l);have f:=d (t:=t.kid 2) (a:=a+2*4 ^ l);have i:=d (t:=t.kid 3) (a:=a+3*4 ^ l)
     rw[List.length_cons,show List.range 4=[0,1,2,3] from rfl];simp only[List.flatMap_cons,List.flatMap_nil,List.append_nil,List.length_append];have j:0<4 ^ l:=Nat.pos_of_ne_zero (by simp);rw[Nat.pow_succ];omega
 have:=q (l:=3) (t:=t) (a:=0);omega
theorem D1(X:KI w c S B)(pv:Value)(t:Tr)(U:Tr.Ok S 3 t)(M:bC w B pv t.ptr):Calls Tryz.prog 15 #[.pointer c,.agg (aE pv t.ptr).toArray] w (lK w (fX 3 t)):=by
 have K:=O U;have N:Hid ((thr (bF 0) 3 t 0).map (·.1)=fX 3 t):=O (by rw[Ag U];rfl);have d:=O X;obtain⟨p,D⟩:∃p,t.ptr=p:=⟨_,rfl⟩
 have I:=O D;rw[D] at M ⊢;have f:=O M;obtain⟨W,H,Q,HOP⟩:=nmPt M.pt;rw[H.out];clear M U X D;have o:=lN w;go_in
 go_wp2_with ((with_reducible show WL _ _);refine bxL o 27 (.tmp 1) (W.toArray) ?_)
 intro b3 w1 m o;replace f:=pK f m;replace d:=O (KI.keep0 d.out m);clear m;go_wp2_with fail;refine dwA aB (by kernel_rfl) ?_;intro w2 S q A L z;replace o:=kL o z;replace f:=pK f z;replace d:=O (KI.keep0 d.out z);clear z;have G:=o;have J:=f;have F:=d;refine tna 0 (.pointer c) rfl L ?_;refine tnd 1 (.agg W.toArray) rfl (yieldsIf_load_mid (by rfl) 27 (.tmp 3) rfl b3 0 rfl W _ (fun w' h=>aD ((q.out w' h).blk (G.b 0) id)) aH rfl (szP9 Q)) L ?_;refine wA9 2 ?_;go_wp2_with fail;refine((BJ w2 0)).mono ?_;rintro e w3 ⟨g,rfl,Y,-,m⟩;have E:=O Y;clear Y;have C:=A.out _ ((q.out _ L).trans m);replace o:=kL o m;replace f:=pK f m;replace d:=O (KI.keep0 d.out m);clear L m;go_wp2_with fail;refine⟨C,?_⟩;refine wA9 3 ?_;go_wp2_with fail;refine((by rw[←H.out,←I.out];exact EN d.out E.out pv t K.out (by rw[I.out];exact f.out) (Nc K.out):Calls _ _ _ w3 (lK w3 ((thr (bF 0) 3 t 0).map (·.1))))).mono ?_;rintro e w4 ⟨v,qs,rfl,R,P,r,m⟩
 have HP:Hid (lK w (fX 3 t) (.returned (.tuple #[v,.int .i64 0])) w4):=O (by
  rw[N.out] at R P;exact⟨v,qs,rfl,R,aQ P o.keep.size,fun y V=>⟨(r y V).1,fun i Z=>⟨Nat.le_trans o.keep.size ((r y V).2 i Z).1,((r y V).2 i Z).2⟩⟩,o.keep.trans m⟩)
 have j:=A.out _ ((q.out _ C).trans m);clear C m R P r o d f E;go_wp2_with fail;refine⟨j,?_⟩;refine tnb 4 v rfl j ?_;refine tnb 5 (.int .i64 0) rfl j ?_;refine tna 6 v rfl j ?_;refine tna 7 (.int .i64 0) rfl j ?_;refine wpAnyH_done (by kernel_rfl) ?_ _;clear j q A G J F;go_wp2
 go_ret2
 exact HP.out
abbrev bkV:Value:=.func (.func 38) #[] #[]
abbrev dbV(e b7 b11 d b12:Nat):Value:=.func (.func 69) #[] #[.pointer e,.pointer b7,.pointer b11,.pointer d,.pointer b12]
def bks(f:Pt->Bool):Nat->Tr->Nat->List Nat
 | 0,t,a=>if t.isHole || !f t.ptr then [] else [a]
 | l+1,t,a=>if t.isHole || !f t.ptr then [] else (List.range 4).flatMap fun i=>bks f l (t.kid i) (a+i*4 ^ l)
theorem yE(f:Pt->Bool)(t:Tr)(a:Nat):bks f 0 t a=if t.isHole || !f t.ptr then [] else [a]:=rfl
theorem yF(f:Pt->Bool)(l:Nat)(t:Tr)(a:Nat):bks f (l+1) t a=if t.isHole || !f t.ptr then [] else (List.range 4).flatMap fun i=>bks f l (t.kid i) (a+i*4 ^ l):=rfl
theorem LE(h:t.isHole=true\/decide (x<t.ptr.birth)=false):bks (bF x) l t a=[]:=by
 have e:(t.isHole || !bF x t.ptr)=true:=by
  rcases h with h|h
  ·rw[h];rfl
  ·show (t.isHole || !(decide (x<t.ptr.birth)))=true
   rw[h];simp
 cases l with
 | zero=>rw[yE,if_pos e]
 | succ l=>rw[yF,if_pos e]
theorem Nd(d:t.isHole=false)(e:decide (x<t.ptr.birth)=true):bks (bF x) 0 t a=[a]:=by
 rw[yE,d];exact if_neg (by show ¬(false || !(decide (x<t.ptr.birth)))=true;rw[e];decide)
theorem D2{f:Pt->Bool}(e:t.isHole=false)(d:f t.ptr=true):bks f (l+1) t a=(List.range 4).flatMap fun i=>bks f l (t.kid i) (a+i*4 ^ l):=by
 rw[yF,e,d];rfl
def yG(ns:List Nat):List Value:=ns.map fun(i:Nat)=>Value.int .i64 (i:Int)
structure ThB(B:Nat->Prop)(N0 c g:Nat)(x:Int)(b6 b7 b11 b4 b12:Nat)(w:World):Prop where
 cg:w.heap[g]?=some (.cells #[.int .i64 x] 3 (0,0))
 c6:w.heap[b6]?=some (.cells #[nwV g] 85 (0,0))
 c7:w.heap[b7]?=some (.cells #[bkV] 91 (0,0))
 c4:w.heap[b4]?=some (.cells #[.pointer (some ⟨c,0,none⟩)] 39 (0,0))
 c12:w.heap[b12]?=some (.cells #[dbV b6 b7 b11 b4 b12] 132 (0,0))
 lt:∀i,i=g\/i=b6\/i=b7\/i=b4\/i=b12->i<N0/\i≠b11
 l11:b11<N0/\¬B b11
theorem ThB.keep{T:Nat->Prop}{f d:Nat}(h:ThB B N0 c g x f b7 b11 d b12 w)(k:aA T w w')(m:∀i,T i->i=b11\/N0≤i):ThB B N0 c g x f b7 b11 d b12 w':=by
 have q:∀i,i=g\/i=f\/i=b7\/i=d\/i=b12->¬T i:=fun i o e=>by
  obtain⟨r,j⟩:=h.lt i o;exact(m i e).elim j fun v=>by omega
 exact⟨k.blk h.cg (q _ (.inl rfl)),k.blk h.c6 (q _ (.inr (.inl rfl))),k.blk h.c7 (q _ (.inr (.inr (.inl rfl)))),k.blk h.c4 (q _ (.inr (.inr (.inr (.inl rfl))))),k.blk h.c12 (q _ (.inr (.inr (.inr (.inr rfl))))),h.lt,h.l11⟩
structure mW(N0 b11:Nat)(w:World)(v:Value)(ns:List Nat):Prop where
 cell:w.heap[b11]?=some (.cells #[v] 42 (0,0))
 row:w.ownsRow N0 3 1 v ns.length (yG ns)
theorem mW.keep{T:Nat->Prop}{v:Value}(h:mW N0 b11 w v ns)(k:aA T w w')(d:¬T b11)(e:∀i,v.ownBlock=some i->¬T i):mW N0 b11 w' v ns:=⟨k.blk h.cell d,k.owns h.row e⟩
theorem mW.keep0{v:Value}(h:mW N0 b11 w v ns)(k:aA aB w w'):mW N0 b11 w' v ns:=h.keep k id fun _ _=>id
def qB(N0 b11:Nat)(x:Int)(l:Nat)(t:Tr)(a:Nat)(v:Value)(ns:List Nat)(w:World)(e:Ending)(w':World):Prop:=
 ∃d,e=.returned (.int .i64 0)/\mW N0 b11 w' d (ns++bks (bF x) l t a)/\(∀i,d.ownBlock=some i->v.ownBlock=some i\/w.heap.size≤i)/\aA (fun i=>i=b11\/v.ownBlock=some i) w w'
def N6(B:Nat->Prop)(S:Kor)(c N0 g q6 q7 q11 q4 q12:Nat)(x:Int)(l:Nat):Prop:=∀(w:World) (v:Value) (ns:List Nat) (pv:Value) (t:Tr) (a:Nat),KI w c S B->ThB B N0 c g x q6 q7 q11 q4 q12 w->mW N0 q11 w v ns->N0≤w.heap.size->ns.length+(bks (bF x) l t a).length≤1000->a+4 ^ l≤64->Tr.Ok S l t->bC w B pv t.ptr->(∀i,pv.ownBlock=some i->i≠q11/\v.ownBlock≠some i) ->
 Calls Tryz.prog 69 #[.agg (dR pv t.ptr (a:Int)).toArray,.int .i64 (l:Int),.pointer q6,.pointer q7,.pointer q11,.pointer q4,.pointer q12] w (qB N0 q11 x l t a v ns w)
structure tH(w:World)(B:Nat->Prop)(S:Kor)(c N0 g q6 q7 q11 q4 q12:Nat)(x:Int)(b7 b12 l:Nat)(t:Tr)(a:Nat)(pv v:Value)(ns:List Nat)(vs:Nat->Value)(k:Nat)(wr:World)(vk:Value):Prop where
 ki:KI wr c S B
 th:ThB B N0 c g x q6 q7 q11 q4 q12 wr
 out:mW N0 q11 wr vk (ns++(List.range k).flatMap fun i=>bks (bF x) l (t.kid i) (a+i*4 ^ l))
 old:cI wr B vs (fun i=>(t.kid i).ptr)
 off:∀q,q<4->∀i,(vs q).ownBlock=some i->i≠q11/\vk.ownBlock≠some i
 h7:wr.heap[b7]?=some (.cells (dR pv t.ptr (a:Int)).toArray 90 (0,0))
 h12:wr.heap[b12]?=some (.cells (cH ((l+1:Nat):Int) vs (fun i=>(t.kid i).ptr)).toArray 98 (0,0))
 own:∀i,vk.ownBlock=some i->(v.ownBlock=some i\/w.heap.size≤i)/\i≠b7/\i≠b12
 ge:N0≤b7/\N0≤b12/\N0≤w.heap.size
 keep:aA (fun i=>i=q11\/v.ownBlock=some i) w wr
theorem Nf{α:Type}(f:Nat->List α)(h:k<4):((List.range k).flatMap f).length+(f k).length≤((List.range 4).flatMap f).length:=by
 have d:((List.range (k+1)).flatMap f).length≤((List.range 4).flatMap f).length:=by
  have:∃r,(List.range 4)=List.range (k+1)++r:=by
   have:k=0\/k=1\/k=2\/k=3:=by omega
   rcases this with rfl|rfl|rfl|rfl<;>exact⟨_,rfl⟩
  obtain⟨r,e⟩:=this;rw[e,List.flatMap_append,List.length_append];omega
 rw[List.range_succ,List.flatMap_append,List.length_append] at d
 simpa only[List.flatMap_cons,List.flatMap_nil,List.append_nil] using d
theorem tH.len{v:Value}
 (h:tH w B S c N0 g q6 q7 q11 q4 q12 x b7 b12 l t a pv v ns vs k wr vk) (f:k<4) (j:ns.length+(bks (bF x) (l+1) t a).length≤1000) (e:t.isHole=false) (d:bF x t.ptr=true):(ns++(List.range k).flatMap fun i=>bks (bF x) l (t.kid i) (a+i*4 ^ l)).length+(bks (bF x) l (t.kid k) (a+k*4 ^ l)).length≤1000:=by
 rw[D2 e d] at j;have:=Nf (fun i=>bks (bF x) l (t.kid i) (a+i*4 ^ l)) f;rw[List.length_append];omega
theorem tH.step{v:Value}{D r:World}{e:Ending}
 (h:tH w B S c N0 g q6 q7 q11 q4 q12 x b7 b12 l t a pv v ns vs k wr vk) (K:∀i,B i->i<N0) (A:aA aB wr D) (N:qB N0 q11 x l (t.kid k) (a+k*4 ^ l) vk (ns++(List.range k).flatMap fun i=>bks (bF x) l (t.kid i) (a+i*4 ^ l)) D e r):e=.returned (.int .i64 0)/\aA (fun i=>i=q11\/vk.ownBlock=some i) D r/\∃C,tH w B S c N0 g q6 q7 q11 q4 q12 x b7 b12 l t a pv v ns vs (k+1) r C:=by
 obtain⟨C,L,H,I,G⟩:=N;have m:∀i,vk.ownBlock=some i->N0≤i:=fun i d=>aU h.out.row d
 have y:=h.th.l11;have f:aA (fun i=>i=q11\/vk.ownBlock=some i) wr r:=A.trans' G (fun _ _ h=>h.elim) (fun _ _ h=>h);have z:∀i,(∃q,q<4/\(vs q).ownBlock=some i)->i<wr.heap.size:=fun i ⟨q,j,d⟩=>((h.old q j).off i d).2.lt
 have J:=lt_of_block h.h7;have E:=lt_of_block h.h12;have M:=h.ge
 have o:∀q,q<4->∀i,(vs q).ownBlock=some i->¬(i=q11\/vk.ownBlock=some i):=fun q j i d e=>by
  have:=h.off q j i d;exact e.elim this.1 this.2
 refine⟨L,G,C,h.ki.keepT f fun i d F=>?_,h.th.keep f fun i d=>d.imp id (m i),?_,h.old.keepT f o,fun q j i d=>⟨(h.off q j i d).1,fun e=>?_⟩,f.blk h.h7 fun e=>?_,f.blk h.h12 fun e=>?_,fun i d=>?_,M,h.keep.trans' f (fun _ _ h=>h) fun i d e=>?_⟩
 ·rcases d with rfl|d
  ·exact y.2 F
  ·have:=m i d;have:=K i F;omega
 ·rw[List.append_assoc] at H
  rw[List.range_succ,List.flatMap_append]
  simpa only[List.flatMap_cons,List.flatMap_nil,List.append_nil] using H
 ·rcases I i e with e|e
  ·exact(h.off q j i d).2 e
  ·have:=z i ⟨q,j,d⟩;have:=A.size;omega
 ·rcases e with e|e
  ·omega
  ·exact(h.own _ e).2.1 rfl
 ·rcases e with e|e
  ·omega
  ·exact(h.own _ e).2.2 rfl
 ·rcases I i d with e|e
  ·exact h.own i e
  ·have:=A.size;have:=h.keep.size
   exact⟨.inr (by omega),by omega,by omega⟩
 ·rcases e with e|e
  ·exact .inl e
  ·exact(h.own i e).1.elim .inr fun e=>absurd d (by omega)
theorem tH.fin{v:Value}
 (h:tH w B S c N0 g q6 q7 q11 q4 q12 x b7 b12 l t a pv v ns vs 4 wr vk) (f:t.isHole=false) (d:bF x t.ptr=true) (k:aA aB wr w'):qB N0 q11 x (l+1) t a v ns w (.returned (.int .i64 0)) w':=
 ⟨vk,rfl,by rw[D2 f d];exact h.out.keep0 k,fun i j=>(h.own i j).1,h.keep.trans' k (fun _ _ h=>h) (fun _ _ e=>e.elim)⟩
theorem Ng:(bks (bF x) 3 t 0).length≤64:=by
 have q:∀{l:Nat}{t:Tr}{a:Nat},(bks (bF x) l t a).length≤4 ^ l:=by
  intro l
  induction l with
  | zero=>intro t a;rw[yE];split<;>simp
  | succ l d =>
    intro t a;rw[yF];split
    ·simp
    ·have h0:=d (t:=t.kid 0) (a:=a+0*4 ^ l);have e:=d (t:=t.kid 1) (a:=a+1*4 ^ l);have f:=d (t:=t.kid 2) (a:=a+2*4 ^ l);have h:=d (t:=t.kid 3) (a:=a+3*4 ^ l)
     rw[show List.range 4=[0,1,2,3] from rfl];simp only[List.flatMap_cons,List.flatMap_nil,List.append_nil,List.length_append];rw[Nat.pow_succ];omega
 exact q (l:=3)
theorem OH:Hid (∀w,(zeroValue 42).run Tryz.prog w=.ok (.slice none 0 0) w):=O fun w=>by kernel_rfl
theorem LF:(Tryz.prog.info? 3).map (fun i=>(i.zero,i.size,i.bytes))=some (some (.int .i64 0),1,8):=by kernel_rfl
theorem N7{b:Nat}{v:Value}{a:Int}{t:TypeId}(h:w.heap[b]?=some (.cells (dR v p a).toArray t fr)):w.cell? ⟨b,2,none⟩=some (.int .i64 p.level):=aC h rfl
def wB(w:World)(p:Pt)(a:Nat)(e:Ending)(w':World):Prop:=e=.returned (.tuple #[.int .i64 (a:Int),.bool (decide (p.level=0))])/\aA aB w w'
theorem BQ(w:World)(pv:Value)(p:Pt)(z:PtV w pv p)(a:Nat):Calls Tryz.prog 38 #[.agg (dR pv p (a:Int)).toArray] w (wB w p a):=by
 have E:=O z.sum;have F:=jS (v:=pv) (a:=(a:Int)) z.sum;have f:=jT (a:=(a:Int)) z;obtain⟨G,d⟩:∃l,dR pv p (a:Int)=l:=⟨_,rfl⟩
 have H:Hid (∀u∈G,u.oneCell'=true):=O (by rw[←d];exact f);have r:=O d;rw[d] at F ⊢;obtain⟨lv,o⟩:∃x,p.level=x:=⟨_,rfl⟩
 have A:=O o;have C:Hid (∀w',aA aB w w'->wB w p a (.returned (.tuple #[.int .i64 (a:Int),.bool (decide (lv=0))])) w'):=O fun w' k=>by rw[←o];exact⟨rfl,k⟩
 have J:(lv == 0)=decide (lv=0):=by rw[Bool.eq_iff_iff];simp
 have i:=lN w;clear f d z o;go_in
 go_wp2_with ((with_reducible show WL _ _);refine bxL i 90 (.tmp 0) (G.toArray) ?_)
 intro b1 L K i;clear K;go_wp2_with fail;refine dwA aB (by kernel_rfl) ?_;intro M S m D e y;replace i:=kL i y;clear y;have j:=i;refine tnb 0 (.pointer (some ⟨b1,35,none⟩)) rfl e ?_;refine tnd 1 (.int .i64 (a:Int)) rfl (.inl ⟨by rfl,fun w' q=>by have c:World.cell? w' ⟨b1,35,none⟩=some (.int .i64 (a:Int)):=(G9 E.out (by have h:=((m.out w' q).blk (j.b 0) id);rw[←r.out] at h;exact h));go_simp⟩) e ?_;refine tnb 2 (.pointer b1) rfl e ?_;refine tnb 3 (.pointer (some ⟨b1,2,none⟩)) rfl e ?_;refine tnd 4 (.int .i64 lv) rfl (.inl ⟨by rfl,fun w' q=>by have c:World.cell? w' ⟨b1,2,none⟩=some (.int .i64 lv):=(by have h:=N7 (by have h:=((m.out w' q).blk (j.b 0) id);rw[←r.out] at h;exact h:_=some (Obj.cells (dR pv p (a:Int)).toArray _ _));rw[A.out] at h;exact h);go_simp⟩) e ?_;refine tnd 5 (.bool (decide (lv=0))) rfl (.inl ⟨by rfl,fun _ _=>by go_simp⟩) e ?_;refine tna 6 (.int .i64 (a:Int)) rfl e ?_;refine tna 7 (.bool (decide (lv=0))) rfl e ?_;refine wpAnyH_done (by kernel_rfl) ?_ _;clear e m D j;have I:=C.out _ i.keep;clear i;go_wp2
 go_ret2
 exact I
theorem nK(X:KI w c S B)(Z:ThB B N0 c g x q6 q7 q11 q4 q12 w){v:Value}(Y:mW N0 q11 w v ns)(pv:Value)(t:Tr)(l a:Nat)(ht:Tr.Ok S l t)(C:bC w B pv t.ptr)(K:t.isHole=true\/decide (x<t.ptr.birth)=false):Calls Tryz.prog 69 #[.agg (dR pv t.ptr (a:Int)).toArray,.int .i64 (l:Int),.pointer q6,.pointer q7,.pointer q11,.pointer q4,.pointer q12] w (qB N0 q11 x l t a v ns w):=by
 have r:=O Z;have q:=O Y;have W:=O X;have G:=O (LE (a:=a) (l:=l) K);have H:=O ht.hole_eq;obtain⟨p,F⟩:∃p,t.ptr=p:=⟨_,rfl⟩
 have HPE:=O F;rw[F] at C K H ⊢;have d:=O C;have E:=aJ (v:=pv) C.pt.sum;have A:=aT C.pt;have R:=jS (v:=pv) (a:=(a:Int)) C.pt.sum;have z:=jT (a:=(a:Int)) C.pt;have HSM:=O C.pt.sum;obtain⟨U,m⟩:∃l,aE pv p=l:=⟨_,rfl⟩
 obtain⟨lc,j⟩:∃l,dR pv p (a:Int)=l:=⟨_,rfl⟩
 have HOP:Hid (∀u∈U,u.oneCell'=true):=O (by rw[←m];exact A);have HOL:Hid (∀u∈lc,u.oneCell'=true):=O (by rw[←j];exact z);have y:=O m;have I:=O j;rw[m] at E;rw[j] at R ⊢;have HS:=O K;clear A z m j C Z Y X ht K F;have o:=lN w;go_in
 go_wp2_with ((with_reducible show WL _ _);refine bxL o 90 (.tmp 0) (lc.toArray) ?_)
 intro b7 V f o;replace d:=pK d f;replace r:=O (r.keep f fun _ e=>e.elim);replace q:=O (q.keep0 f);clear f
 go_wp2_with ((with_reducible show WL _ _);refine wpList_load_mid rfl 27 (.tmp 15) rfl b7 0 rfl U _ (by have h:=o.b 0;rw[←I.out] at h;rw[←y.out];exact eM h) aH rfl (szP9 E) ?_)
 refine((by rw[←y.out];exact cL V pv p d.pt:Calls _ _ _ V (aX V p.hole))).mono ?_;rintro e L ⟨rfl,f⟩;replace o:=kL o f;replace d:=pK d f;replace r:=O (r.keep f fun _ e=>e.elim);replace q:=O (q.keep0 f);clear f;obtain⟨Q,D⟩:∃b,p.hole=b:=⟨_,rfl⟩
 rw[D];have M:=O D;clear D;cases Q with
 | true =>
   have P:Hid (qB N0 q11 x l t a v ns w (.returned (.int .i64 0)) L):=O ⟨v,rfl,by rw[G.out,List.append_nil];exact q.out,fun i h=>.inl h,o.keep.any⟩;clear o r q d W;go_wp2;go_ret;exact P.out
 | false =>
   have J:=HS.resolve_left (by rw[←H.out,M.out];decide);have N:=O J;clear J;have c1:L.cell? ⟨q6,0,none⟩=some (nwV g):=(cell_of_one r.c6)
   go_wp2_with ((with_reducible show WL _ _);refine aP (by rfl) 27 (.tmp 20) rfl b7 0 rfl U _ (by have h:=o.b 0;rw[←I.out] at h;rw[←y.out];exact eM h) aH rfl (szP9 E) ?_)
   clear c1;refine((by rw[←y.out];exact kI r.cg pv p d.pt:Calls _ _ _ L (aX L (decide (x<p.birth))))).mono ?_;rintro e w3 ⟨rfl,f⟩;replace o:=kL o f;replace d:=pK d f;replace r:=O (r.keep f fun _ e=>e.elim);replace q:=O (q.keep0 f);clear f;rw[N.out];have P:Hid (qB N0 q11 x l t a v ns w (.returned (.int .i64 0)) w3):=O ⟨v,rfl,by rw[G.out,List.append_nil];exact q.out,fun i h=>.inl h,o.keep.any⟩;clear o r q d W;go_wp2;go_ret;exact P.out
theorem EO(hK:KI w c S B)(hT:ThB B N0 c g x q6 q7 q11 q4 q12 w){v:Value}(hO:mW N0 q11 w v ns)(hN:N0≤w.heap.size)(pv:Value)(t:Tr)(a:Nat)(hns:ns.length≤1000)(ha:a≤64)(ht:Tr.Ok S 0 t)(G:bC w B pv t.ptr)(hpo:∀i,pv.ownBlock=some i->i≠q11/\v.ownBlock≠some i)(hh:t.isHole=false)(hn:decide (x<t.ptr.birth)=true):Calls Tryz.prog 69 #[.agg (dR pv t.ptr (a:Int)).toArray,.int .i64 0,.pointer q6,.pointer q7,.pointer q11,.pointer q4,.pointer q12] w (qB N0 q11 x 0 t a v ns w):=by
 have J:t.ptr.hole=false:=by rw[ht.hole_eq,hh]
 have HEQ:=O (Nd (a:=a) hh hn);have o:=O hT;have m:=O hO;have HNN:=O hN;have HNS:=O hns;have HAA:=O ha;have y:t.ptr.level=0:=(ht.born hh).2.2;obtain⟨p,N⟩:∃p,t.ptr=p:=⟨_,rfl⟩
 have HPE:=O N;rw[N] at G J hn y ⊢;have f:=O G;have M:=aJ (v:=pv) G.pt.sum;have D:=aT G.pt;have Z:=jS (v:=pv) (a:=(a:Int)) G.pt.sum;have C:=jT (a:=(a:Int)) G.pt;have HSM:=O G.pt.sum;obtain⟨pc,r⟩:∃l,aE pv p=l:=⟨_,rfl⟩
 obtain⟨lc,q⟩:∃l,dR pv p (a:Int)=l:=⟨_,rfl⟩
 have HOP:Hid (∀u∈pc,u.oneCell'=true):=O (by rw[←r];exact D);have HOL:Hid (∀u∈lc,u.oneCell'=true):=O (by rw[←q];exact C);have A:=O r;have H:=O q;rw[r] at M;rw[q] at Z ⊢;have HHP:=O J;have HN1:=O hn;have U:=O y;clear D C r q G hT hO hh J hn hN hns N hK ht y ha hpo;have j:=lN w;go_in
 go_wp2_with ((with_reducible show WL _ _);refine bxL j 90 (.tmp 0) (lc.toArray) ?_)
 intro b7 w1 d j;replace f:=pK f d;replace o:=O (o.keep d fun _ e=>e.elim);replace m:=O (m.keep0 d);clear d
 go_wp2_with ((with_reducible show WL _ _);refine wpList_load_mid rfl 27 (.tmp 15) rfl b7 0 rfl pc _ (by have h:=j.b 0;rw[←H.out] at h;rw[←A.out];exact eM h) aH rfl (szP9 M) ?_)
 refine((by rw[←A.out];exact cL w1 pv p f.pt:Calls _ _ _ w1 (aX w1 p.hole))).mono ?_;rintro e w2 ⟨rfl,d⟩;replace j:=kL j d;replace f:=pK f d;replace o:=O (o.keep d fun _ e=>e.elim);replace m:=O (m.keep0 d);clear d;rw[HHP.out];have c1:w2.cell? ⟨q6,0,none⟩=some (nwV g):=(cell_of_one o.c6)
 go_wp2_with ((with_reducible show WL _ _);refine aP (by rfl) 27 (.tmp 20) rfl b7 0 rfl pc _ (by have h:=j.b 0;rw[←H.out] at h;rw[←A.out];exact eM h) aH rfl (szP9 M) ?_)
 clear c1;refine((by rw[←A.out];exact kI o.cg pv p f.pt:Calls _ _ _ w2 (aX w2 (decide (x<p.birth))))).mono ?_;rintro e w3 ⟨rfl,d⟩;replace j:=kL j d;replace f:=pK f d;replace o:=O (o.keep d fun _ e=>e.elim);replace m:=O (m.keep0 d);clear d;rw[HN1.out];have c1:w3.cell? ⟨q7,0,none⟩=some (bkV):=(cell_of_one o.c7)
 go_wp2_with ((with_reducible show WL _ _);refine wpList_load_mid rfl 90 (.tmp 7) rfl b7 0 rfl lc _ (aD (j.b 0)) Tryz.underlying90 rfl (by rw[Z];exact wA) ?_)
 clear c1;refine((by rw[←H.out];exact BQ w3 pv p f.pt a:Calls _ _ _ w3 (wB w3 p a))).mono ?_;rintro e w4 ⟨rfl,d⟩;replace j:=kL j d;replace f:=pK f d;replace o:=O (o.keep d fun _ e=>e.elim);replace m:=O (m.keep0 d);clear d;rw[U.out,show decide ((0:Int)=0)=true from rfl];have c1:w4.cell? ⟨q11,0,none⟩=some (v):=(cell_of_one m.cell)
 go_wp2_with ((with_reducible show WL _ _);refine bs1 42 3 (.tmp 33) (.int .i64 (a:Int)) (by kernel_rfl) (by kernel_rfl) Tryz.underlying42 rfl ?_)
 clear c1;intro W w5 Y d F;have V:Hid (Rd w5 1 (.slice W 1 1) 1 [.int .i64 (a:Int)]):=O (dE (n:=1) (size:=1) F rfl (by unfold maxLen;omega));replace j:=lW j Y d F;replace f:=pK f d;replace o:=O (o.keep d fun _ e=>e.elim);replace m:=O (m.keep0 d);clear Y d F;have HLN:=O (show N0≤w5.heap.size from Nat.le_trans HNN.out j.keep.size);have E:Hid (ns.length+1≤maxLen/\(ns.length+1)*8≤140737488355328):=O (by have:=HNS.out;unfold maxLen;omega)
 go_wp2_with (at_builtin;refine aL rfl (.tmp 32) (.tmp 34) 42 rfl N0 3 (.int .i64 0) 1 8 Tryz.underlying42 LF rfl (by decide) v ns.length (yG ns) rfl m.row (.slice W 1 1) 1 [.int .i64 (a:Int)] rfl V.out (by intro u hu;rcases List.mem_singleton.1 hu with rfl;rfl) E.1 E.2 HLN.out ?_)
 intro v2 w8 L K hn5 X;obtain⟨g2,c2,rfl,-,-⟩:=(Rd.of_owns L).form;have P:=O (K.blk m.cell fun e=>by have h1:=aU m.row e;have h2:=o.l11.1;omega);have I:=O L;have Q:=O K;have HB5:=O X;have R:=O j.keep;have HOG:=O (fun i (z:v.ownBlock=some i)=>(aU m.row z:N0≤i));clear L K hn5 X V
 go_wp2_with ((with_reducible show WL _ (.store 42 _ _));refine sta 42 (.tmp 4) (.tmp 35) q11 0 [.slice g2 (ns.length+1) c2] P.out (by simp) (by kernel_rfl) (by intro u hu;rw[List.mem_singleton] at hu;subst hu;rfl) ?_)
 intro w9 d F;replace F:w9.heap[q11]?=some (.cells #[.slice g2 (ns.length+1) c2] 42 (0,0)):=F
 have HP:Hid (qB N0 q11 x 0 t a v ns w (.returned (.int .i64 0)) w9):=O (by
  have hge:=fun i (z:(Value.slice g2 (ns.length+1) c2).ownBlock=some i)=>aU I.out z
  refine⟨_,rfl,⟨F,?_⟩,fun i z=>?_,(R.any.trans' Q.out (fun _ _ h=>h) (fun i _ e=>.inr e)).trans' d (fun _ _ h=>h) (fun i _ e=>.inl e)⟩
  ·rw[HEQ.out,List.length_append]
   have e:yG (ns++[a])=yG ns++[.int .i64 (a:Int)]:=by unfold yG;rw[List.map_append];rfl
   rw[e];exact d.owns I.out fun i z e=>by have h1:=hge i z;have h2:=o.l11.1;omega
  ·rcases HB5.out with e|e
   ·exact .inl (e▸z)
   ·rw[e] at z
    injection z with z
    have:=R.size;exact .inr (by omega))
 clear j m o f d F Q I P;go_wp2;go_ret;exact HP.out
theorem EP(hK:KI w c S B)(hl2:l≤2)(IH:N6 B S c N0 g q6 q7 q11 q4 q12 x l)(hB:∀i,B i->i<N0)(hT:ThB B N0 c g x q6 q7 q11 q4 q12 w){v:Value}(hO:mW N0 q11 w v ns)(hN:N0≤w.heap.size)(pv:Value)(t:Tr)(a:Nat)(hps:ns.length+(bks (bF x) (l+1) t a).length≤1000)(ha:a+4 ^ (l+1)≤64)(ht:Tr.Ok S (l+1) t)(hp:bC w B pv t.ptr)(hpo:∀i,pv.ownBlock=some i->i≠q11/\v.ownBlock≠some i)(hh:t.isHole=false)(hn:decide (x<t.ptr.birth)=true):Calls Tryz.prog 69 #[.agg (dR pv t.ptr (a:Int)).toArray,.int .i64 ((l+1:Nat):Int),.pointer q6,.pointer q7,.pointer q11,.pointer q4,.pointer q12] w (qB N0 q11 x (l+1) t a v ns w):=by
 have hhp:t.ptr.hole=false:=by rw[ht.hole_eq,hh]
 have HIH:=O IH;have HBN:=O hB;have HTR:=O ht;have HPSL:=O hps;have HA:=O ha;have HPO:=O hpo;have Z:Hid (t.isHole=false/\bF x t.ptr=true):=O ⟨hh,hn⟩;have r:=O hT;have y:=O hO;have HNN:=O hN;have f:=O hK;have HVO0:Hid (∀i,v.ownBlock=some i->i<w.heap.size):=O fun i hi=>by (obtain⟨cur,hc⟩:=aO hO.row hi;exact lt_of_block hc)
 have X:t.ptr.level=((l+1:Nat):Int):=(ht.born hh).2.2;obtain⟨p,hpe⟩:∃p,t.ptr=p:=⟨_,rfl⟩
 have HPE:=O hpe;rw[hpe] at hp hhp hn X ⊢;have m:=O hp;have hpc:=aJ (v:=pv) hp.pt.sum;have HOP0:=aT hp.pt;have hlc:=jS (v:=pv) (a:=(a:Int)) hp.pt.sum;have HOL0:=jT (a:=(a:Int)) hp.pt;have HSM:=O hp.pt.sum;obtain⟨pc,H⟩:∃l,aE pv p=l:=⟨_,rfl⟩
 obtain⟨lc,F⟩:∃l,dR pv p (a:Int)=l:=⟨_,rfl⟩
 have HOP:Hid (∀u∈pc,u.oneCell'=true):=O (by rw[←H];exact HOP0);have HOL:Hid (∀u∈lc,u.oneCell'=true):=O (by rw[←F];exact HOL0);have J:=O H;have Q:=O F;rw[H] at hpc;rw[F] at hlc ⊢;have HHP:=O hhp;have HN1:=O hn;have HLEV:Hid (decide (p.level=0)=false):=O (decide_eq_false (by rw[X];omega));have hl0:(0:Int)≤((l+1:Nat):Int):=by omega
 have hlz:(((l:Int)+1) == 0)=false:=by rw[beq_eq_false_iff_ne];omega
 clear HOP0 HOL0 H F hp hT hO hh hhp hn hN hps hpe hK IH hB ht ha hpo X;have o:=lN w;go_in
 go_wp2_with ((with_reducible show WL _ _);refine bxL o 90 (.tmp 0) (lc.toArray) ?_)
 intro b7 w1 d o;replace m:=pK m d;replace r:=O (r.keep d fun _ e=>e.elim);replace y:=O (y.keep0 d);replace f:=O (KI.keep0 f.out d);clear d
 go_wp2_with ((with_reducible show WL _ _);refine wpList_load_mid rfl 27 (.tmp 15) rfl b7 0 rfl pc _ (by have h:=o.b 0;rw[←Q.out] at h;rw[←J.out];exact eM h) aH rfl (szP9 hpc) ?_)
 refine((by rw[←J.out];exact cL w1 pv p m.pt:Calls _ _ _ w1 (aX w1 p.hole))).mono ?_;rintro e w2 ⟨rfl,d⟩;replace o:=kL o d;replace m:=pK m d;replace r:=O (r.keep d fun _ e=>e.elim);replace y:=O (y.keep0 d);replace f:=O (KI.keep0 f.out d);clear d;rw[HHP.out];have c1:w2.cell? ⟨q6,0,none⟩=some (nwV g):=(cell_of_one r.c6)
 go_wp2_with ((with_reducible show WL _ _);refine aP (by rfl) 27 (.tmp 20) rfl b7 0 rfl pc _ (by have h:=o.b 0;rw[←Q.out] at h;rw[←J.out];exact eM h) aH rfl (szP9 hpc) ?_)
 clear c1;refine((by rw[←J.out];exact kI r.cg pv p m.pt:Calls _ _ _ w2 (aX w2 (decide (x<p.birth))))).mono ?_;rintro e w3 ⟨rfl,d⟩;replace o:=kL o d;replace m:=pK m d;replace r:=O (r.keep d fun _ e=>e.elim);replace y:=O (y.keep0 d);replace f:=O (KI.keep0 f.out d);clear d;rw[HN1.out];have c1:w3.cell? ⟨q7,0,none⟩=some (bkV):=(cell_of_one r.c7)
 go_wp2_with ((with_reducible show WL _ _);refine wpList_load_mid rfl 90 (.tmp 7) rfl b7 0 rfl lc _ (aD (o.b 0)) Tryz.underlying90 rfl (by rw[hlc];exact wA) ?_)
 clear c1;refine((by rw[←Q.out];exact BQ w3 pv p m.pt a:Calls _ _ _ w3 (wB w3 p a))).mono ?_;rintro e w4 ⟨rfl,d⟩;replace o:=kL o d;replace m:=pK m d;replace r:=O (r.keep d fun _ e=>e.elim);replace y:=O (y.keep0 d);replace f:=O (KI.keep0 f.out d);clear d;rw[HLEV.out];have c1:w4.cell? ⟨q4,0,none⟩=some (.pointer c):=(cell_of_one r.c4)
 go_wp2_with ((with_reducible show WL _ _);refine wpList_load_mid rfl 27 (.tmp 40) rfl b7 0 rfl pc _ (by have h:=o.b 0;rw[←Q.out] at h;rw[←J.out];exact eM h) aH rfl (szP9 hpc) ?_)
 clear c1;have HLW:=O o.keep.size;refine((by rw[←J.out,←HPE.out];exact BI f.out hl2 pv t HTR.out (by rw[HPE.out];exact m.pt):Calls _ _ _ w4 (fN w4 B l t))).mono ?_;rintro e w5 ⟨vs,rfl,hvs,Y,d⟩;have D:=O hvs;have HNO:Hid (∀q,q<4->∀i,(vs q).ownBlock=some i->i≠q11/\v.ownBlock≠some i):=O (fun q hq i hi=>⟨fun e=>by (have R:=Y q hq i hi;have h2:=HLW.out;have h3:=r.l11.1;have h4:=HNN.out;omega),fun e=>by (have R:=Y q hq i hi;have h2:=HVO0.out i e;have h3:=HLW.out;omega)⟩);have M:=eE ((l+1:Nat):Int) vs hvs.nv;have HOF0:=dQ ((l+1:Nat):Int) hvs.nv;obtain⟨nn,G⟩:∃x,cH ((l+1:Nat):Int) vs (fun i=>(t.kid i).ptr)=x:=⟨_,rfl⟩
 have HOF:Hid (∀u∈nn,u.oneCell'=true):=O (by rw[←G];exact HOF0);have HNF:=O G;rw[G] at M ⊢;clear HOF0 G hvs Y;replace o:=kL o d;replace m:=pK m d;replace r:=O (r.keep d fun _ e=>e.elim);replace y:=O (y.keep0 d);replace f:=O (KI.keep0 f.out d);clear d
 go_wp2_with ((with_reducible show WL _ _);refine al 98 (.agg dI.toArray) (dI.toArray) jO ?_)
 intro b12 w6 hbs hk0 hb0_
 go_wp2_with ((with_reducible show WL _ _);refine sta 98 (.tmp 12) (.tmp 44) b12 0 nn hb0_ (by first|decide|(rw[List.size_toArray,M];exact Nat.le_refl _)|simp[M,bX]) (by rw[M];exact dN) HOF.out ?_)
 intro w7 d hb;rw[aK _ _ (by first|rfl|(rw[List.size_toArray,M];rfl)|simp[M,bX])] at hb;replace d:=tX hk0 d (fun i hi e=>by omega);replace o:=lW o hbs d hb;replace m:=pK m d;replace r:=O (r.keep d fun _ e=>e.elim);replace y:=O (y.keep0 d);replace f:=O (KI.keep0 f.out d);replace D:=O (cI.keep0 D.out d);clear hbs d hb hk0 hb0_;go_wp2_with fail
 have HST:Hid (∃vk,tH w B S c N0 g q6 q7 q11 q4 q12 x b7 b12 l t a pv v ns vs 0 w7 vk):=O ⟨v,f.out,r.out,by rw[show (List.range 0)=[] from rfl,List.flatMap_nil,List.append_nil];exact y.out,D.out,HNO.out,by (have h:=o.b 1;rw[←Q.out] at h;rw[HPE.out];exact h),by (have h:=o.b 0;rw[←HNF.out] at h;exact h),fun i hi=>by
  have h7:=o.lt 1;have h12:=o.lt 0;have R:=HVO0.out i hi;exact⟨.inl hi,by omega,by omega⟩,⟨by have R:=(o.lt 1).1;have h2:=HNN.out;omega,by have R:=(o.lt 0).1;have h2:=HNN.out;omega,HNN.out⟩,o.keep.any⟩
 clear o f m r y D
 go_loopw [13,14] (fun e i wr=>∃k:Nat,k≤4/\e=.int .i64 0/\i=.int .i64 (k:Int)/\Hid (∃vk,tH w B S c N0 g q6 q7 q11 q4 q12 x b7 b12 l t a pv v ns vs k wr vk)) (fun _ i _=>4-(intOf i).toNat)
 case atStart=>exact⟨0,by omega,rfl,rfl,HST⟩
 case round =>
  obtain⟨k,d,rfl,rfl,HCI⟩:=hrel;obtain⟨vk,j⟩:=HCI.out
  by_cases U:k<4
  ·have hk0:(0:Int)≤(k:Int):=by omega
   have hk1:(k:Int)<4:=by omega
   have f:=O j.ki;have r:=O j.th;have y:=O j.out;have z:=O (j.old k U);have HCX:=O j;have hqc:=aJ (v:=vs k) z.pt.sum;have HOQ0:=aT z.pt;have HX0:=pW j.old.nv (aD j.h12) U;obtain⟨qc,C⟩:∃x,aE (vs k) ((t.kid k).ptr)=x:=⟨_,rfl⟩
   have HOQ:Hid (∀u∈qc,u.oneCell'=true):=O (by rw[←C];exact HOQ0);have HQC:=O C;rw[C] at hqc HX0;have HX:=O HX0;have I:=O (G9 (by rw[HPE.out];exact HSM.out) j.h7);obtain⟨W,hW⟩:∃W:Nat,4 ^ l=W:=⟨_,rfl⟩
   have hW16:W≤16/\1≤W:=by
    have:l=0\/l=1\/l=2:=by omega
    rcases this with rfl|rfl|rfl<;>omega
   have HW:=O hW;obtain⟨kw,V⟩:∃q:Nat,k*W=q:=⟨_,rfl⟩
   have hkw48:kw+W≤4*W:=by rw[←V];have R:=Nat.mul_le_mul_right W (show k+1≤4 by omega);rw[Nat.succ_mul] at R;exact R
   have hkwi:(k:Int)*(W:Int)=(kw:Int):=by rw[←V];push_cast;rfl
   have hal:a+4*W≤64:=by have R:=HA.out;rw[Nat.pow_succ,hW] at R;omega
   obtain⟨N,hak⟩:∃N,a+kw=N:=⟨_,rfl⟩
   have HKWI:Hid (a+k*4 ^ l=N):=O (by rw[hW,V,hak]);have hai:(a:Int)+(kw:Int)=(N:Int):=by omega
   obtain⟨nk,hnk⟩:∃q,(ns++(List.range k).flatMap fun i=>bks (bF x) l (t.kid i) (a+i*4 ^ l))=q:=⟨_,rfl⟩
   have HNK:=O hnk;have HNQ:Hid ((∀i,(vs k).ownBlock=some i->i≠q11/\vk.ownBlock≠some i)/\nk.length+(bks (bF x) l (t.kid k) N).length≤1000/\N+4 ^ l≤64/\N0≤wr.heap.size):=O ⟨j.off k U,by rw[←hnk,←hak,←V,←hW];exact j.len U HPSL.out Z.1 Z.2,by rw[hW];omega,by have R:=j.ge;have h2:=j.keep.size;omega⟩;have HTK:=O (HTR.kid U);have o:=lN wr
   have P:Hid (¬(b12=q11\/vk.ownBlock=some b12)/\¬(b7=q11\/vk.ownBlock=some b7)/\¬(q12=q11\/vk.ownBlock=some q12)):=O (by
    have R:=j.ge;have h2:=j.th.l11.1;have h3:=j.th.lt q12 (.inr (.inr (.inr (.inr rfl))));refine⟨fun e=>e.elim (fun e=>by omega) fun e=>(j.own _ e).2.2 rfl,fun e=>e.elim (fun e=>by omega) fun e=>(j.own _ e).2.1 rfl,fun e=>e.elim (fun e=>by omega) fun e=>?_⟩;have h4:=aU j.out.row e;omega)
   have hbp:=Fw (vs k) (t.kid k).ptr (N:Int) z.pt.sum;obtain⟨mc,hmc⟩:∃x,dR (vs k) (t.kid k).ptr (N:Int)=x:=⟨_,rfl⟩
   have HMC:=O hmc;rw[hmc,C] at hbp;rw[hnk] at y;have HBP:=O hbp;clear C HOQ0 HX0 j HCI hW V hmc hbp hak hnk;go_wp2_with fail;refine dwA (fun i=>i=q11\/vk.ownBlock=some i) (by kernel_rfl) ?_;intro w9 S K HSI E A;replace o:=kL o A;replace f:=O (KI.keep0 f.out A);replace r:=O (r.keep A fun _ e=>e.elim);replace y:=O (y.keep0 A);replace HX:=O (A.rangeAt HX.out);replace z:=pK z A;replace I:=O (A.cell I.out id);clear A;have HLs:=o;have HKIs:=f;have HTs:=r;have HQs:=y;have HXs:=HX;have HQVs:=z;have HATs:=I;refine tnd 0 (dbV q6 q7 q11 q4 q12) rfl (.inl ⟨by rfl,fun w' hw'=>by have c:World.cell? w' ⟨q12,0,none⟩=some (dbV q6 q7 q11 q4 q12):=(K.out w' hw').cell (cell_of_one HTs.c12) P.2.2;go_simp⟩) E ?_;refine tna 1 (.int .i64 (k:Int)) rfl E ?_;refine tnb 2 (.pointer (some ⟨b12,1,none⟩)) rfl E ?_;refine tnd 3 (.pointer (some ⟨b12,1+k*35,none⟩)) rfl (.inl ⟨by rfl,fun _ _=>by go_simp<;>omega⟩) E ?_;refine tnd 4 (.agg qc.toArray) rfl (yieldsIf_load_mid (by rfl) 27 (.tmp 57) rfl b12 (1+k*35) rfl qc _ (fun w' h=>(K.out w' h).rangeAt2 HXs.out P.1) aH rfl (szP9 hqc)) E ?_;refine tnb 5 (.pointer (some ⟨b7,35,none⟩)) rfl E ?_;refine tnd 6 (.int .i64 (a:Int)) rfl (.inl ⟨by rfl,fun w' hw'=>by have c:World.cell? w' ⟨b7,35,none⟩=some (.int .i64 (a:Int)):=(K.out w' hw').cell HATs.out P.2.1;go_simp⟩) E ?_;refine tna 7 (.int .i64 (k:Int)) rfl E ?_;refine tna 8 (.int .i64 ((l+1:Nat):Int)) rfl E ?_;refine tnd 9 (.int .i64 (l:Int)) rfl (.inl ⟨by rfl,fun _ _=>by go_simp;exact IntWalk.i64_in _ (by omega)⟩) E ?_;refine tna 14 (.int .i64 ((l+1:Nat):Int)) rfl E ?_;refine tnd 15 (.int .i64 (l:Int)) rfl (.inl ⟨by rfl,fun _ _=>by go_simp;exact IntWalk.i64_in _ (by omega)⟩) E ?_;refine wA9 10 ?_;go_wp2_with fail;refine((by rw[←HW.out];exact Ac w9 l (by omega):Calls _ _ _ w9 (aN w9 (.int .i64 (W:Int))))).mono ?_;rintro e wa ⟨rfl,d⟩;have L:=HSI.out _ ((K.out _ E).trans d.any);replace o:=kL o d;replace f:=O (KI.keep0 f.out d);replace r:=O (r.keep d fun _ e=>e.elim);replace y:=O (y.keep0 d);replace HX:=O (d.rangeAt HX.out);replace z:=pK z d;replace I:=O (d.cell I.out id);clear E d;go_wp2_with fail;refine⟨L,?_⟩;refine tnd 11 (.int .i64 (kw:Int)) rfl (.inl ⟨by rfl,fun _ _=>by go_simp;exact IntWalk.i64_in _ (by omega)⟩) L ?_;refine tnd 12 (.int .i64 (N:Int)) rfl (.inl ⟨by rfl,fun _ _=>by go_simp;exact IntWalk.i64_in _ (by omega)⟩) L ?_;refine tnd 13 (.agg mc.toArray) rfl (fH 90 #[(0,.tmp 58),(1,.tmp 66)] [(0,.agg qc.toArray),(1,.int .i64 (N:Int))] (.agg mc.toArray) HBP.out) L ?_;refine wA9 16 ?_;go_wp2_with fail;have HLK:Hid (aA aB wr wa):=O o.keep;refine((by rw[←HMC.out];exact HIH.out wa vk nk (vs k) (t.kid k) N f.out r.out y.out (Nat.le_trans HNQ.2.2.2 o.keep.size) HNQ.2.1 HNQ.2.2.1 HTK.out z.out HNQ.1:Calls _ _ _ wa (qB N0 q11 x l (t.kid k) N vk nk wa))).mono ?_;rintro e wb hm;obtain⟨he,hmk,hnx⟩:=HCX.step HBN.out HLK.out (by rw[HKWI.out,HNK.out];exact hm);subst he;have HNX:=O hnx;have hS2:=HSI.out _ ((K.out _ L).trans hmk);clear L hmk hm hnx o f r HX z y I HLK;go_wp2_with fail;refine⟨hS2,?_⟩;refine tna 17 (.int .i64 0) rfl hS2 ?_;refine wpAnyH_done (by kernel_rfl) ?_ _;clear hS2 K HSI HLs HKIs HTs HQs HXs HQVs HATs;clear HCX;go_wp2
   go_roundw
   case rel=>exact⟨k+1,by omega,rfl,by go_num,HNX⟩
   case measure=>simp[intOf];omega
  ·obtain rfl:k=4:=by omega
   have HP:=O (j.fin Z.1 Z.2 (aA.refl aB wr));clear j HCI;go_wp2;go_ret;exact HP.out
theorem LG(A:∀i,B i->i<N0):∀l,l≤3->N6 B S c N0 g q6 q7 q11 q4 q12 x l:=by
 intro l
 induction l with
 | zero =>
   intro C w v ns pv t a d f e y r z m h j;cases o:t.isHole with
   | true=>exact nK d f e pv t 0 a m h (.inl o)
   | false =>
     cases q:decide (x<t.ptr.birth) with
     | false=>exact nK d f e pv t 0 a m h (.inr q)
     | true=>exact EO d f e y pv t a (by omega) (by omega) m h j o q
 | succ l D =>
   intro C w v ns pv t a d f e y r z m h j;cases o:t.isHole with
   | true=>exact nK d f e pv t (l+1) a m h (.inl o)
   | false =>
     cases q:decide (x<t.ptr.birth) with
     | false=>exact nK d f e pv t (l+1) a m h (.inr q)
     | true=>exact EP d (by omega) (D (by omega)) A f e y pv t a r z m h j o q
def mX(w:World)(ns:List Nat)(e:Ending)(w':World):Prop:=∃v,e=.returned (.tuple #[v,.int .i64 0])/\w'.ownsRow w.heap.size 3 1 v ns.length (yG ns)/\aA aB w w'
theorem D3(hK:KI w c S B)(hg:w.heap[g]?=some (.cells #[.int .i64 x] 3 (0,0)))(pv:Value)(t:Tr)(ht:Tr.Ok S 3 t)(K:bC w B pv t.ptr):Calls Tryz.prog 37 #[.pointer c,.agg (aE pv t.ptr).toArray,nwV g,bkV] w (mX w (bks (bF x) 3 t 0)):=by
 have HTR:=O ht;have j:=O hK;have r:=O (fun i (e:B i)=>hK.lt e);have o:=O hg;have I:=O (lt_of_block hg);obtain⟨p,E⟩:∃p,t.ptr=p:=⟨_,rfl⟩
 have U:=O E;rw[E] at K ⊢;have m:=O K;have HRT:Hid (p.root=true):=O (by rw[←E];exact ht.root);have D:=aJ (v:=pv) K.pt.sum;have G:=aT K.pt;have C:=DZ pv p K.pt.sum;obtain⟨N,q⟩:∃l,aE pv p=l:=⟨_,rfl⟩
 obtain⟨lc,y⟩:∃l,dR pv p 0=l:=⟨_,rfl⟩
 have HOP:Hid (∀u∈N,u.oneCell'=true):=O (by rw[←q];exact G);have HPC:=O q;have HLC:=O y;rw[q] at D C ⊢;rw[y] at C;have HBP:=O C;have V:=O (fun i H=>(K.off i H).2.lt);clear G q y K ht hK E hg C;have d:=lN w;go_in
 go_wp2_with ((with_reducible show WL _ _);refine bxL d 39 (.tmp 0) (#[.pointer c]) ?_)
 intro L w1 f d;replace m:=pK m f;replace j:=O (KI.keep0 j.out f);replace o:=O (f.blk o.out id);clear f
 go_wp2_with ((with_reducible show WL _ _);refine bxL d 27 (.tmp 1) (N.toArray) ?_)
 intro b5 w2 f d;replace m:=pK m f;replace j:=O (KI.keep0 j.out f);replace o:=O (f.blk o.out id);clear f
 go_wp2_with ((with_reducible show WL _ _);refine bxL d 85 (.tmp 2) (#[nwV g]) ?_)
 intro X w3 f d;replace m:=pK m f;replace j:=O (KI.keep0 j.out f);replace o:=O (f.blk o.out id);clear f
 go_wp2_with ((with_reducible show WL _ _);refine bxL d 91 (.tmp 3) (#[bkV]) ?_)
 intro b7 w4 f d;replace m:=pK m f;replace j:=O (KI.keep0 j.out f);replace o:=O (f.blk o.out id);clear f;have c1:w4.cell? ⟨L,0,none⟩=some (.pointer c):=(aC (i:=0) (d.b 3) rfl)
 go_wp2_with ((with_reducible show WL _ _);first
  | refine wpList_load_mid rfl 27 (.tmp 5) rfl b5 0 rfl N _ (aD (d.b 2)) aH rfl (szP9 D) ?_
  | refine bsA 22 27 (.tmp 15) Tryz.underlying22 oF (by omega) N D (by omega) ?_)
 clear c1;intro b16 w5 hbs f A;replace d:=lW d hbs f A;replace m:=pK m f;replace j:=O (KI.keep0 j.out f);replace o:=O (f.blk o.out id);clear hbs f A;go_wp2_with fail;refine((wX j.out pv p m.pt HRT.out (by rw[HPC.out];exact d.b 0):Calls _ _ _ w5 (aN w5 (.int .i64 0)))).mono ?_;rintro e w6 ⟨rfl,f⟩;replace d:=kL d f;replace m:=pK m f;replace j:=O (KI.keep0 j.out f);replace o:=O (f.blk o.out id);clear f
 go_wp2_with ((with_reducible show WL _ _);refine alL d 42 (.slice none 0 0) (#[.slice none 0 0]) OH ?_)
 intro b11 w7 f d;replace m:=pK m f;replace j:=O (KI.keep0 j.out f);replace o:=O (f.blk o.out id);clear f
 go_wp2_with ((with_reducible show WL _ _);refine alL d 132 (.nilFunc) (#[.nilFunc]) N5 ?_)
 intro b12 w8 f d;replace m:=pK m f;replace j:=O (KI.keep0 j.out f);replace o:=O (f.blk o.out id);clear f
 go_wp2_with ((with_reducible show WL _ _);refine sta 132 (.tmp 12) (.tmp 21) b12 0 ([dbV X b7 b11 L b12]) (d.b 0) (by simp) (by kernel_rfl) (one9) ?_)
 intro F f A;replace A:F.heap[b12]?=some (.cells #[dbV X b7 b11 L b12] 132 (0,0)):=A;replace d:=O (d.set 0 f A);replace m:=O (m.keepT f fun i H e=>by have z:=V.out i H;have M:=(d.lt 0).1;omega);replace j:=O (j.keepT f fun i e A=>by have z:=r.out i A;have M:=(d.lt 0).1;omega);replace o:=O (f.blk o.out fun e=>by have z:=I.out;have M:=(d.lt 0).1;omega);clear f A;obtain⟨N0,hN0⟩:∃n,F.heap.size=n:=⟨_,rfl⟩
 have hg_:g<F.heap.size:=Nat.lt_of_lt_of_le I.out d.keep.size;have Z:∀i,B i->i<N0:=fun i e=>by have z:=r.out i e;have M:=d.keep.size;omega
 have hT0:ThB B N0 c g x X b7 b11 L b12 F:=⟨o.out,d.b 4,d.b 3,d.b 6,d.b 0,fun i H=>by
  have g6:=d.lt 4;have g7:=d.lt 3;have g4:=d.lt 6;have g12:=d.lt 0;have Y:=d.lt 1;have gg:=I.out;have n6:b11≠X:=bJ d.nd (i:=4) rfl 1 (by decide) rfl;have n7:b11≠b7:=bJ d.nd (i:=3) rfl 1 (by decide) rfl;have n4:b11≠L:=bJ d.nd (i:=6) rfl 1 (by decide) rfl;have n12:b11≠b12:=bJ d.nd (i:=0) rfl 1 (by decide) rfl;rcases H with rfl|rfl|rfl|rfl|rfl<;>omega,⟨by have Y:=d.lt 1;omega,fun e=>by have z:=r.out _ e;have Y:=d.lt 1;omega⟩⟩
 have R:Hid (mW N0 b11 F (.slice none 0 0) []):=O ⟨d.b 1,World.ownsRow_nil _ _ _ _⟩;have HT:=O hT0;have HB0:=O Z;have J:=O hN0;have W:Hid (∀i,pv.ownBlock=some i->i≠b11/\(Value.slice none 0 0).ownBlock≠some i):=O (fun i H=>⟨fun e=>by have z:=V.out i H;have M:=(d.lt 1).1;omega,fun e=>by cases e⟩);clear hg_ Z hT0 hN0;have Q:=O d.keep.size;have c1:F.cell? ⟨b12,0,none⟩=some (dbV X b7 b11 L b12):=(aC (i:=0) (d.b 0) rfl)
 go_wp2_with ((with_reducible show WL _ _);first
  | refine wpList_load_mid rfl 27 (.tmp 5) rfl b5 0 rfl N _ (aD (d.b 5)) aH rfl (szP9 D) ?_
  | refine bld 90 #[(0,.tmp 23)] [(0,.agg N.toArray)] (.agg lc.toArray) HBP.out ?_)
 clear c1;have HNS:Hid (w.heap.size≤N0):=O (by have z:=J.out;have M:=Q.out;omega);refine((by rw[←HLC.out,←U.out];exact LG HB0.out 3 (by omega) F (.slice none 0 0) [] pv t 0 j.out HT.out R.out (by have z:=J.out;have M:=d.keep.size;omega) (by have z:=Ng (x:=x) (t:=t);rw[List.length_nil];omega) (by decide) HTR.out (by rw[U.out];exact m.out) W.out:Calls _ _ _ F (qB N0 b11 x 3 t 0 (.slice none 0 0) [] F))).mono ?_;rintro e wa ⟨v,rfl,ho,-,f⟩;have P:=O (cell_of_one ho.cell)
 have HP:Hid (mX w (bks (bF x) 3 t 0) (.returned (.tuple #[v,.int .i64 0])) wa):=O (by
  have hsz:=d.keep.size;have hn:=J.out;have hr:=ho.row;rw[List.nil_append] at hr;refine⟨v,rfl,aQ hr HNS.out,d.keep.trans' f (fun _ _ h=>h) (fun i H e=>?_)⟩;rcases e with e|e
  ·have z:=(d.lt 1).1;omega
  ·cases e)
 clear d HT R j m ho f;have c1:wa.cell? ⟨b11,0,none⟩=some (v):=P.out;go_wp2_with fail;clear c1
 go_ret2
 exact HP.out
theorem Ha(M:KI w c S B)(pv:Value)(t:Tr)(Q:Tr.Ok S 3 t)(I:bC w B pv t.ptr)(x:Int):Calls Tryz.prog 17 #[.pointer c,.agg (aE pv t.ptr).toArray,.int .i64 x] w (mX w (bks (bF x) 3 t 0)):=by
 have J:=O Q;have d:=O M;obtain⟨p,z⟩:∃p,t.ptr=p:=⟨_,rfl⟩
 have F:=O z;rw[z] at I ⊢;have f:=O I;obtain⟨L,E,K,U⟩:=nmPt I.pt;rw[E.out];clear I Q M z;have m:=lN w;go_in
 go_wp2_with ((with_reducible show WL _ _);refine bxL m 27 (.tmp 1) (L.toArray) ?_)
 intro W Z j m;replace f:=pK f j;replace d:=O (KI.keep0 d.out j);clear j;go_wp2_with fail;refine dwA aB (by kernel_rfl) ?_;intro X S o r H q;replace m:=kL m q;replace f:=pK f q;replace d:=O (KI.keep0 d.out q);clear q;have D:=m;have G:=f;have C:=d;refine tna 0 (.pointer c) rfl H ?_;refine tnd 1 (.agg L.toArray) rfl (yieldsIf_load_mid (by rfl) 27 (.tmp 4) rfl W 0 rfl L _ (fun w' h=>aD ((o.out w' h).blk (D.b 0) id)) aH rfl (szP9 K)) H ?_;refine tna 2 (.int .i64 x) rfl H ?_;refine wA9 3 ?_;go_wp2_with fail;refine((BJ X x)).mono ?_;rintro e R ⟨g,rfl,N,-,j⟩;have A:=O N;clear N;have y:=r.out _ ((o.out _ H).trans j);replace m:=kL m j;replace f:=pK f j;replace d:=O (KI.keep0 d.out j);clear H j;go_wp2_with fail;refine⟨y,?_⟩;refine wA9 4 ?_;go_wp2_with fail;refine((by rw[←E.out,←F.out];exact D3 d.out A.out pv t J.out (by rw[F.out];exact f.out):Calls _ _ _ R (mX R (bks (bF x) 3 t 0)))).mono ?_;rintro e Y ⟨v,rfl,P,j⟩;have V:Hid (mX w (bks (bF x) 3 t 0) (.returned (.tuple #[v,.int .i64 0])) Y):=O ⟨v,rfl,aQ P m.keep.size,m.keep.trans j⟩;have i:=r.out _ ((o.out _ y).trans j);clear y j P m d f A;go_wp2_with fail;refine⟨i,?_⟩;refine tnb 5 v rfl i ?_;refine tnb 6 (.int .i64 0) rfl i ?_;refine tna 7 v rfl i ?_;refine tna 8 (.int .i64 0) rfl i ?_;refine wpAnyH_done (by kernel_rfl) ?_ _;clear i o r D G C;go_wp2
 go_ret2
 exact V.out
theorem wY{α:Type}{f:α->List Value}:∀{l:List α},(∀y∈l,(f y).length=k)->∀(i:Nat){y:α},l[i]?=some y->∀j,j<k->(l.flatMap f)[i*k+j]?=(f y)[j]?
 | [],_,_,_,d,_,_=>by simp at d
 | x::l,h,0,y,d,j,m=>by
   have e:x=y:=by simpa using d
   subst e;rw[List.flatMap_cons,Nat.zero_mul,Nat.zero_add,List.getElem?_append_left (by rw[h x (List.mem_cons_self ..)];exact m)]
 | x::l,h,i+1,y,d,j,m=>by
   rw[List.flatMap_cons,List.getElem?_append_right (by rw[h x (List.mem_cons_self ..),Nat.succ_mul];omega),h x (List.mem_cons_self ..),show (i+1)*k+j-k=i*k+j by rw[Nat.succ_mul];omega];exact wY (fun y d=>h y (List.mem_cons_of_mem _ d)) i (by simpa using d) j m
theorem tI{α:Type}{f:α->List Value}{v:Value}{l:List α}(q:∀y∈l,(f y).length=s)(E:0<s)(h:Rd w s v l.length (l.flatMap f)){x:α}(m:l[k]?=some x) :
 ∃g o d,v=.slice (some ⟨g,o,none⟩) l.length d/\w.rangeAt g (o+k*s) (f x):=by
 obtain⟨h0,a,d,rfl,F,G,H,z⟩:=h;have D:=(List.getElem?_eq_some_iff.1 m).1;have e:0<l.length*s:=Nat.mul_pos (by omega) E;obtain⟨g,o,rfl,C⟩:=z (by rw[h0];exact e);refine⟨g,o,d,rfl,fun j u r=>?_⟩;have i:j<s:=by have:=(List.getElem?_eq_some_iff.1 r).1;rwa [q x (List.mem_of_getElem? m)] at this
 have A:=wY (f:=f) (k:=s) (l:=l) q k m j i;have:=C (k*s+j) u (A.trans r)
 rwa [←Nat.add_assoc] at this
structure jW(w:World)(v:Value)(qs:List (Value×Pt)):Prop where
 rd:Rd w 35 v qs.length (qs.flatMap fun x=>aE x.1 x.2)
 at_:∀x∈qs,PtV w x.1 x.2
theorem jW.keep0{v:Value}(h:jW w v qs)(k:aA aB w w'):jW w' v qs:=⟨h.rd.keep k fun _ _=>id,fun x d=>(h.at_ x d).keep k fun _ _=>id⟩
def dL(qs:List (Value×Pt)):List Ad:=qs.flatMap fun x=>x.2.addrs
theorem qS{x:Value×Pt}(h:qs[k]?=some x):dL (qs.take (k+1))=dL (qs.take k)++x.2.addrs:=by
 unfold dL;rw[List.take_add_one,h,List.flatMap_append];simp
theorem wC(h:∀x∈qs,x.2.addrs.length≤20):(dL qs).length≤20*qs.length:=by
 induction qs with
 | nil=>exact Nat.zero_le _
 | cons x qs f =>
   have d:=f fun y e=>h y (List.mem_cons_of_mem _ e)
   have i:=h x (List.mem_cons_self ..);unfold dL at d ⊢;rw[List.flatMap_cons,List.length_append,List.length_cons];omega
theorem jW.ok{v:Value}(h:jW w v qs):iA (dL qs):=fun a e=>by
 obtain⟨x,f,d⟩:=List.mem_flatMap.1 e;exact(h.at_ x f).ads a d
theorem Fx:(Tryz.prog.info? 82).map (fun i=>(i.zero,i.size,i.bytes))=some (some (.agg #[.int .i64 0,.int .i64 0]),2,16):=by kernel_rfl
theorem Ai(w:World)(v:Value)(qs:List (Value×Pt))(h:jW w v qs)(hq:qs.length≤1000)(h8:∀x∈qs,x.2.addrs.length≤20):Calls Tryz.prog 9 #[v] w (gU w (cY (dL qs))):=by
 obtain⟨va,vc,rfl,-,-⟩:=h.rd.form;obtain⟨q,M⟩:∃n,qs.length=n:=⟨_,rfl⟩
 have D:=O M;have HP:=O h;have H8:=O h8;have HQ:=O hq;rw[M] at hq ⊢;clear h h8 M;go_in;go_wp2_with fail
 go_loopw [3,8] (fun a i wr=>∃(k m:Nat) (U:Option Addr) (V:Nat),k≤q/\i=.int .i64 (k:Int)/\a=.slice U m V/\Hid ((dL (qs.take k)).length=m)/\Hid (aA aB w wr)/\Hid (wr.ownsRow w.heap.size 82 2 (.slice U m V) m (aF (dL (qs.take k))))) (fun _ i _=>q-(intOf i).toNat)
 case atStart=>exact⟨0,0,none,0,by omega,rfl,rfl,O rfl,O (aA.refl _ _),O (World.ownsRow_nil _ _ _ _)⟩
 case round =>
  obtain⟨k,m,U,A,z,rfl,rfl,HM,W,I⟩:=hrel
  by_cases hk8:k<q
  ·have J:(0:Int)≤(k:Int):=by omega
   have hk1:(k:Int)<(q:Int):=by omega
   obtain⟨x,hx⟩:∃x,qs[k]?=some x:=⟨qs[k]'(by rw[D.out];exact hk8),List.getElem?_eq_getElem (by rw[D.out];exact hk8)⟩
   have P:=List.mem_of_getElem? hx;have hP:=HP.keep0 W.out;have L:=hP.at_ x P;obtain⟨g,o,cap,he,hr⟩:=tI (f:=fun(x:Value×Pt)=>aE x.1 x.2) (s:=35) (fun y hy=>aJ (hP.at_ y hy).sum) (by decide) hP.rd hx;rw[D.out] at he;injection he with he1 he2 he3
   subst he1;obtain⟨⟨pv,p⟩,rfl⟩:∃y,y=x:=⟨_,rfl⟩
   have r:Hid (PtV wr pv p):=O L;have HX:=O hx;have Z:Hid (p.addrs.length≤20):=O (H8.out _ P);have d:=aJ (v:=pv) L.sum;obtain⟨V,j⟩:∃l,aE pv p=l:=⟨_,rfl⟩
   have HOP:Hid (∀u∈V,u.oneCell'=true):=O (by rw[←j];exact aT r.out);have HPC:=O j;have N:wr.rangeAt g (o+k*35) (aE pv p):=hr;rw[j] at N d;have Q:=O N;have X:=lN wr;clear hx P hP L hr N j he2 he3
   go_wp2_with ((with_reducible show WL _ _);first
    | refine wpList_load_mid rfl 27 (.tmp 10) rfl g (o+k*35) rfl V _ Q.out aH rfl (szP9 d) ?_
    | refine al 27 (.agg aI.toArray) (aI.toArray) bK ?_)
   intro b5 wb hbs J F
   go_wp2_with ((with_reducible show WL _ _);refine sta 27 (.tmp 5) (.tmp 11) b5 0 V F (by first|decide|(rw[List.size_toArray,d];exact Nat.le_refl _)|simp[d,aG]) (szP9 d) HOP.out ?_)
   intro wc z hb;rw[aK _ _ (by first|rfl|(rw[List.size_toArray,d];rfl)|simp[d,aG])] at hb;replace z:=tX J z (fun i hi e=>by omega);replace X:=lW X hbs z hb;replace r:=O (r.keep z fun _ _=>id);replace Q:=O (z.rangeAt Q.out);replace I:=O (z.owns I.out fun _ _=>id);clear hbs z hb J F;clear Q;obtain⟨pva,pvc,hpv,-,-⟩:=r.rd.form;subst hpv;have H:=O (W.trans X.keep)
   have Y:Hid (m≤20000):=O (by
    have E:=wC (qs:=qs.take k) fun y hy=>H8.out y (List.mem_of_mem_take hy)
    rw[HM.out,List.length_take] at E;have R:=HQ.out;omega)
   have G:Hid (m+p.addrs.length≤maxLen/\(m+p.addrs.length)*16≤140737488355328/\w.heap.size≤wc.heap.size):=O ⟨by have E:=Y.out;have R:=Z.out;unfold maxLen;omega,by have E:=Y.out;have R:=Z.out;omega,H.size⟩;have c1:wc.cell? ⟨b5,0,none⟩=some (.slice pva p.addrs.length pvc):=(aC (i:=0) (X.b 0) (by rw[←HPC.out];rfl))
   go_wp2_with (first
    | (at_builtin;refine aL rfl (.tmp 12) (.tmp 14) 23 rfl w.heap.size 82 (.agg #[.int .i64 0,.int .i64 0]) 2 16 Tryz.underlying23 Fx rfl (by decide) (.slice U m A) m (aF (dL (qs.take k))) rfl I.out (.slice pva p.addrs.length pvc) p.addrs.length (aF p.addrs) rfl r.rd (cQ _) G.1 G.2.1 G.2.2 ?_))
   clear c1;intro v2 w8 K hk5 hn5 hb5;obtain⟨pa2,pc2,rfl,-,-⟩:=(Rd.of_owns K).form;have HM2:Hid ((dL (qs.take (k+1))).length=m+p.addrs.length):=O (by rw[qS HX.out,List.length_append,HM.out]);have C:Hid (w8.ownsRow w.heap.size 82 2 (.slice pa2 (m+p.addrs.length) pc2) (m+p.addrs.length) (aF (dL (qs.take (k+1))))):=O (by rw[qS HX.out,bO];exact K);have HK2:=O (H.trans' hk5 (fun _ _ h=>h) fun i hi e=>by have E:=aU I.out e;omega);clear K hk5 hn5 hb5 I r W H X;go_wp2
   go_roundw
   case rel=>exact⟨k+1,m+p.addrs.length,pa2,pc2,by omega,by go_num,rfl,HM2,HK2,C⟩
   case measure=>simp[intOf];omega
  ·obtain rfl:k=q:=by omega
   have C:Hid (wr.ownsRow w.heap.size 82 2 (.slice U m A) (dL qs).length (aF (dL qs))):=O (by
    have E:=I.out;have R:=HM.out;rw[List.take_of_length_le (by rw[D.out];exact Nat.le_refl _)] at E R;rw[R];exact E)
   have HLN:Hid ((dL qs).length≤65536):=O (by
    have E:=wC H8.out;have R:=HQ.out;omega)
   clear I HM;go_wp2_with fail;refine(J3 wr (.slice U m A) (dL qs) HP.ok (Rd.of_owns C.out) HLN.out).mono ?_;rintro e w9 ⟨v9,rfl,ho,z⟩;have Q:Hid (gU w (cY (dL qs)) (.returned v9) w9):=O ⟨v9,rfl,aQ ho W.size,W.trans z⟩;clear ho z C;go_wp2;go_ret;exact Q.out
def vK(qs:List (Value×Pt)):List Value:=qs.map fun x=>.int .i64 x.2.level
def Fy(w:World)(qs:List (Value×Pt))(e:Ending)(w':World):Prop:=∃v,e=.returned v/\w'.ownsRow w.heap.size 3 1 v qs.length (vK qs)/\aA aB w w'
theorem Hb(w:World)(v:Value)(qs:List (Value×Pt))(h:jW w v qs)(hq:qs.length≤1000):Calls Tryz.prog 29 #[v] w (Fy w qs):=by
 obtain⟨va,vc,rfl,-,-⟩:=h.rd.form;obtain⟨q,E⟩:∃n,qs.length=n:=⟨_,rfl⟩
 have d:=O E;have HP:=O h;have HQ:=O hq;rw[E] at hq ⊢;clear h E;go_in;go_wp2_with fail
 go_loopw [3,4] (fun a i wr=>∃(k:Nat) (P:Option Addr) (pc:Nat),k≤q/\i=.int .i64 (k:Int)/\a=.slice P k pc/\Hid (aA aB w wr)/\Hid (wr.ownsRow w.heap.size 3 1 (.slice P k pc) k (vK (qs.take k)))) (fun _ i _=>q-(intOf i).toNat)
 case atStart=>exact⟨0,none,0,by omega,rfl,rfl,O (aA.refl _ _),O (World.ownsRow_nil _ _ _ _)⟩
 case round =>
  obtain⟨k,P,r,L,rfl,rfl,R,A⟩:=hrel
  by_cases N:k<q
  ·have hk0:(0:Int)≤(k:Int):=by omega
   have hk1:(k:Int)<(q:Int):=by omega
   obtain⟨x,hx⟩:∃x,qs[k]?=some x:=⟨qs[k]'(by rw[d.out];exact N),List.getElem?_eq_getElem (by rw[d.out];exact N)⟩
   have Y:=HP.keep0 R.out;obtain⟨g,o,cap,he,hr⟩:=tI (f:=fun(x:Value×Pt)=>aE x.1 x.2) (s:=35) (fun y hy=>aJ (Y.at_ y hy).sum) (by decide) Y.rd hx;rw[d.out] at he;injection he with he1 he2 he3
   subst he1;have HX:=O hx;obtain⟨lv,C⟩:∃l,x.2.level=l:=⟨_,rfl⟩
   have Q:Hid (wr.cell? ⟨g,o+k*35+2,none⟩=some (.int .i64 lv)):=O (hr 2 _ (by rw[←C];rfl));have V:=O C;have G:=lN wr;clear hx Y hr he2 he3 C;have c1:wr.cell? ⟨g,o+k*35+2,none⟩=some (.int .i64 lv):=Q.out
   go_wp2_with ((with_reducible show WL _ _);refine bs1 42 3 (.tmp 16) (.int .i64 lv) (by kernel_rfl) (by kernel_rfl) Tryz.underlying42 rfl ?_)
   clear c1;intro J wb K L hb;replace G:=lW G K L hb;replace A:=O (L.owns A.out fun _ _=>id);replace Q:=O (L.cell Q.out id);clear K L hb;have m:Rd wb 1 (.slice J 1 1) 1 [.int .i64 lv]:=dE (n:=1) (size:=1) (G.b 0) rfl (by unfold maxLen;omega);have j:=O m;have I:=A;have z:=O G.keep;clear m
   go_wp2_with (first
    | (at_builtin;refine aL rfl (.tmp 11) (.tmp 17) 42 rfl w.heap.size 3 (.int .i64 0) 1 8 Tryz.underlying42 DE rfl (by decide) (.slice P k r) k (vK (qs.take k)) rfl A.out (.slice J 1 1) 1 [.int .i64 lv] rfl j.out (by intro u hu;rcases List.mem_singleton.1 hu with rfl;rfl) (by unfold maxLen;omega) (by omega) (Nat.le_trans R.size z.size) ?_))
   intro v2 w8 D M hn5 Z;obtain⟨g2,c2,rfl⟩:=ownsRow_succ D;have H:=O D;have F:=O M;clear D M hn5 Z j G A Q;go_wp2_with fail
   have W:Hid (w8.ownsRow w.heap.size 3 1 (.slice g2 (k+1) c2) (k+1) (vK (qs.take (k+1)))):=O (by
    have e:vK (qs.take (k+1))=vK (qs.take k)++[.int .i64 lv]:=by
     unfold vK;rw[List.take_add_one,HX.out,List.map_append,←V.out];rfl
    rw[e];exact H.out)
   have U:=O (xW R.out I.out z.out F.out);clear H F I z
   go_roundw
   case rel=>exact⟨k+1,some ⟨g2,0,none⟩,c2,by omega,by go_num,rfl,U,W⟩
   case measure=>simp[intOf];omega
  ·obtain rfl:k=q:=by omega
   have X:Hid (Fy w qs (.returned (.slice P k r)) wr):=O ⟨_,rfl,by have h1:=A.out;rw[List.take_of_length_le (by rw[d.out];exact Nat.le_refl _)] at h1;rw[d.out];exact h1,R.out⟩;clear A;go_wp2;go_ret;exact X.out
theorem D4(o:S.Bd)(q:b≠zB)(h:S.leaf b=(some u,T)):∃p,u=.leaf p b/\p.birth=S.txg+1/\p.level=0/\p.addrs.length=S.cp:=by
 unfold Kor.leaf at h;rw[if_neg q] at h;cases e:S.put 0 b with
 | none=>rw[e] at h;injection h with d m;cases d
 | some x =>
   obtain⟨p,U⟩:=x;rw[e] at h;injection h with d m
   injection d with d
   obtain⟨f,i,j⟩:=Ae o e;exact⟨p,d.symm,i,j,f⟩
theorem LH(q:S.Bd){k:Nat->Tr}(h:S.lay l k=(some u,T))(r:u≠.hole):∃p,u=.node p k/\p.birth=S.txg+1/\p.level=(l:Int)/\p.addrs.length=S.cp:=by
 unfold Kor.lay at h
 by_cases i:gH k=true
 ·rw[if_pos i] at h
  injection h with d f
  injection d with d
  exact absurd d.symm r
 ·rw[if_neg i] at h
  cases e:S.put l (cW l (fI k)) with
  | none=>rw[e] at h;injection h with d f;cases d
  | some x =>
    obtain⟨p,U⟩:=x;rw[e] at h;injection h with d f
    injection d with d
    obtain⟨j,m,o⟩:=Ae q e;exact⟨p,d.symm,m,o,j⟩
theorem mY(H:l≤2)(q:S.Bd)(v:Tr.Ok S (l+1) t)(i:b.length=256)(E:b≠zB)(h:eI (l+1) S t n b=(some u,T)) :
 ∃y z p,eI l S (t.kid (n / 4 ^ l % 4)) n b=(some y,z)/\u=.node p (fC t.kid (n / 4 ^ l % 4) y)/\p.birth=S.txg+1/\p.level=((l+1:Nat):Int)/\p.addrs.length=S.cp:=by
 have m:=(pC i n (by omega) q v h).2 u rfl
 have j:u≠.hole:=fun e=>by
  have f:=m.2.1 n;rw[if_pos rfl,e,Tr.blk_hole] at f;exact E f.symm
 unfold eI at h;cases r:eI l S (t.kid (n / 4 ^ l % 4)) n b with
 | mk F A =>
   rw[r] at h;cases F with
   | none=>injection h with f o;cases f
   | some G =>
     have d:=(pC i n (by omega) q (v.kid (gI n l)) r).1;obtain⟨p,f,o,C,D⟩:=LH d.bd h j;exact⟨G,A,p,rfl,f,by rw[o,d.txg],C,by rw[D,d.ext.cp]⟩
structure LI(u1 u2:Tr):Prop where
 lv1:(fX 3 u1).map (·.level)=[3,2,1,0]
 len1:∀x∈fX 3 u1,x.addrs.length=2
 b1:bks (bF 1) 3 u2 0=[6]
 s1:((thr (bF 1) 3 u2 0).map (·.1)).map (·.level)=[3,2,1,0]
 s2:thr (bF 2) 3 u2 0=[]
 b0:bks (bF 0) 3 u2 0=[5,6]
 un:unl 3 u1 u2 0=[6]
 uh:unl 3 u1 .hole 0=[5]
theorem jX{q:Pt}(h:p.birth≠q.birth):p.eqB q=false:=by
 cases e:p.eqB q with
 | false=>rfl
 | true=>exact absurd (congrArg Pt.birth (Dq e)) h
theorem OI{j:Kor}(m:S.Bd)(e:j.Bd)(h:S.txg=0)(J:j.txg=1)(I:S.cp=2)(d:b.length=256)(f:b≠zB){q u2:Tr}{T1 T2:Kor}(h1:eI 3 S .hole 5 b=(some q,T1))(o:Tr.Ok j 3 q)(h2:eI 3 j q 6 b=(some u2,T2)):LI q u2:=by
 obtain⟨a2,A2,p3,X,rfl,H,g3,l3⟩:=mY (by omega) m (Tr.ok_hole S 3) d f h1;obtain⟨a1,A1,p2,W,rfl,G,g2,l2⟩:=mY (by omega) m (Tr.ok_hole S 2) d f X;obtain⟨a0,A0,p1,V,rfl,F,Z,L⟩:=mY (by omega) m (Tr.ok_hole S 1) d f W;obtain⟨p0,rfl,E,Y,K⟩:=D4 m f V;obtain⟨c2,C2,q3,U,rfl,D,Q,L3⟩:=mY (by omega) e o d f h2;obtain⟨c1,C1,q2,d2,rfl,C,P,L2⟩:=mY (by omega) e (o.kid (i:=0) (by omega)) d f U;obtain⟨c0,C0,q1,R,rfl,A,N,L1⟩:=mY (by omega) e ((o.kid (i:=0) (by omega)).kid (i:=1) (by omega)) d f d2;obtain⟨q0,rfl,z,M,L0⟩:=D4 e f R;clear V W X R d2 U h1 h2 o;rw[h] at E F G H;rw[J] at z A C D;rw[I] at K L l2 l3;clear L0 L1 L2 L3;obtain⟨A3,B3,V3,X3⟩:=p3;obtain⟨y,B2,V2,X2⟩:=p2;obtain⟨v,B1,V1,X1⟩:=p1;obtain⟨r,B0,V0,X0⟩:=p0;obtain⟨a3,b3,v3,x3⟩:=q3;obtain⟨a2,b2,v2,x2⟩:=q2;obtain⟨a1,b1,v1,x1⟩:=q1;obtain⟨a0,b0,v0,x0⟩:=q0;simp only at E F G H z A C D Y Z g2 g3 M N P Q K L l2 l3;subst E F G H z A C D Y Z g2 g3 M N P Q;refine⟨rfl,?_,rfl,rfl,rfl,rfl,?_,?_⟩
 ·intro x h
  have h:x∈[(⟨A3,0+1,((2+1:Nat):Int),X3⟩:Pt),⟨y,0+1,((1+1:Nat):Int),X2⟩,⟨v,0+1,((0+1:Nat):Int),X1⟩,⟨r,0+1,0,X0⟩]:=h;simp only[List.mem_cons,List.not_mem_nil,or_false] at h;rcases h with rfl|rfl|rfl|rfl
  ·exact l3
  ·exact l2
  ·exact L
  ·exact K
 ·rw[lF,jX (by show (0+1:Int)≠1+1;decide),if_neg (by decide)]
  show unl 2 _ _ _++(unl 2 .hole .hole _++(unl 2 .hole .hole _++(unl 2 .hole .hole _++[])))=[6];simp only[mV,List.append_nil];rw[lF,jX (by show (0+1:Int)≠1+1;decide),if_neg (by decide)];show unl 1 .hole .hole _++(unl 1 _ _ _++(unl 1 .hole .hole _++(unl 1 .hole .hole _++[])))=[6];simp only[mV,List.nil_append,List.append_nil];rw[lF,jX (by show (0+1:Int)≠1+1;decide),if_neg (by decide)];show unl 0 .hole .hole _++(unl 0 (.leaf _ b) (.leaf _ b) _++(unl 0 .hole (.leaf _ b) _++(unl 0 .hole .hole _++[])))=[6];simp only[mV,List.nil_append,List.append_nil];rw[yD,jX (by show (0:Int)≠1+1;decide),if_neg (by decide)]
 ·rw[lF,jX (by show (0+1:Int)≠0;decide),if_neg (by decide)]
  show unl 2 _ .hole _++(unl 2 .hole .hole _++(unl 2 .hole .hole _++(unl 2 .hole .hole _++[])))=[5];simp only[mV,List.append_nil];rw[lF,jX (by show (0+1:Int)≠0;decide),if_neg (by decide)];show unl 1 .hole .hole _++(unl 1 _ .hole _++(unl 1 .hole .hole _++(unl 1 .hole .hole _++[])))=[5];simp only[mV,List.nil_append,List.append_nil];rw[lF,jX (by show (0+1:Int)≠0;decide),if_neg (by decide)];show unl 0 .hole .hole _++(unl 0 (.leaf _ b) .hole _++(unl 0 .hole .hole _++(unl 0 .hole .hole _++[])))=[5];simp only[mV,List.nil_append,List.append_nil];rw[yD,jX (by show (0+1:Int)≠0;decide),if_neg (by decide)]
theorem D5{α:Type}[DecidableEq α]:∀{l m:List α},l.Nodup->(∀x∈l,x∈m)->l.length≤m.length
 | [],m,_,_=>Nat.zero_le _
 | x::l,m,o,d=>by
   obtain⟨i,j⟩:=List.nodup_cons.1 o;have f:=d x (List.mem_cons_self ..);have:=D5 (l:=l) (m:=m.erase x) j fun y h=>(List.mem_erase_of_ne fun e=>i (by rw[←e];exact h)).2 (d y (List.mem_cons_of_mem _ h))
   rw[List.length_erase_of_mem f] at this;have q:0<m.length:=List.length_pos_of_mem f;rw[List.length_cons];omega
theorem EQ{l:List Ad}(h:l.Nodup):(cY l).length=l.length:=
 Nat.le_antisymm (Ba l) (D5 h fun x d=>qH.2 d)
theorem D6(h:qs.map (·.2)=fX l t):dL qs=eJ l t:=by
 unfold dL eJ;rw[show (qs.flatMap fun x=>x.2.addrs)=(qs.map (·.2)).flatMap fun p=>p.addrs by rw[List.flatMap_map],h];unfold fX;rw[List.flatMap_map]
theorem D7:∀{l:List Pt},(∀x∈l,x.addrs.length=2)->(l.flatMap fun p=>p.addrs).length=2*l.length
 | [],_=>rfl
 | x::l,h=>by
   have:=D7 fun y d=>h y (List.mem_cons_of_mem _ d)
   rw[List.flatMap_cons,List.length_append,this,h x (List.mem_cons_self ..),List.length_cons];omega
theorem LP(p:Pt):p.eqB p=true:=by unfold Pt.eqB;simp
theorem ET(w:World)(v u:Value)(qs rs:List (Value×Pt))(h:jW w v qs)(h2:jW w u rs)(J:qs.map (·.2)=rs.map (·.2))(hq:qs.length≤1000):Calls Tryz.prog 13 #[v,u] w (aX w true):=by
 obtain⟨va,vc,rfl,-,-⟩:=h.rd.form;obtain⟨ua,uc,rfl,-,-⟩:=h2.rd.form;obtain⟨q,Y⟩:∃n,qs.length=n:=⟨_,rfl⟩
 have Z:rs.length=q:=by have:=congrArg List.length J;simp only[List.length_map] at this;omega
 have Q:=O Y;have R:=O Z;have HP:=O h;have HQ:=O h2;have HE:=O J;rw[Y] at hq ⊢;rw[Z];clear h h2 J Y Z;go_in;go_wp2_with fail
 go_loopw [5] (fun i wr=>∃k:Nat,k≤q/\i=.int .i64 (k:Int)/\Hid (aA aB w wr)) (fun i _=>q-(intOf i).toNat)
 case atStart=>exact⟨0,by omega,rfl,O (aA.refl _ _)⟩
 case round =>
  obtain⟨k,K,rfl,G⟩:=hrel
  by_cases L:k<q
  ·have hk0:(0:Int)≤(k:Int):=by omega
   have hk1:(k:Int)<(q:Int):=by omega
   obtain⟨⟨pv,p⟩,M⟩:∃x,qs[k]?=some x:=⟨qs[k]'(by rw[Q.out];exact L),List.getElem?_eq_getElem (by rw[Q.out];exact L)⟩
   have E:=List.mem_of_getElem? M;have I:=HP.keep0 G.out;have d:Hid (PtV wr pv p):=O (I.at_ _ E);obtain⟨g,o,cap,J,hr⟩:=tI (f:=fun(x:Value×Pt)=>aE x.1 x.2) (s:=35) (fun y hy=>aJ (I.at_ y hy).sum) (by decide) I.rd M;rw[Q.out] at J;injection J with V W X
   subst V;have HXpc:=O M;have hpc:=aJ (v:=pv) d.sum;obtain⟨pc,z⟩:∃l,aE pv p=l:=⟨_,rfl⟩
   have HOP:Hid (∀u∈pc,u.oneCell'=true):=O (by rw[←z];exact aT d.out);have HPC:=O z;have r:wr.rangeAt g (o+k*35) (aE pv p):=hr;rw[z] at r hpc;have C:=O r;clear M E I hr r z W X;obtain⟨⟨qv,p2⟩,M⟩:∃x,rs[k]?=some x:=⟨rs[k]'(by rw[R.out];exact L),List.getElem?_eq_getElem (by rw[R.out];exact L)⟩
   have E:=List.mem_of_getElem? M;have I:=HQ.keep0 G.out;have j:Hid (PtV wr qv p2):=O (I.at_ _ E);obtain⟨g2,o2,cap,J,hr⟩:=tI (f:=fun(x:Value×Pt)=>aE x.1 x.2) (s:=35) (fun y hy=>aJ (I.at_ y hy).sum) (by decide) I.rd M;rw[R.out] at J;injection J with V W X
   subst V;have HXqc:=O M;have hqc:=aJ (v:=qv) j.sum;obtain⟨qc,A⟩:∃l,aE qv p2=l:=⟨_,rfl⟩
   have HOQ:Hid (∀u∈qc,u.oneCell'=true):=O (by rw[←A];exact aT j.out);have HQC:=O A;have r:wr.rangeAt g2 (o2+k*35) (aE qv p2):=hr;rw[A] at r hqc;have D:=O r;clear M E I hr r A W X
   obtain rfl:p=p2:=by
    have h1:(qs.map (·.2))[k]?=some p:=by rw[List.getElem?_map,HXpc.out];rfl
    have h2:(rs.map (·.2))[k]?=some p2:=by rw[List.getElem?_map,HXqc.out];rfl
    rw[HE.out,h2] at h1;exact(Option.some.inj h1).symm
   have HL:=lN wr;go_wp2_with fail;go_wp2_with fail;refine dwA aB (by kernel_rfl) ?_;intro wb S H HSI F m;replace HL:=kL HL m;replace d:=O (d.keep m fun _ _=>id);replace j:=O (j.keep m fun _ _=>id);replace C:=O (m.rangeAt C.out);replace D:=O (m.rangeAt D.out);replace G:=O (G.trans m);clear m;have HLs:=HL;have HPTs:=d;have HQTs:=j;have N:=C;have P:=D;have HKs:=G;refine tna 0 (.slice (some ⟨g,o,none⟩) q vc) rfl F ?_;refine tna 1 (.int .i64 (k:Int)) rfl F ?_;refine tnb 2 (.pointer (some ⟨g,o+k*35,none⟩)) rfl F ?_;refine tnd 3 (.agg pc.toArray) rfl (yieldsIf_load_mid (by rfl) 27 (.tmp 19) rfl g (o+k*35) rfl pc _ (fun w' h=>(H.out w' h).rangeAt N.out) aH rfl (szP9 hpc)) F ?_;refine tna 4 (.slice (some ⟨g2,o2,none⟩) q uc) rfl F ?_;refine tna 5 (.int .i64 (k:Int)) rfl F ?_;refine tnb 6 (.pointer (some ⟨g2,o2+k*35,none⟩)) rfl F ?_;refine tnd 7 (.agg qc.toArray) rfl (yieldsIf_load_mid (by rfl) 27 (.tmp 23) rfl g2 (o2+k*35) rfl qc _ (fun w' h=>(H.out w' h).rangeAt P.out) aH rfl (szP9 hqc)) F ?_;refine wA9 8 ?_;go_wp2_with fail;refine((by rw[←HPC.out,←HQC.out];exact IC wb pv qv p p d.out j.out:Calls _ _ _ wb (aX wb (p.eqB p)))).mono ?_;rintro e wc ⟨rfl,K⟩;have U:=HSI.out _ ((H.out _ F).trans K);replace HL:=kL HL K;replace d:=O (d.keep K fun _ _=>id);replace j:=O (j.keep K fun _ _=>id);replace C:=O (K.rangeAt C.out);replace D:=O (K.rangeAt D.out);replace G:=O (G.trans K);clear F K;rw[LP];go_wp2_with fail;refine⟨U,?_⟩;refine tnb 9 (.bool false) rfl U ?_;refine wpAnyH_done (by kernel_rfl) ?_ _;clear U H HSI HLs HPTs HQTs N P HKs;clear HL;go_wp2
   go_roundw
   case rel=>exact⟨k+1,by omega,by go_num,G⟩
   case measure=>simp[intOf];omega
  ·obtain rfl:k=q:=by omega
   go_wp2;go_ret;exact⟨rfl,G.out⟩
def qD(w:World)(base:Nat)(ps:List (Value×Pt)):Prop:=∀x∈ps,(x.2.sum.length=32/\iA x.2.addrs)/\w.ownsRow base 82 2 x.1 x.2.addrs.length (aF x.2.addrs)
theorem qD.keep0(h:qD w base ps)(k:aA aB w w'):qD w' base ps:=fun x d=>⟨(h x d).1,k.owns (h x d).2 fun _ _=>id⟩
theorem qD.grow{i:Nat}{v:Value}{r:List Value}(h:qD w base ps)(q:w.ownsRow i 27 s v n r)(k:aA (fun j=>v.ownBlock=some j) w w'):qD w' base ps:=fun x d=>⟨(h x d).1,k.owns (h x d).2 fun j o e=>by
 obtain⟨c1,m⟩:=aO (h x d).2 o;obtain⟨c2,f⟩:=aO q e;rw[m] at f;cases f⟩
theorem qD.v{v:Value}(h:qD w base ps)(e:Rd w 35 v ps.length (ps.flatMap fun x=>aE x.1 x.2)):jW w v ps:=⟨e,fun x d=>⟨Rd.of_owns (h x d).2,(h x d).1.2,(h x d).1.1⟩⟩
def rG(w:World)(qs:List (Value×Pt))(e:Ending)(w':World):Prop:=∃v ps,e=.returned v/\ps.map (·.2)=qs.map (·.2)/\jW w' v ps/\aA aB w w'
theorem EU(w:World)(v:Value)(qs:List (Value×Pt))(h:jW w v qs)(hq:qs.length≤1000)(h8:∀x∈qs,x.2.addrs.length≤20):Calls Tryz.prog 8 #[v] w (rG w qs):=by
 obtain⟨va,vc,rfl,-,-⟩:=h.rd.form;obtain⟨q,P⟩:∃n,qs.length=n:=⟨_,rfl⟩
 have D:=O P;have HP:=O h;have H8:=O h8;rw[P] at hq ⊢;clear h h8 P;go_in;go_wp2_with fail
 go_loopw [3,4] (fun a i wr=>∃(k:Nat) (pa:Option Addr) (m:Nat) (ps:List (Value×Pt)),k≤q/\i=.int .i64 (k:Int)/\a=.slice pa k m/\Hid (ps.map (·.2)=(qs.take k).map (·.2))/\Hid (qD wr w.heap.size ps)/\Hid (aA aB w wr)/\Hid (wr.ownsRow w.heap.size 27 35 (.slice pa k m) k (ps.flatMap fun x=>aE x.1 x.2))) (fun _ i _=>q-(intOf i).toNat)
 case atStart=>exact⟨0,none,0,[],by omega,rfl,rfl,O rfl,O (fun x G=>by cases G),O (aA.refl _ _),O (World.ownsRow_nil _ _ _ _)⟩
 case round =>
  obtain⟨k,pa,m,ps,j,rfl,rfl,HT,I,E,F⟩:=hrel
  by_cases hk8:k<q
  ·have hk0:(0:Int)≤(k:Int):=by omega
   have hk1:(k:Int)<(q:Int):=by omega
   obtain⟨⟨pv,p⟩,G⟩:∃x,qs[k]?=some x:=⟨qs[k]'(by rw[D.out];exact hk8),List.getElem?_eq_getElem (by rw[D.out];exact hk8)⟩
   have V:=List.mem_of_getElem? G;have hP:=HP.keep0 E.out;have d:Hid (PtV wr pv p):=O (hP.at_ _ V);obtain⟨g,o,cap,he,hr⟩:=tI (f:=fun(x:Value×Pt)=>aE x.1 x.2) (s:=35) (fun y hy=>aJ (hP.at_ y hy).sum) (by decide) hP.rd G;rw[D.out] at he;injection he with he1 he2 he3
   subst he1;have Z:=O G;have hpc:=aJ (v:=pv) d.sum;obtain⟨pc,r⟩:∃l,aE pv p=l:=⟨_,rfl⟩
   have HOP:Hid (∀u∈pc,u.oneCell'=true):=O (by rw[←r];exact aT d.out);have HPC:=O r;have Q:wr.rangeAt g (o+k*35) (aE pv p):=hr;rw[r] at Q hpc;have A:=O Q;have HP8:Hid (p.addrs.length≤20):=O (H8.out _ V);clear G V hP hr Q r he2 he3;have W:=lN wr
   go_wp2_with ((with_reducible show WL _ _);refine wpList_load_mid rfl 27 (.tmp 14) rfl g (o+k*35) rfl pc _ A.out aH rfl (szP9 hpc) ?_)
   have HSW:=O E.size;refine((by rw[←HPC.out];exact Hj wr pv p d.out (by have:=HP8.out;omega):Calls _ _ _ wr (fun e w'=>∃v',e=.returned (.agg (aE v' p).toArray)/\w'.ownsRow wr.heap.size 82 2 v' p.addrs.length (aF p.addrs)/\aA aB wr w'))).mono ?_;rintro e wb ⟨K,rfl,M,j⟩;have H:Hid (qD wb w.heap.size [(K,p)]):=O (fun x G=>by rcases List.mem_singleton.1 G with rfl;exact⟨⟨d.sum,d.ads⟩,aQ M HSW.out⟩);have R:=aJ (v:=K) d.sum;have J:=aT (⟨Rd.of_owns M,d.ads,d.sum⟩:PtV wb K p);obtain⟨rc,z⟩:∃l,aE K p=l:=⟨_,rfl⟩
   have HOR:Hid (∀u∈rc,u.oneCell'=true):=O (by rw[←z];exact J);have HRC:=O z;rw[z] at R ⊢;clear J z M;replace W:=kL W j;replace d:=O (d.keep j fun _ _=>id);replace A:=O (j.rangeAt A.out);replace F:=O (j.owns F.out fun _ _=>id);replace I:=O (I.keep0 j);replace E:=O (E.trans j);clear j
   go_wp2_with ((with_reducible show WL _ _);refine bsA 22 27 (.tmp 16) Tryz.underlying22 oF (by omega) rc R (by omega) ?_)
   intro b17 wc hbs j hb;have X:Hid (Rd wc 35 (.slice b17 1 1) 1 rc):=O (dE (n:=1) (size:=35) hb (by rw[R]) (by unfold maxLen;omega));replace W:=lW W hbs j hb;replace d:=O (d.keep j fun _ _=>id);replace A:=O (j.rangeAt A.out);replace F:=O (j.owns F.out fun _ _=>id);replace I:=O (I.keep0 j);replace E:=O (E.trans j);replace H:=O (H.keep0 j);clear hbs j hb;have C:Hid (k+1≤maxLen/\(k+1)*72≤140737488355328/\w.heap.size≤wc.heap.size):=O ⟨by unfold maxLen;omega,by omega,E.size⟩;have Y:=O (show qD wc w.heap.size (ps++[(K,p)]) from fun x G=>(List.mem_append.1 G).elim (I.out x) (H.out x))
   go_wp2_with (at_builtin;refine aL rfl (.tmp 11) (.tmp 17) 22 rfl w.heap.size 27 (.agg aI.toArray) 35 72 Tryz.underlying22 oF rfl (by decide) (.slice pa k m) k (ps.flatMap fun x=>aE x.1 x.2) rfl F.out (.slice b17 1 1) 1 rc rfl X.out HOR.out C.1 C.2.1 C.2.2 ?_)
   intro v2 w8 N L hn5 hb5;obtain⟨g2,c2,rfl⟩:=ownsRow_succ N;have HO5:Hid (w8.ownsRow w.heap.size 27 35 (.slice g2 (k+1) c2) (k+1) ((ps++[(K,p)]).flatMap fun x=>aE x.1 x.2)):=O (by rw[List.flatMap_append,List.flatMap_cons,List.flatMap_nil,List.append_nil,HRC.out];exact N);have HU5:=O (Y.grow F.out L);have HK5:=O (E.trans' L (U:=aB) (fun _ _ h=>h) fun i hi e=>by have:=aU F.out e;omega);have HT5:Hid ((ps++[(K,p)]).map (·.2)=(qs.take (k+1)).map (·.2)):=O (by rw[List.take_add_one,Z.out,List.map_append,List.map_append,HT.out];rfl);clear N L hn5 hb5 X W F I Y E HT d A H;go_wp2
   go_roundw
   case rel=>exact⟨k+1,some ⟨g2,0,none⟩,c2,ps++[(K,p)],by omega,by go_num,rfl,HT5,HU5,HK5,HO5⟩
   case measure=>simp[intOf];omega
  ·obtain rfl:k=q:=by omega
   have HW:Hid (rG w qs (.returned (.slice pa k m)) wr):=O (by
    have h:=HT.out;rw[List.take_of_length_le (by rw[D.out];exact Nat.le_refl _)] at h;have hl2:ps.length=k:=by have:=congrArg List.length h;simp only[List.length_map] at this;rw[this,D.out]
    exact⟨_,ps,rfl,h,I.v (by rw[hl2];exact Rd.of_owns F.out),E.out⟩)
   clear F I HT;go_wp2;go_ret;exact HW.out
theorem Hk(w:World)(v:Value)(qs:List (Value×Pt))(h:jW w v qs)(hq:qs.length≤1000)(h8:∀x∈qs,x.2.addrs.length≤20):Calls Tryz.prog 11 #[v] w (gU w (cY (dL qs))):=by
 obtain⟨va,vc,rfl,-,-⟩:=h.rd.form;obtain⟨q,G⟩:∃n,qs.length=n:=⟨_,rfl⟩
 have A:=O G;have HP:=O h;have H8:=O h8;have HQ:=O hq;rw[G] at hq ⊢;clear h h8 G;go_in;go_wp2_with fail
 go_loopw [3,4] (fun a i wr=>∃(k m:Nat) (L:Option Addr) (d:Nat),k≤q/\i=.int .i64 (k:Int)/\a=.slice L m d/\Hid ((dL (qs.take k)).length=m)/\Hid (aA aB w wr)/\Hid (wr.ownsRow w.heap.size 82 2 (.slice L m d) m (aF (dL (qs.take k))))) (fun _ i _=>q-(intOf i).toNat)
 case atStart=>exact⟨0,0,none,0,by omega,rfl,rfl,O rfl,O (aA.refl _ _),O (World.ownsRow_nil _ _ _ _)⟩
 case round =>
  obtain⟨k,m,L,d,hk,rfl,rfl,Z,J,N⟩:=hrel
  by_cases R:k<q
  ·have hk0:(0:Int)≤(k:Int):=by omega
   have hk1:(k:Int)<(q:Int):=by omega
   obtain⟨⟨pv,p⟩,hx⟩:∃x,qs[k]?=some x:=⟨qs[k]'(by rw[A.out];exact R),List.getElem?_eq_getElem (by rw[A.out];exact R)⟩
   have I:=List.mem_of_getElem? hx;have hP:=HP.keep0 J.out;have r:Hid (PtV wr pv p):=O (hP.at_ _ I);obtain⟨g,o,cap,he,hr⟩:=tI (f:=fun(x:Value×Pt)=>aE x.1 x.2) (s:=35) (fun y hy=>aJ (hP.at_ y hy).sum) (by decide) hP.rd hx;rw[A.out] at he;injection he with he1 he2 he3
   subst he1;have C:=O hx;have hpc:=aJ (v:=pv) r.sum;obtain⟨pc,j⟩:∃l,aE pv p=l:=⟨_,rfl⟩
   have HOP:Hid (∀u∈pc,u.oneCell'=true):=O (by rw[←j];exact aT r.out);have HPC:=O j;have H:wr.rangeAt g (o+k*35) (aE pv p):=hr;rw[j] at H hpc;have HRA:=O H;have P:Hid (p.addrs.length≤20):=O (H8.out _ I);clear hx I hP hr H j he2 he3;obtain⟨X,Y,hpv,-,-⟩:=r.rd.form;subst hpv
   have M:Hid (m≤20000):=O (by
    have D:=wC (qs:=qs.take k) fun y hy=>H8.out y (List.mem_of_mem_take hy)
    rw[Z.out,List.length_take] at D;have K:=HQ.out;omega)
   have E:Hid (m+p.addrs.length≤maxLen/\(m+p.addrs.length)*16≤140737488355328/\w.heap.size≤wr.heap.size):=O ⟨by have D:=M.out;have K:=P.out;unfold maxLen;omega,by have D:=M.out;have K:=P.out;omega,J.size⟩;have c1:wr.cell? ⟨g,o+k*35,none⟩=some (.slice X p.addrs.length Y):=HRA.out 0 _ (by rw[←HPC.out];rfl)
   go_wp2_with (at_builtin;refine aL rfl (.tmp 11) (.tmp 16) 23 rfl w.heap.size 82 (.agg #[.int .i64 0,.int .i64 0]) 2 16 Tryz.underlying23 Fx rfl (by decide) (.slice L m d) m (aF (dL (qs.take k))) rfl N.out (.slice X p.addrs.length Y) p.addrs.length (aF p.addrs) rfl r.rd (cQ _) E.1 E.2.1 E.2.2 ?_)
   intro v2 w8 F Q hn5 hb5;obtain⟨V,W,rfl,-,-⟩:=(Rd.of_owns F).form;have HM2:Hid ((dL (qs.take (k+1))).length=m+p.addrs.length):=O (by rw[qS C.out,List.length_append,Z.out]);have z:Hid (w8.ownsRow w.heap.size 82 2 (.slice V (m+p.addrs.length) W) (m+p.addrs.length) (aF (dL (qs.take (k+1))))):=O (by rw[qS C.out,bO];exact F);have HK2:=O (J.trans' Q (U:=aB) (fun _ _ h=>h) fun i hi e=>by have D:=aU N.out e;omega);clear F Q hn5 hb5 N r J c1;go_wp2
   go_roundw
   case rel=>exact⟨k+1,m+p.addrs.length,V,W,by omega,by go_num,rfl,HM2,HK2,z⟩
   case measure=>simp[intOf];omega
  ·obtain rfl:k=q:=by omega
   have z:Hid (wr.ownsRow w.heap.size 82 2 (.slice L m d) (dL qs).length (aF (dL qs))):=O (by
    have D:=N.out;have K:=Z.out;rw[List.take_of_length_le (by rw[A.out];exact Nat.le_refl _)] at D K;rw[K];exact D)
   have HLN:Hid ((dL qs).length≤65536):=O (by
    have D:=wC H8.out;have K:=HQ.out;omega)
   clear N Z;go_wp2_with fail;refine(Im wr (.slice L m d) (dL qs) (Rd.of_owns z.out) HLN.out).mono ?_;rintro e w9 ⟨v9,rfl,ho,hk⟩;have HR:Hid (gU w (cY (dL qs)) (.returned v9) w9):=O ⟨v9,rfl,aQ ho J.size,J.trans hk⟩;clear ho hk z;go_wp2;go_ret;exact HR.out
end
end Go.Proofs.YtiinnfhjpaeffaaGreat
