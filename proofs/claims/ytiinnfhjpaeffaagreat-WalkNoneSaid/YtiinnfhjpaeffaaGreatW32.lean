import Derived.Test.YtiinnfhjpaeffaaGreatW1
import Derived.Test.YtiinnfhjpaeffaaGreatW17
import Derived.Lib.SlBytesConst
namespace Go.Proofs.YtiinnfhjpaeffaaGreat
set_option maxHeartbeats 64000000
set_option maxRecDepth 100000
set_option linter.unusedVariables false
section
open Go.RowKit Go.Maps Go.ChangeMaps
def rQ:List UInt8:=[67,65,85,76,75,69,82,50]
def ubW(u:Ub):Nat->List UInt8
 | 0=>rQ
 | 1=>u.pool
 | 2=>be u.txg.toNat 5
 | 3=>be u.len.toNat 3
 | 4=>bY u.root
 | _=>List.replicate 129 0
def ubS(u:Ub):Nat->List UInt8
 | 0=>[]
 | k+1=>ubS u k++ubW u k
def kM(u:Ub):List UInt8:=ubS u 6
def iJ(u:Ub):List UInt8:=if u.may then kM u++cR (kM u) else []
theorem xU{u:Ub}(h1:u.pool.length=32)(h2:u.root.sum.length=32):(ubS u 0).length=0/\(ubS u 1).length=8/\(ubS u 2).length=40/\(ubS u 3).length=45/\(ubS u 4).length=48/\(ubS u 5).length=95/\(ubS u 6).length=224:=by
 have h:=eP h2;simp[ubS,ubW,rQ,bH,h1,h]
theorem mY{u:Ub}(h1:u.pool.length=32)(h2:u.root.sum.length=32){k:Nat}(hk:k≤6):(ubS u k).length≤224:=by
 obtain⟨a0,a1,a2,a3,a4,a5,a6⟩:=xU h1 h2;have h:k=0\/k=1\/k=2\/k=3\/k=4\/k=5\/k=6:=by omega
 rcases h with rfl|rfl|rfl|rfl|rfl|rfl|rfl<;>omega
theorem zP{u:Ub}(h1:u.pool.length=32)(h2:u.root.sum.length=32):(kM u).length=224:=(xU h1 h2).2.2.2.2.2.2
theorem Ji{u:Ub}(h1:u.pool.length=32)(h2:u.root.sum.length=32)(hm:u.may=true):(iJ u).length=256:=by
 unfold iJ;rw[hm,if_pos rfl,List.length_append,zP h1 h2,cP]
theorem vC{u:Ub}(h:u.may=true):1≤u.txg/\u.txg≤2147483648/\0≤u.len/\u.len≤16384/\u.root.may=true:=by
 unfold Ub.may at h;simp only[Bool.and_eq_true,Bool.or_eq_true,decide_eq_true_eq] at h;obtain⟨⟨⟨⟨a,b⟩,c⟩,d⟩,e⟩:=h;refine⟨a,b,c,d,?_⟩;rcases e with e|e
 ·exact jI e
 ·exact e.1.1
theorem rR{u:Ub}(h1:u.pool.length=32)(h2:u.root.sum.length=32){k:Nat}(hk:k<6):wst (ubS u k,0) (ubW u k,0)=(ubS u (k+1),0):=by
 have h:=mY h1 h2 (k:=k+1) (by omega);show _=(ubS u k++ubW u k,(0:Int));refine lP _ _ ?_;rw[←List.length_append];show (ubS u (k+1)).length≤_;omega
theorem MR{u:Ub}(h:u.may=true):eK u.txg 5=(ubW u 2,0):=by
 have:=vC h;exact jM (by omega) (by omega) (by omega) (by simp;omega)
theorem MS{u:Ub}(h:u.may=true):eK u.len 3=(ubW u 3,0):=by
 have:=vC h;exact jM (by omega) (by omega) (by omega) (by simp;omega)
theorem NI{u:Ub}(h1:u.pool.length=32)(h2:u.root.sum.length=32):iL 224 (ubS u 5)=(ubW u 5,0):=by
 have h:=(xU h1 h2).2.2.2.2.2.1;unfold iL;rw[h,if_neg (by omega)];rfl
theorem MT(w:World)(l:List UInt8)(t:TypeId)(fr:Nat×Nat)(h:l.length≤maxLen):Rd (w.alloc (.cells (l.map vb).toArray t fr)) 1 (.slice (some ⟨w.heap.size,0,none⟩) l.length l.length) l.length (l.map vb):=by
 refine⟨by simp,_,_,rfl,Nat.le_refl _,h,(by intro h;cases h),fun _=>⟨_,0,rfl,fun i u hu=>?_⟩⟩;rw[Nat.zero_add];exact aC (heap_alloc_new _ _) (by rw[List.getElem?_toArray];exact hu)
theorem Lh{w3 w4 w5:World}{base n:Nat}{v3:Value}{l ds:List Value}{o:Obj}(ho:w3.ownsRow base 5 1 v3 n l)(hk4:aA aB w3 w4)
 (hb5:w5.heap[w4.heap.size]?=some (.cells (spl (Array.replicate 32 (.int .u8 0)) 0 ds) 25 (0,0))) (hk5:aA (fun k=>k=w4.heap.size) (w4.alloc o) w5) (hdl:ds.length=32) :
 w5.ownsRow base 5 1 v3 n l/\Rd w5 1 (.slice (some ⟨w4.heap.size,0,none⟩) 32 32) 32 ds/\aA aB w3 w5:=by
 refine⟨?_,?_,(hk4.alloc o).trans' hk5 (fun _ _ h=>h) (fun i hi e=>by have:=hk4.size;omega)⟩
 ·refine hk5.owns ((hk4.alloc o).owns ho fun _ _=>id) (fun k hk e=>?_)
  obtain⟨cur,hc⟩:=aL (hk4.owns ho fun _ _=>id) hk;have:=lt_of_block hc;omega
 ·refine⟨by simpa using hdl,_,32,rfl,Nat.le_refl _,by unfold maxLen;omega,(by intro h;cases h),fun _=>⟨_,0,rfl,fun i u hu=>?_⟩⟩
  rw[Nat.zero_add];refine aC hb5 ?_;rw[aI _ _ (by simpa using hdl)]
  simpa using hu
def Bw(w:World)(u:Ub)(e:Ending)(w':World):Prop:=
 ∃v,e=.returned (.tuple #[v,.int .i64 (if u.may then 0 else 2)])/\w'.ownsRow w.heap.size 5 1 v (iJ u).length ((iJ u).map vb)/\aA aB w w'
def DM(w:World)(u:Ub)(e:Ending)(w':World):Prop:=
 ∃v,e=.returned (.tuple #[v,.int .i64 (if u.may then 0 else 2)])/\w'.ownsRow w.heap.size 5 1 v (iJ u).length ((iJ u).map vb)/\aA aB w w'/\Fit IsB w' v
theorem Jj{wr:World}{b:Nat}{uv:Value}{u:Ub}(h1:u.pool.length=32)(h2:u.root.sum.length=32)(hb:wr.heap[b]?=some (.cells (dP uv u).toArray 45 (0,0))) :
 Rd wr 1 (.slice (some ⟨b,37,none⟩) 32 32) u.pool.length (u.pool.map vb):=by
 obtain⟨-,-,-,hd⟩:=fY h2 (aD hb);rw[Nat.zero_add] at hd;refine⟨by simp,_,32,by rw[h1],by rw[h1];omega,by unfold maxLen;omega,(by intro h;cases h),fun _=>⟨b,37,rfl,fun i u hu=>?_⟩⟩;exact hd i u hu
structure UkW(w wr:World)(u:Ub)(uv pv:Value)(base p k:Nat):Prop where
 blk:wr.heap[w.heap.size]?=some (.cells (dP uv u).toArray 45 (0,0))
 wrt:∃v,Wr wr base p v (ubS u k) 0
 rd:Rd wr 1 pv (bY u.root).length ((bY u.root).map vb)
 pl:∀i,pv.ownBlock=some i->i<base
 keep:aA aB w wr
 le:w.heap.size<base
theorem UkW.same{w wr w':World}{u:Ub}{uv pv:Value}{base p k:Nat}(h:UkW w wr u uv pv base p k)(hk:aA aB wr w'):UkW w w' u uv pv base p k:=
 ⟨hk.blk h.blk id,by obtain⟨v,hv⟩:=h.wrt;exact⟨v,hv.keep hk id (fun _ _=>id)⟩,h.rd.keep hk (fun _ _=>id),h.pl,h.keep.trans hk,h.le⟩
theorem UkW.next{w wr w2:World}{u:Ub}{uv pv v:Value}{base p k:Nat}{e:Ending}(h:UkW w wr u uv pv base p k)(hv:Wr wr base p v (ubS u k) 0)(hp:dN wr base p v (ubS u (k+1),0) e w2):UkW w w2 u uv pv base p (k+1):=by
 obtain⟨-,v',hw',hk,-⟩:=hp
 have hne:∀i,i<base->¬(i=p\/v.ownBlock=some i):=by
  rintro i hi (rfl|h3)
  ·have:=hv.le;omega
  ·have:=aS hv.own h3;omega
 exact⟨hk.blk h.blk (hne _ h.le),⟨v',hw'⟩,h.rd.keep hk (fun i hi=>hne i (h.pl i hi)),h.pl,h.keep.trans' hk (fun _ _ h=>h) (fun i hi h3=>hne i (by have:=h.le;omega) h3),h.le⟩
theorem GH{w:World}{v:Value}{u:Ub}(h:PtV w v u.root)(hm:u.root.may=true)(wx:World)(k:aA aB w wx):Calls Tryz.prog 139 #[.agg (aE v u.root).toArray] wx fun e w' =>
 ∃x,e=.returned (.tuple #[x,.int .i64 0])/\w'.ownsRow wx.heap.size 5 1 x (bY u.root).length ((bY u.root).map vb)/\aA aB wx w':=by
 refine(uB wx v u.root (h.keep k fun _ _=>id)).mono ?_;rintro e w' ⟨x,rfl,ho,hk⟩;unfold ptB at ho;rw[hm,if_pos rfl] at ho;exact⟨x,by rw[hm];rfl,ho,hk⟩
theorem Li(w:World)(v:Value)(u:Ub)(h0:UbV w v u)(hm:u.may=false):Calls Tryz.prog 100 #[.agg (dP v u).toArray] w (DM w u):=by
 obtain⟨oa,ca,hv,-,-⟩:=h0.root.rd.form;subst hv;obtain⟨n,hn⟩:∃x,u.root.addrs.length=x:=⟨_,rfl⟩
 rw[hn] at h0 ⊢;have HP:=O h0.pool;have HSU:=O h0.root.sum;have HM:=O hm;obtain⟨w1,hw1,hk1,hb_0,hs1⟩:=aT w (dP (.slice oa n ca) u).toArray 45;have HC:=O (sH w1 (.slice oa n ca) u (h0.keep hk1 fun _ _=>id));unfold lL at HC;rw[hm] at HC;have HB0:=O hb_0;have HUB:=O (aD hb_0);obtain⟨-,r0,-,-⟩:=fY h0.root.sum (aD hb_0);have HR0:=O r0;have hl0:(aE (.slice oa n ca) u.root).length=35:=aJ h0.root.sum;have hul:(dP (.slice oa n ca) u).length=69:=kS h0.root.sum h0.pool;obtain⟨uc,huc⟩:∃x,dP (.slice oa n ca) u=x:=⟨_,rfl⟩
 have HUC:=O huc;have HK:=O hk1;have hs1':w1.heap.size=w.heap.size+1:=hs1;rw[huc] at hw1 HUB HC hul ⊢;clear h0 hm huc hb_0 HB0 r0 hk1 hs1 hs1' HR0 hl0;go_in
 go_wp2_with (first
  | ((with_reducible show WL _ (.load 45 (.tmp 1)));refine aM (by rfl) 45 (.tmp 1) rfl (w.heap.size) 0 rfl uc _ HUB.out lC rfl (EK hul) ?_))
 refine HC.out.mono ?_;rintro e w2 ⟨rfl,hk2⟩;have HK2:=O (HK.out.trans hk2);clear hk2 HC;go_wp2
 go_ret2
 refine⟨_,by rw[HM.out];rfl,?_,HK2.out,Fit.nil _ _⟩;rw[show iJ u=[] by unfold iJ;rw[HM.out];rfl];exact World.ownsRow_nil _ _ _ _
theorem Jk(w:World)(v:Value)(u:Ub)(h0:UbV w v u)(hm:u.may=true):Calls Tryz.prog 100 #[.agg (dP v u).toArray] w (DM w u):=by
 obtain⟨oa,ca,hv,-,-⟩:=h0.root.rd.form;subst hv;obtain⟨n,hn⟩:∃x,u.root.addrs.length=x:=⟨_,rfl⟩
 rw[hn] at h0 ⊢;have HP:=O h0.pool;have HSU:=O h0.root.sum;have HM:=O hm;obtain⟨w1,hw1,hk1,hb_0,hs1⟩:=aT w (dP (.slice oa n ca) u).toArray 45;have HC:=O (sH w1 (.slice oa n ca) u (h0.keep hk1 fun _ _=>id));unfold lL at HC;rw[hm] at HC;have HB0:=O hb_0;have HUB:=O (aD hb_0);obtain⟨-,r0,-,-⟩:=fY h0.root.sum (aD hb_0);have HR0:=O r0;have hl0:(aE (.slice oa n ca) u.root).length=35:=aJ h0.root.sum;have hul:(dP (.slice oa n ca) u).length=69:=kS h0.root.sum h0.pool;obtain⟨uc,huc⟩:∃x,dP (.slice oa n ca) u=x:=⟨_,rfl⟩
 have HUC:=O huc;have HK:=O hk1;have hs1':w1.heap.size=w.heap.size+1:=hs1;have HBY:=O (GH (u:=u) h0.root (vC hm).2.2.2.2);have hpl:=eP h0.root.sum;obtain⟨pc,hpc⟩:∃x,aE (.slice oa n ca) u.root=x:=⟨_,rfl⟩
 have HPL:=O hpl;have kc:=fun(w:World) (C:Array Value) (n c:Nat)=>Lib.run_convert_bytes_const (P:=Tryz.prog) w 109 5 C n c Tryz.underlying109 Tryz.underlying5
 rw[huc] at hw1 HUB HC hul ⊢;rw[hpc] at HR0 hl0 HBY;clear h0 hm huc hpc hb_0 r0 hk1 hs1 hpl;go_in
 go_wp2_with (first
  | ((with_reducible show WL _ (.load 45 (.tmp 1)));refine aM (by rfl) 45 (.tmp 1) rfl (w.heap.size) 0 rfl uc _ HUB.out lC rfl (EK hul) ?_))
 refine HC.out.mono ?_;rintro e w2 ⟨rfl,hk2⟩;have HK2:=O (HK.out.trans hk2);have HR0:=O (hk2.rangeAt HR0.out);have HB2:=O (hk2.blk HB0.out id);have hs2:w1.heap.size≤w2.heap.size:=hk2.size;clear hk2 HC HB0
 go_wp2_with (first
  | ((with_reducible show WL _ (.load 27 (.tmp 16)));refine aM (by rfl) 27 (.tmp 16) rfl (w.heap.size) 1 rfl pc _ HR0.out aF rfl (cH hl0) ?_))
 refine(HBY.out _ HK2.out).mono ?_;rintro e w3 ⟨pv,rfl,ho3,hk3⟩;obtain⟨ap,cp,rfl,-,-⟩:=(Rd.of_owns ho3).form;have HB3:=O (hk3.blk HB2.out id);have HO3:=O ho3;have HK3:=O (HK2.out.trans hk3);have hs3:w2.heap.size≤w3.heap.size:=hk3.size;clear hk3 ho3 HBY HB2;go_wp2_with fail;refine(EI _).mono ?_;rintro e w4 ⟨p,rfl,hwr,hk4,hp⟩;have U0:Hid (UkW w w4 u (.slice oa n ca) (.slice ap (bY u.root).length cp) w3.heap.size p 0):=O ⟨hk4.blk HB3.out id,⟨_,hwr⟩,(Rd.of_owns HO3.out).keep hk4 (fun _ _=>id),fun i hi=>by obtain⟨cur,hc⟩:=aL HO3.out hi;exact lt_of_block hc,HK3.out.trans hk4,by omega⟩;have HS:=O (show w.heap.size≤w3.heap.size by omega);clear hwr hk4 hp HB3 HO3 HK3 hs1' hs2 hs3;go_wp2_with fail;have U0:=O (U0.out.same (w':=w4.alloc (.cells (rQ.map vb).toArray 5 (8,9))) ((aA.refl _ _).alloc _));obtain⟨v0,hv0⟩:=U0.out.wrt;have HV0:=O hv0;clear hv0;refine(rI p _ rQ _ _ _ _ 0 HV0.out (Nat.le_trans (mY HP.out HSU.out (k:=0) (by omega)) (by omega)) (MT w4 rQ 5 (8,9) (by decide)) (by decide)).mono ?_;rintro e w5 h1;rw[show (rQ,(0:Int))=(ubW u 0,0) from rfl,rR HP.out HSU.out (by omega)] at h1;have U1:=O (U0.out.next HV0.out h1);obtain rfl:=h1.1;clear h1 U0 HV0 kc;obtain⟨v1,hv1⟩:=U1.out.wrt;have HV1:=O hv1;clear hv1;go_wp2_with fail;refine(rI p _ u.pool _ _ _ _ 0 HV1.out (Nat.le_trans (mY HP.out HSU.out (k:=1) (by omega)) (by omega)) (Jj HP.out HSU.out U1.out.blk) (by rw[HP.out];omega)).mono ?_;rintro e w6 h1;rw[show (u.pool,(0:Int))=(ubW u 1,0) from rfl,rR HP.out HSU.out (by omega)] at h1;have U2:=O (U1.out.next HV1.out h1);obtain rfl:=h1.1;clear h1 U1 HV1;obtain⟨v2,hv2⟩:=U2.out.wrt;have HV2:=O hv2;clear hv2;obtain⟨c0,-,c2,-⟩:=fY HSU.out (aD U2.out.blk);simp only[Nat.zero_add] at c0 c2;go_wp2_with fail;refine(mH p u.txg 5 _ _ _ _ 0 HV2.out (Nat.le_trans (mY HP.out HSU.out (k:=2) (by omega)) (by omega))).mono ?_;rintro e w7 h1;rw[MR HM.out,rR HP.out HSU.out (by omega)] at h1;have U3:=O (U2.out.next HV2.out h1);obtain rfl:=h1.1;clear h1 U2 HV2 c0 c2;obtain⟨v3,hv3⟩:=U3.out.wrt;have HV3:=O hv3;clear hv3;obtain⟨c0,-,c2,-⟩:=fY HSU.out (aD U3.out.blk);simp only[Nat.zero_add] at c0 c2;go_wp2_with fail;refine(mH p u.len 3 _ _ _ _ 0 HV3.out (Nat.le_trans (mY HP.out HSU.out (k:=3) (by omega)) (by omega))).mono ?_;rintro e w8 h1;rw[MS HM.out,rR HP.out HSU.out (by omega)] at h1;have U4:=O (U3.out.next HV3.out h1);obtain rfl:=h1.1;clear h1 U3 HV3 c0 c2;obtain⟨v4,hv4⟩:=U4.out.wrt;have HV4:=O hv4;clear hv4;go_wp2_with fail;refine(rI p _ (bY u.root) _ _ _ _ 0 HV4.out (Nat.le_trans (mY HP.out HSU.out (k:=4) (by omega)) (by omega)) U4.out.rd (by rw[HPL.out];omega)).mono ?_;rintro e w9 h1;rw[show (bY u.root,(0:Int))=(ubW u 4,0) from rfl,rR HP.out HSU.out (by omega)] at h1;have U5:=O (U4.out.next HV4.out h1);obtain rfl:=h1.1;clear h1 U4 HV4;obtain⟨v5,hv5⟩:=U5.out.wrt;have HV5:=O hv5;clear hv5;go_wp2_with fail;refine(EJ p 224 _ _ _ _ 0 HV5.out (Nat.le_trans (mY HP.out HSU.out (k:=5) (by omega)) (by omega))).mono ?_;rintro e w10 h1;rw[NI HP.out HSU.out,rR HP.out HSU.out (by omega)] at h1;have U6:=O (U5.out.next HV5.out h1);obtain rfl:=h1.1;clear h1 U5 HV5;obtain⟨v6,hv6⟩:=U6.out.wrt;have HV6:=O hv6;clear hv6;have HBL:=O (zP HP.out HSU.out);have HV6:Hid (Wr w10 w3.heap.size p v6 (kM u) 0):=HV6;have HKW:=O U6.out.keep;clear U6;go_wp2_with fail;refine(EP p w10 _ v6 _ 0 HV6.out (by rw[HBL.out];omega)).mono ?_;rintro e w11 ⟨v11,rfl,hown,hk11,hft11⟩;rw[if_pos rfl] at hown;have hrd:=Rd.of_owns hown;obtain⟨a3,c3,rfl,-,-⟩:=hrd.form;have HO:=O hown;have HR:=O hrd;have HF3:=O hft11;have HK3:=O (HKW.out.trans hk11);have hk3s:=hk11.size;have hle:w.heap.size≤w10.heap.size:=HKW.out.size;clear hown hrd hk11 hft11 HV6;go_wp2_with fail;refine(vH _ (kM u) w11 HR.out (by rw[HBL.out];omega)).mono ?_;rintro e w12 ⟨rfl,hk12⟩;obtain⟨ds,hds⟩:∃ds,(cR (kM u)).map vb=ds:=⟨_,rfl⟩
 have hdl:ds.length=32:=by rw[←hds];simp[cP]
 have hdo:∀u∈ds,u.oneCell'=true:=by rw[←hds];exact bN _
 rw[hds];have HDS:=O hds;have HK12:=O hk12;clear hds hk12
 go_wp2_with (first
  | (refine aR rfl 25 rfl uA yJ (Array.replicate 32 (.int .u8 0)) rfl ?_)
  | ((with_reducible show WL none (.store 25 (.tmp 9) (.tmp 55)));refine aP rfl 25 (.tmp 9) (.tmp 55) rfl w12.heap.size 0 ds rfl rfl _ _ (heap_alloc_new _ _) (by rw[hdl];simp) (by rw[hdl];exact nS) hdo ?_;intro w13 hb13 hk13;have HAP:=O (Lh HO.out HK12.out hb13 hk13 hdl);have hsz:w10.heap.size≤w13.heap.size:=Nat.le_trans hk3s HAP.out.2.2.size;clear hb13 hk13)
  | (at_builtin;refine kH rfl (.tmp 56) (.tmp 57) 109 rfl w10.heap.size 5 _ 1 1 Tryz.underlying109 fN rfl (by omega) (.slice a3 (kM u).length c3) (kM u).length _ rfl HAP.out.1 (.slice (some ⟨w12.heap.size,0,none⟩) 32 32) 32 ds rfl HAP.out.2.1 hdo (by unfold maxLen;have:=HBL.out;omega) (by have:=HBL.out;omega) hsz IsB xB (by rw[←HDS.out];exact Ag _) (HF3.out.keep HAP.out.2.2 (fun g hg=>⟨by obtain⟨cur,hc⟩:=aL HO.out hg;exact lt_of_block hc,id⟩)) ?_;intro v14 w14 hown6 hk6 hnil hat hft;obtain⟨a6,c6,rfl,-,-⟩:=(Rd.of_owns hown6).form;have HO6:=O hown6;have HK6:=O hk6;have HF6:=O hft;clear hown6 hk6 hnil hat hft))
 go_ret2
 refine⟨_,by rw[HM.out];rfl,?_,?_,by simpa using HF6.out⟩
 ·have h1:(iJ u).length=(kM u).length+32:=by unfold iJ;rw[HM.out];simp[cP]
  have h2:(iJ u).map vb=(kM u).map vb++ds:=by unfold iJ;rw[HM.out,←HDS.out];simp
  rw[h1,h2];exact aV HO6.out hle
 ·exact(HK3.out.trans HAP.out.2.2).trans' HK6.out (fun _ _ h=>h) (fun i hi e=>by have:=aS HO.out e;omega)
theorem Jl(w:World)(v:Value)(u:Ub)(h0:UbV w v u):Calls Tryz.prog 100 #[.agg (dP v u).toArray] w (DM w u):=by
 rcases hm:u.may with _|_
 ·exact Li w v u h0 hm
 ·exact Jk w v u h0 hm
theorem Jm(w:World)(v:Value)(u:Ub)(h0:UbV w v u):Calls Tryz.prog 100 #[.agg (dP v u).toArray] w (Bw w u):=
 (Jl w v u h0).mono fun _ _ ⟨v,h1,h2,h3,_⟩=>⟨v,h1,h2,h3⟩
end
end Go.Proofs.YtiinnfhjpaeffaaGreat
