import Derived.Test.YtiinnfhjpaeffaaGreatW1
import Derived.Test.YtiinnfhjpaeffaaGreatW22
import Derived.Test.YtiinnfhjpaeffaaGreatW23
namespace Go.Proofs.YtiinnfhjpaeffaaGreat
set_option maxHeartbeats 64000000
set_option maxRecDepth 100000
set_option linter.unusedVariables false
section
open Go.RowKit Go.Maps Go.ChangeMaps
theorem Kt:Tryz.prog.underlying 293=some (.struct (Tryz.prog.fieldsOf 293)):=by kernel_rfl
theorem xF:(Tryz.prog.info? 293).map (·.size)=some 2:=by kernel_rfl
theorem Ku(p:Option Addr)(n c:Nat)(w:World):(Instr.build 293 #[(0,.int .i64 0),(1,.slice p n c)]).run Tryz.prog w=.ok (.agg #[.int .i64 0,.slice p n c]) w:=by kernel_rfl
def Dc(w:World)(b:List UInt8)(e:Ending)(w':World):Prop:=∃v,e=.returned (.agg #[.int .i64 0,v])/\w'.ownsRow w.heap.size 5 1 v 256 (b.map vb)/\aA aB w w'
theorem Kv{w:World}{m a D Z nw:Nat}{B:Nat->Prop}{Mm:Nat->Nat->List UInt8}(h:bM w a B D Z Mm nw)(hm:eL w m a){d s:Nat}(hd:d<D)(hs:s<Z)(sum:List UInt8)(hsum:sum=cR (Mm d s)) :
 Calls Tryz.prog 246 #[.pointer (some ⟨m,0,none⟩),.agg (aO ⟨(d:Int),(s:Int)⟩).toArray,.agg (sum.map vb).toArray] w (Dc w (Mm d s)):=by
 have hml:=h.len hd hs;have hsl:sum.length=32:=by rw[hsum,cP]
 have HNE:Hid (∀w,(binOp .neq 25 (.agg ((cR (Mm d s)).map vb).toArray) (.agg (sum.map vb).toArray)).run Tryz.prog w=.ok (.bool false) w):=O (fun w=>by
  have:=yC (FM (cR (Mm d s)) sum (by rw[cP]) hsl w);rw[this,decide_eq_true hsum.symm];rfl)
 obtain⟨sc,hsce⟩:∃l,sum.map vb=l:=⟨_,rfl⟩
 have hsc:sc.length=32:=by rw[←hsce,List.length_map,hsl]
 have HOS:Hid (∀u∈sc,u.oneCell'=true):=O (by rw[←hsce];exact bN _);rw[hsce] at HNE ⊢;obtain⟨dg,hdg⟩:∃l,(cR (Mm d s)).map vb=l:=⟨_,rfl⟩
 rw[hdg] at HNE;have HDG:=O hdg;have HA:=O h;have HMM:=O hm;have HML:=O hml;have HL:=lN w;have HK0:=O (aA.refl aB w);have hbC:=Ku;clear h hm hml hsce hdg hsum hsl;go_in
 go_wp2_with ((with_reducible show WL _ _);refine bxL HL 82 (.tmp 1) ((aO ⟨(d:Int),(s:Int)⟩).toArray) ?_)
 intro b4 w1 hk HL;replace HA:=O (HA.out.keep0 hk);replace HMM:=O (hk.blk HMM.out id);clear hk
 go_wp2_with ((with_reducible show WL _ _);refine bxL HL 25 (.tmp 2) (sc.toArray) ?_)
 intro b5 w2 hk HL;replace HA:=O (HA.out.keep0 hk);replace HMM:=O (hk.blk HMM.out id);clear hk
 go_wp2_with ((with_reducible show WL _ _);refine alL HL 293 (.agg #[.int .i64 0,.slice none 0 0]) (#[.int .i64 0,.slice none 0 0]) Db ?_)
 intro b6 w3 hk HL;replace HA:=O (HA.out.keep0 hk);replace HMM:=O (hk.blk HMM.out id);clear hk;go_wp2_with fail;refine dwA aB (by kernel_rfl) ?_;intro w4 S HSE HSI hS hkd;replace HL:=kL HL hkd;replace HA:=O (HA.out.keep0 hkd);replace HMM:=O (hkd.blk HMM.out id);clear hkd;have HLs:=HL;have HAs:=HA;have HMMs:=HMM;refine tna 0 (.pointer (some ⟨m,0,none⟩)) rfl hS ?_;refine tnb 1 (.pointer (some ⟨m,0,none⟩)) rfl hS ?_;refine tnb 2 (.pointer (some ⟨m,0,none⟩)) rfl hS ?_;refine tnd 3 (.pointer (some ⟨a,0,none⟩)) rfl (.inl ⟨by rfl,fun w' hw'=>by have c:World.cell? w' ⟨m,0,none⟩=some (.pointer (some ⟨a,0,none⟩)):=(HSE.out w' hw').cell (eL.c0 HMMs.out) id;go_simp⟩) hS ?_;refine tnb 4 (.pointer (some ⟨b4,0,none⟩)) rfl hS ?_;refine tnd 5 (.int .i64 (d:Int)) rfl (.inl ⟨by rfl,fun w' hw'=>by have c:World.cell? w' ⟨b4,0,none⟩=some (.int .i64 (d:Int)):=(aC (i:=0) ((HSE.out w' hw').blk (HLs.out.b 2) id) rfl);go_simp⟩) hS ?_;refine tnb 6 (.pointer (some ⟨b4,1,none⟩)) rfl hS ?_;refine tnd 7 (.int .i64 (s:Int)) rfl (.inl ⟨by rfl,fun w' hw'=>by have c:World.cell? w' ⟨b4,1,none⟩=some (.int .i64 (s:Int)):=(aC (i:=1) ((HSE.out w' hw').blk (HLs.out.b 2) id) rfl);go_simp⟩) hS ?_;refine wA9 8 ?_;go_wp2_with fail;have HB6:=O (HL.out.lt 0).2;have HB6g:=O (HL.out.lt 0).1;refine(N5 HA.out hd hs).mono ?_;rintro e w5 ⟨v0,rfl,ho,hk⟩;have hS1:=HSI.out _ ((HSE.out _ hS).trans hk);replace HL:=kL HL hk;replace HA:=O (HA.out.keep0 hk);replace HMM:=O (hk.blk HMM.out id);clear hS hk;obtain⟨pv,cv,rfl,-,-⟩:=(Rd.of_owns ho).form;have HO:=O ho;have HSZ:=O (Nat.le_of_lt (Nat.lt_of_le_of_lt HB6g.out HB6.out));have hb6:b6<w4.heap.size:=HB6.out;clear ho;go_wp2_with fail;refine⟨hS1,?_⟩;refine tna 9 (.tuple #[.slice pv 256 cv,.int .i64 0]) rfl hS1 ?_;refine tnb 10 (.slice pv 256 cv) rfl hS1 ?_;refine tnb 11 (.int .i64 0) rfl hS1 ?_;refine tna 12 (.slice pv 256 cv) rfl hS1 ?_;refine tna 13 (.int .i64 0) rfl hS1 ?_;refine wpAnyH_done (by kernel_rfl) ?_ _;clear hS1 HSE HSI HLs HAs HMMs;clear HA HMM;go_wp2_with fail;refine dwA aB (by kernel_rfl) ?_;intro w6 S HSE HSI hS hkd;replace HL:=kL HL hkd;replace HO:=O (hkd.owns HO.out fun _ _=>id);clear hkd;have HLs:=HL;have HOs:=HO;refine tna 0 (.slice pv 256 cv) rfl hS ?_;refine tnd 2 (.agg sc.toArray) rfl (yieldsIf_load_mid (by rfl) 25 (.tmp 5) rfl b5 0 rfl sc _ (fun w' h=>aD ((HSE.out w' h).blk (HLs.out.b 1) id)) Tryz.underlying25 rfl (by rw[hsc];exact uH)) hS ?_;refine wA9 1 ?_;go_wp2_with fail;refine(vH _ (Mm d s) w6 (by rw[HML.out];exact Rd.of_owns HO.out) (by rw[HML.out];decide)).mono ?_;rintro e w7 ⟨rfl,hk⟩;have hS1:=HSI.out _ ((HSE.out _ hS).trans hk);replace HL:=kL HL hk;replace HO:=O (hk.owns HO.out fun _ _=>id);clear hS hk;rw[HDG.out];go_wp2_with fail;refine⟨hS1,?_⟩;refine tnd 3 (.bool false) rfl (pI (by rfl) 25 (.tmp 39) (.tmp 40) 25 rfl dg.toArray sc.toArray rfl rfl L5 HNE.out) hS1 ?_;refine tna 4 (.bool false) rfl hS1 ?_;refine wpAnyH_done (by kernel_rfl) ?_ _;clear hS1 HSE HSI HLs HOs
 go_wp2_with ((with_reducible show WL _ _);refine sta 293 (.tmp 6) (.tmp 48) b6 0 ([.int .i64 0,.slice pv 256 cv]) (HL.out.b 0) (by first|decide|(rw[rfl];exact Nat.le_refl _)|simp[]) xF (by intro v hv;simp only[List.mem_cons,List.not_mem_nil,or_false] at hv;rcases hv with rfl|rfl<;>rfl) ?_)
 intro w8 hk hb;rw[aI _ _ (by first|rfl|simp[])] at hb;replace HL:=O (HL.out.set 0 hk hb);replace HO:=O (hk.owns HO.out fun i hi e=>by have:=aS HO.out hi;omega);clear hk hb;have HP:Hid (Dc w (Mm d s) (.returned (.agg #[.int .i64 0,.slice pv 256 cv])) w8):=O ⟨_,rfl,aV HO.out (HSZ.out),HL.out.keep⟩;have HB:=O (HL.out.b 0);clear HO HL;go_wp2_with fail;refine bodyPost_ret (results_cell_row rfl _ _ b6 _ _ _ _ rfl HB.out Kt rfl xF) rfl ?_;exact HP.out
def yU(x0:Ad)(x:Option Addr×Nat):Array Value:=#[.agg (aO x0).toArray,.agg #[.int .i64 0,.slice x.1 256 x.2]]
def CpR(bs:List UInt8)(x:Option Addr×Nat)(A B:World):Prop:=aA aB A B/\B.ownsRow A.heap.size 5 1 (.slice x.1 256 x.2) 256 (bs.map vb)
theorem Ei{w:World}{m a D Z nw b3 b4 b5:Nat}{B Res:Nat->Prop}{Mm:Nat->Nat->List UInt8}(h:bM w a B D Z Mm nw)(hm:eL w m a)(pv:Value)(p:Pt)(hp:PtV w pv p){d s:Nat}{rest:List Ad}(hpa:p.addrs=⟨(d:Int),(s:Int)⟩::rest)(hd:d<D)(hs:s<Z)(hsum:p.sum=cR (Mm d s))
 (h4:w.heap[b4]?=some (.cells (aE pv p).toArray 27 (0,0))) (h5:w.heap[b5]?=some (.cells #[.int .i64 (-1)] 3 (0,0))) (h3:w.heap[b3]?=some (.cells #[.pointer (some ⟨m,0,none⟩)] 41 (0,0))) (hRes:∀k,Res k->k<w.heap.size/\k≠b3/\k≠b4/\k≠b5) (n:Nat) :
 ∀(l:Nat) (Jx:Option Addr×Nat->World->Prop) (W:World),aA aB w W->(∀x W1,CpR (Mm d s) x W W1->YieldAt Fence.wide (n-1) Tryz.prog l (yU ⟨(d:Int),(s:Int)⟩ x) W1 fun e W'=>e=.returned (.bool false)/\Jx x W'/\KpC Res W1 W') ->
  CallsIn Fence.wide n Tryz.prog 245 (#[.func (.yield l) #[] #[]]++#[.pointer (some ⟨b4,0,none⟩),.pointer (some ⟨b5,0,none⟩),.pointer (some ⟨b3,0,none⟩)]) W fun e W'=>(∃v,e=.returned v)/\∃x,Jx x W':=by
 intro l Jx W hk hy;obtain⟨oa,ca,rfl,-,-⟩:=hp.rd.form;have hrd:=(hp.keep hk fun _ _=>id).rd;obtain⟨g,o,cap',hv,hat⟩:=iX hrd (k:=0) (x:=⟨(d:Int),(s:Int)⟩) (by rw[hpa];rfl);obtain rfl:oa=some ⟨g,o,none⟩:=by cases hv;rfl
 rw[Nat.zero_mul,Nat.add_zero] at hat;obtain⟨q,hq⟩:∃q,p.addrs.length=q:=⟨_,rfl⟩
 have hq0:0<q:=by rw[←hq,hpa];simp
 have hq1:(0:Int)<(q:Int):=by omega
 have hsl:p.sum.length=32:=hp.sum;rw[hq] at h4;have HX:=O hat;have HD:=O hd;have HZ:=O hs;have HSM:=O hsum;have HSL:=O hsl;have H4:=O (hk.blk h4 id);have H5:=O (hk.blk h5 id);have H3:=O (hk.blk h3 id);have HA:=O (h.keep0 hk);have HMM:Hid (eL W m a):=O (hk.blk hm id);have HY:=O hy;have HR:=O hRes;have HWS:=O hk.size;have c0:W.cell? ⟨b4,0,none⟩=some (.slice (some ⟨g,o,none⟩) q ca):=aC (i:=0) H4.out (by rw[List.getElem?_toArray];rfl);clear h hm hsum hsl h4 h5 h3 hk hy hRes hrd hv hat hp hq;refine callsIn_of_wp Tryz.func245 rfl trivial ?_ rfl;simp only[Tryz.ntmps245,List.size_toArray,List.length_cons,List.length_nil,Nat.reduceAdd,Nat.reduceSub,Array.replicate_succ,Array.replicate_zero,List.push_toArray,List.append_toArray,List.nil_append,List.cons_append]
 gi_wp2
 clear c0
 gi_loopw [10] (fun i wr=>i=.int .i64 0/\Hid (aA aB W wr)) (fun _ _=>0)
 case atStart=>exact⟨rfl,O (aA.refl _ _)⟩
 case round =>
  obtain⟨rfl,HK⟩:=hrel;obtain⟨C,hC⟩:∃C,wr.heap.size=C:=⟨_,rfl⟩
  have hxc:=HK.out.rangeAt HX.out
  gi_wp2_with (first
   | (refine kD rfl 82 (.tmp 12) rfl g o rfl (aO ⟨(d:Int),(s:Int)⟩) _ hxc bS rfl (by rw[bC];exact bW) ?_)
   | (refine oJ rfl 82 rfl eF eC #[.int .i64 0,.int .i64 0] rfl ?_)
   | (refine nM rfl 82 (.tmp 6) (.tmp 13) rfl wr.heap.size 0 (aO ⟨(d:Int),(s:Int)⟩) rfl rfl #[.int .i64 0,.int .i64 0] _ (heap_alloc_new _ _) (by rw[bC];simp) (by rw[bC];exact bW) (bL _) ?_;intro w3 hb3 hk3
      rw[aI _ _ (by rw[bC];simp)] at hb3)
   | gi_in)
  have hkw:aA aB wr w3:=((aA.refl aB wr).alloc _).trans' hk3 (fun _ _ h=>h) (fun i hi e=>by omega);have HC0:=O HK.out.size;replace HK:=O (HK.out.trans hkw);clear hk3 hxc hkw;rw[hC] at hb3 HC0 ⊢;have HS0:=O (And.intro hb3 (And.intro (HK.out.blk H4.out id) (And.intro (HK.out.blk H5.out id) (HK.out.blk H3.out id))));clear hb3 hC H4 H5 H3;obtain⟨S,hS0⟩:∃S:World->Prop,S=fun w'=>w'.heap[C]?=some (.cells (aO ⟨(d:Int),(s:Int)⟩).toArray 82 (0,0))/\w'.heap[b4]?=some (.cells (aE (.slice (some ⟨g,o,none⟩) q ca) p).toArray 27 (0,0))/\w'.heap[b5]?=some (.cells #[.int .i64 (-1)] 3 (0,0))/\w'.heap[b3]?=some (.cells #[.pointer (some ⟨m,0,none⟩)] 41 (0,0)):=⟨_,rfl⟩
  have HSE:=O (show ∀w',S w'->_ from fun w' h=>by rw[hS0] at h;exact h);have HSI:=O (show ∀w',_->S w' from fun w' h=>by rw[hS0];exact h);have hS:S w3.drew:=HSI.out _ (by have:=HS0.out;exact this);have hkd:=(aA.refl aB w3).drew;clear hS0 HS0;refine vU (S:=S) (by kernel_rfl) ?_;change eB _ _ _ _ _ _ _ _ _ w3.drew;generalize w3.drew=w4 at hS hkd ⊢;replace HK:=O (HK.out.trans hkd);clear hkd;refine tib 0 (.pointer (some ⟨C,0,none⟩)) rfl hS ?_;refine tid 1 (.int .i64 (d:Int)) rfl (.inl ⟨by rfl,fun w' hw'=>by have c:World.cell? w' ⟨C,0,none⟩=some (.int .i64 (d:Int)):=aC (i:=0) (HSE.out w' hw').1 rfl;go_simp⟩) hS ?_;refine tid 2 (.int .i64 (-1)) rfl (.inl ⟨by rfl,fun w' hw'=>by have c:World.cell? w' ⟨b5,0,none⟩=some (.int .i64 (-1)):=aC (i:=0) (HSE.out w' hw').2.2.1 rfl;go_simp⟩) hS ?_
  refine tid 3 (.bool true) rfl (.inl ⟨by rfl,fun w' hw'=>by
   have e:(d:Int)≠-1:=by omega
   go_simp⟩) hS ?_
  refine tia 4 (.bool true) rfl hS ?_;refine tia 5 (.func (.yield l) #[] #[]) rfl hS ?_;refine tid 6 (.agg (aO ⟨(d:Int),(s:Int)⟩).toArray) rfl (yieldsIf_load_mid (by rfl) 82 (.tmp 6) rfl C 0 rfl (aO ⟨(d:Int),(s:Int)⟩) _ (fun w' h=>aD (HSE.out w' h).1) bS rfl (by rw[bC];exact bW)) hS ?_;refine tid 7 (.pointer (some ⟨m,0,none⟩)) rfl (.inl ⟨by rfl,fun w' hw'=>by have c:World.cell? w' ⟨b3,0,none⟩=some (.pointer (some ⟨m,0,none⟩)):=aC (i:=0) (HSE.out w' hw').2.2.2 rfl;go_simp⟩) hS ?_;refine tid 8 (.agg (aO ⟨(d:Int),(s:Int)⟩).toArray) rfl (yieldsIf_load_mid (by rfl) 82 (.tmp 6) rfl C 0 rfl (aO ⟨(d:Int),(s:Int)⟩) _ (fun w' h=>aD (HSE.out w' h).1) bS rfl (by rw[bC];exact bW)) hS ?_;refine tib 9 (.pointer (some ⟨b4,3,none⟩)) rfl hS ?_;refine tid 10 (.agg (p.sum.map vb).toArray) rfl (yieldsIf_load_mid (by rfl) 25 (.tmp 23) rfl b4 3 rfl (p.sum.map vb) _ (fun w' h=>(bO (aD (HSE.out w' h).2.1)).2.2.2) Tryz.underlying25 rfl (by rw[List.length_map,HSL.out];exact uH)) hS ?_;refine Da (k:=11) (f:=246) (args:=#[.pointer (some ⟨m,0,none⟩),.agg (aO ⟨(d:Int),(s:Int)⟩).toArray,.agg (p.sum.map vb).toArray]) rfl (by kernel_rfl) (by kernel_rfl) (by kernel_rfl) (by first|rfl|go_simp) (Kv (HA.out.keep0 HK.out) (HK.out.blk HMM.out id) HD.out HZ.out p.sum HSM.out) ?_;rintro e w5 ⟨v0,rfl,ho,hk⟩;obtain⟨pv2,cv,rfl,-,-⟩:=(Rd.of_owns ho).form;have HK5:=O (HK.out.trans hk);have hS1:S w5:=HSI.out _ ⟨hk.blk (HSE.out _ hS).1 id,hk.blk (HSE.out _ hS).2.1 id,hk.blk (HSE.out _ hS).2.2.1 id,hk.blk (HSE.out _ hS).2.2.2 id⟩;have HYY:=O (HY.out (pv2,cv) w5 ⟨HK5.out,aV ho HK.out.size⟩);clear ho hk hS;refine⟨_,rfl,hS1,nrm ?_⟩;refine BL (k:=12) (l:=l) rfl (by kernel_rfl) (by kernel_rfl) (by kernel_rfl) (by first|rfl|(unfold yU;go_simp;done)|(unfold yU;unfold execOp;simp[Act.put,resolve,invoke,go_sem,Act.eval];done)) HYY.out ?_;rintro e w6 ⟨rfl,hj,hc⟩;have hS2:S w6:=HSI.out _ ⟨hc _ _ _ _ (fun e=>by have:=(HR.out _ e).1;have:=HC0.out;have:=HWS.out;omega) (HSE.out _ hS1).1,hc _ _ _ _ (fun e=>(HR.out _ e).2.2.1 rfl) (HSE.out _ hS1).2.1,hc _ _ _ _ (fun e=>(HR.out _ e).2.2.2 rfl) (HSE.out _ hS1).2.2.1,hc _ _ _ _ (fun e=>(HR.out _ e).2.1 rfl) (HSE.out _ hS1).2.2.2⟩;refine⟨_,rfl,hS2,nrm ?_⟩;refine tib 13 (.bool true) rfl hS2 ?_;refine tia 14 (.bool true) rfl hS2 ?_;refine C9 (by kernel_rfl) ?_ _;have HJ:=O hj;clear hj hc hS1 hS2 HSE HSI HYY
  gi_wp2
  refine bodyPost_ret (results_none rfl _ _ _) rfl ?_;exact⟨⟨_,rfl⟩,_,HJ.out⟩
def Ml(w:World)(m:Nat)(pc:List Value)(e:Ending)(w':World):Prop:=∃b3 b4 b5,e=.returned (.func (.func 245) #[] #[.pointer (some ⟨b4,0,none⟩),.pointer (some ⟨b5,0,none⟩),.pointer (some ⟨b3,0,none⟩)])/\w'.heap[b4]?=some (.cells pc.toArray 27 (0,0))/\w'.heap[b5]?=some (.cells #[.int .i64 (-1)] 3 (0,0))/\w'.heap[b3]?=some (.cells #[.pointer (some ⟨m,0,none⟩)] 41 (0,0))/\(w.heap.size≤b3/\w.heap.size≤b4/\w.heap.size≤b5)/\aA aB w w'
theorem F5(w:World)(m:Nat)(pc:List Value)(hpc:pc.length=35)(h1:∀u∈pc,u.oneCell'=true):Calls Tryz.prog 210 #[.pointer (some ⟨m,0,none⟩),.agg pc.toArray,.int .i64 (-1)] w (Ml w m pc):=by
 have HOP:=O h1;have HL:=lN w;clear h1;go_in
 go_wp2_with ((with_reducible show WL _ _);refine bxL HL 41 (.tmp 0) (#[.pointer (some ⟨m,0,none⟩)]) ?_)
 intro b3 w1 hk HL;clear hk
 go_wp2_with ((with_reducible show WL _ _);refine bxL HL 27 (.tmp 1) (pc.toArray) ?_)
 intro b4 w2 hk HL;clear hk
 go_wp2_with ((with_reducible show WL _ _);refine bxL HL 3 (.tmp 2) (#[.int .i64 (-1)]) ?_)
 intro b5 w3 hk HL;clear hk;go_wp2_with fail;go_wp2;go_ret;exact⟨b3,b4,b5,rfl,HL.out.b 1,HL.out.b 0,HL.out.b 2,⟨(HL.out.lt 2).1,(HL.out.lt 1).1,(HL.out.lt 0).1⟩,HL.out.keep⟩
theorem Loc.put{S B:Nat->Prop}{w0 w:World}{l:List (Nat×Array Value×TypeId)}(h:Loc S B w0 w l){j:Nat}{o o':Obj}(hl:w.heap[j]?=some o)(ho:o.isCells=false)(hj:w0.heap.size≤j):Loc S B w0 (w.putObj j o') l:=by
 have kd:=aA.of_grown (grownBy_putObj' w j o');refine⟨h.keep.trans' kd (fun _ _ h=>h) (fun i hi e=>by cases e;omega),h.ge,h.nd,fun x hx=>?_,h.ap⟩;have h1:=h.at_ x hx;refine kd.blk h1 (fun e=>?_);have e2:j=x.1:=Option.some.inj e;rw[e2,h1] at hl;cases hl
 cases ho
theorem xG{w:World}{j base n sz:Nat}{o o':Obj}{T:TypeId}{v:Value}{cs:List Value}(h:w.ownsRow base T sz v n cs)(hl:w.heap[j]?=some o)(ho:o.isCells=false):(w.putObj j o').ownsRow base T sz v n cs:=
 (aA.of_grown (grownBy_putObj' w j o')).owns h fun k hb e=>by
   cases e
   obtain⟨cur,hc⟩:=aL h hb;rw[hl] at hc;cases hc
   cases ho
theorem Aq{fn:Func}{p q r:Tmp}{tp tq tr:TypeId}(h:fn.results=#[.cell p tp,.cell q tq,.cell r tr])(tmps:Array Value)(P:Program)(w:World)(a b c:Addr)(x y z:Value)
 (h1:tmps.getD p undef=.pointer (some a)) (h2:tmps.getD q undef=.pointer (some b)) (h3:tmps.getD r undef=.pointer (some c)) (hx:(loadVar tp a).run P w=.ok x w) (hy:(loadVar tq b).run P w=.ok y w) (hz:(loadVar tr c).run P w=.ok z w) :
 (results fn tmps).run P w=.ok (.tuple #[x,y,z]) w:=by
 simp only[results,h];simp only[Array.getD_eq_getD_getElem?] at h1 h2 h3;simp[Sem.run_bind,Result.andThen,asAddr,h1,h2,h3,hx,hy,hz]
structure FdI(w0:World)(b6 b7 b8:Nat)(bs:List UInt8)(W:World):Prop where
 v:∃v,W.heap[b6]?=some (.cells #[v] 109 (0,0))/\W.ownsRow w0.heap.size 5 1 v 256 (bs.map vb)
 n:W.heap[b7]?=some (.cells #[.slice none 0 0] 23 (0,0))
 z:W.heap[b8]?=some (.cells #[.int .i64 0] 49 (0,0))
 k:aA aB w0 W
theorem FdI.put{w0 W:World}{b6 b7 b8:Nat}{bs:List UInt8}(h:FdI w0 b6 b7 b8 bs W){j:Nat}{o o':Obj}(hl:W.heap[j]?=some o)(ho:o.isCells=false)(hj:w0.heap.size≤j):FdI w0 b6 b7 b8 bs (W.putObj j o'):=by
 obtain⟨⟨v,h1,h2⟩,h3,h4,h5⟩:=h;have kd:=aA.of_grown (grownBy_putObj' W j o')
 have no:∀{k:Nat}{cs:Array Value}{t:TypeId},W.heap[k]?=some (.cells cs t (0,0))->¬some j=some k:=fun hc e=>by
  cases e;rw[hl] at hc;cases hc;cases ho
 exact⟨⟨v,kd.blk h1 (no h1),xG h2 hl ho⟩,kd.blk h3 (no h3),kd.blk h4 (no h4),h5.trans' kd (fun _ _ h=>h) (fun i hi e=>by cases e;omega)⟩
theorem A8(T:Array Value)(p q:Tmp)(a b:Value):((#[p,q].zip #[a,b]).foldl (fun(t:Array Value) (x:Tmp×Value)=>match x with|(p,v)=>t.setIfInBounds p v) T)=(T.setIfInBounds p a).setIfInBounds q b:=by simp
def Dd(w:World)(bs:List UInt8)(e:Ending)(w':World):Prop:=∃v,e=.returned (.tuple #[v,.slice none 0 0,.int .i64 0])/\w'.ownsRow w.heap.size 5 1 v 256 (bs.map vb)/\aA aB w w'
theorem F6{w:World}{m a D Z nw:Nat}{B:Nat->Prop}{Mm:Nat->Nat->List UInt8}(h:bM w a B D Z Mm nw)(hm:eL w m a)(pv:Value)(p:Pt)(hp:PtV w pv p){d s:Nat}{rest:List Ad}(hpa:p.addrs=⟨(d:Int),(s:Int)⟩::rest)(hd:d<D)(hs:s<Z)(hsum:p.sum=cR (Mm d s)) :
 Calls Tryz.prog 161 #[.pointer (some ⟨m,0,none⟩),.agg (aE pv p).toArray,.int .i64 (-1)] w (Dd w (Mm d s)):=by
 have hpc:=aJ (v:=pv) hp.sum;obtain⟨pc,hpcs⟩:∃l,aE pv p=l:=⟨_,rfl⟩
 have HOP:Hid (∀u∈pc,u.oneCell'=true):=O (by rw[←hpcs];obtain⟨oa,ca,rfl,-,-⟩:=hp.rd.form;exact cS p);have HPS:=O hpcs;rw[hpcs] at hpc ⊢;have HA:=O h;have HMM:=O hm;have HPT:=O hp;have HPA:=O hpa;have HD:=O hd;have HZ:=O hs;have HSM:=O hsum;have HL:=lN w;clear h hm hp hpcs hpa hd hs hsum;refine callsIn_wide.1 (callsIn_of_wp_marks (F:=Fence.wide) (n:=3) Tryz.func161 rfl trivial (wpIn_wide.2 ?_));simp only[Tryz.ntmps161,List.size_toArray,List.length_cons,List.length_nil,Nat.reduceAdd,Nat.reduceSub,Array.replicate_succ,Array.replicate_zero,List.push_toArray,List.append_toArray,List.nil_append,List.cons_append]
 go_wp2_with ((with_reducible show WL _ _);refine bxL HL 27 (.tmp 1) (pc.toArray) ?_)
 intro b4 w1 hk HL;replace HA:=O (HA.out.keep0 hk);replace HMM:=O (hk.blk HMM.out id);replace HPT:=O (HPT.out.keep hk fun _ _=>id);clear hk
 go_wp2_with ((with_reducible show WL _ _);refine alL HL 109 (.slice none 0 0) (#[.slice none 0 0]) Nm ?_)
 intro b6 w2 hk HL;replace HA:=O (HA.out.keep0 hk);replace HMM:=O (hk.blk HMM.out id);replace HPT:=O (HPT.out.keep hk fun _ _=>id);clear hk
 go_wp2_with ((with_reducible show WL _ _);refine alL HL 23 (.slice none 0 0) (#[.slice none 0 0]) Nn ?_)
 intro b7 w3 hk HL;replace HA:=O (HA.out.keep0 hk);replace HMM:=O (hk.blk HMM.out id);replace HPT:=O (HPT.out.keep hk fun _ _=>id);clear hk
 go_wp2_with ((with_reducible show WL _ _);refine alL HL 49 (.int .i64 0) (#[.int .i64 0]) jZ ?_)
 intro b8 w4 hk HL;replace HA:=O (HA.out.keep0 hk);replace HMM:=O (hk.blk HMM.out id);replace HPT:=O (HPT.out.keep hk fun _ _=>id);clear hk
 go_wp2_with ((with_reducible show WL _ _);refine alL HL 23 (.slice none 0 0) (#[.slice none 0 0]) Nn ?_)
 intro b9 w5 hk HL;replace HA:=O (HA.out.keep0 hk);replace HMM:=O (hk.blk HMM.out id);replace HPT:=O (HPT.out.keep hk fun _ _=>id);clear hk
 go_wp2_with ((with_reducible show WL _ _);refine wpList_load_mid rfl 27 (.tmp 4) rfl b4 0 rfl pc _ (aD (HL.out.b 4)) aF rfl (szP9 hpc) ?_)
 have HLQ:=HL;refine(F5 w5 m pc hpc HOP.out).mono ?_;rintro e w6 ⟨c3,c4,c5,rfl,h4,h5,h3,hge,hk⟩;replace HL:=kL HL hk;replace HA:=O (HA.out.keep0 hk);replace HMM:=O (hk.blk HMM.out id);replace HPT:=O (HPT.out.keep hk fun _ _=>id);clear hk;have H4:=O h4;have H5:=O h5;have H3:=O h3;have HGE:=O hge;clear h4 h5 h3 hge;go_wp2_with fail;have hwp:=HPS.out;have hgb:=HGE.out;have hbl6:=(HLQ.out.lt 3);have hbl7:=HLQ.out.lt 2;have hbl8:=HLQ.out.lt 1;have H4':Hid (w6.heap[c4]?=some (.cells (aE pv p).toArray 27 (0,0))):=O (by rw[HPS.out];exact H4.out);have HCP:=Ei (Res:=fun k=>k=b6\/k=b7\/k=b8) HA.out HMM.out pv p HPT.out HPA.out HD.out HZ.out HSM.out H4'.out H5.out H3.out (fun k hk=>by have:=(HL.out.lt 1).2;have:=(HL.out.lt 2).2;have:=(HL.out.lt 3).2;rcases hk with rfl|rfl|rfl<;>omega) (3-1);have h6s:b6<w6.heap.size:=(HL.out.lt 3).2;have h7s:b7<w6.heap.size:=(HL.out.lt 2).2;have h8s:b8<w6.heap.size:=(HL.out.lt 1).2;have h9s:b9<w6.heap.size:=(HL.out.lt 0).2;have HW:=O HL.out.keep.size;clear HLQ HPT HMM HA H3 H4 H4' H5 hgb hbl6 hbl7 hbl8 hwp;refine wpIn_wide (n:=3).1 ?_;refine BM rfl (by omega) (gf:=245) rfl trivial (enters_of Tryz.func245 (by kernel_rfl) rfl) (encs:=yU ⟨(d:Int),(s:Int)⟩) (R:=CpR (Mm d s)) (fun _ _ _ h=>h.1) HCP (fun _=>rfl) (FdI w b6 b7 b8 (Mm d s)) (fun W l o hl hI ho hoc o'=>hI.put ho hoc (by have:=HW.out;omega)) ?round ?stop
 case round =>
  rintro l ⟨px,cx⟩ W W1 hk ⟨hk1,ho⟩ hl;replace HL:=O (HL.out.keeps (hk.trans hk1));have HO:=O ho;have hks:=hk.size;have h6w:b6<W.heap.size:=by omega
  have h7w:b7<W.heap.size:=by omega
  have h8w:b8<W.heap.size:=by omega
  have HX:=O (aA.refl aB W1);clear hk hk1 ho HCP;unfold yU;dsimp only;rw[A8];simp only[List.setIfInBounds_toArray,List.set_cons_zero,List.set_cons_succ];refine wpIn_seq ?_;refine cO (by kernel_rfl) (fun ⟨_,_,h⟩=>h) ?_
  go_wp2_with ((with_reducible show WL _ _);refine al 82 (.agg jJ.toArray) (jJ.toArray) uG ?_)
  intro b10 w7 hbs hk0 hb0_
  go_wp2_with ((with_reducible show WL _ _);refine sta 82 (.tmp 10) (.tmp 16) b10 0 (aO ⟨(d:Int),(s:Int)⟩) hb0_ (by first|decide|(rw[List.size_toArray,bC];exact Nat.le_refl _)|simp[bC]) (by rw[bC];exact iM) (bL _) ?_)
  intro w8 hk hb;rw[aI _ _ (by first|rfl|(rw[List.size_toArray,bC];rfl)|simp[bC])] at hb;replace hk:=tX hk0 hk (fun i hi e=>by omega);replace HL:=lW HL hbs hk hb;replace HX:=O (HX.out.trans hk);replace HO:=O (hk.owns HO.out fun _ _=>id);clear hbs hk hb hk0 hb0_;go_wp2_with fail;refine cO (by kernel_rfl) (fun ⟨_,_,h⟩=>h) ?_
  go_wp2_with ((with_reducible show WL _ _);refine al 293 (.agg #[.int .i64 0,.slice none 0 0]) (#[.int .i64 0,.slice none 0 0]) Db ?_)
  intro b11 w9 hbs hk0 hb0_
  go_wp2_with ((with_reducible show WL _ _);refine sta 293 (.tmp 11) (.tmp 17) b11 0 ([.int .i64 0,.slice px 256 cx]) hb0_ (by first|decide|(rw[List.size_toArray,rfl];exact Nat.le_refl _)|simp[]) xF (by intro v hv;simp only[List.mem_cons,List.not_mem_nil,or_false] at hv;rcases hv with rfl|rfl<;>rfl) ?_)
  intro wa hk hb;rw[aI _ _ (by first|rfl|(rw[List.size_toArray,rfl];rfl)|simp[])] at hb;replace hk:=tX hk0 hk (fun i hi e=>by omega);replace HL:=lW HL hbs hk hb;replace HX:=O (HX.out.trans hk);replace HO:=O (hk.owns HO.out fun _ _=>id);clear hbs hk hb hk0 hb0_;go_wp2_with fail;refine⟨eT HX.out (fun _ _ _ h=>h.elim),KpC.of HX.out (fun _ h=>h.elim),fun o o' hoo hoc=>?_⟩;have hlw:w.heap.size≤l:=by have:=HW.out;omega
  replace HL:=O (HL.out.put (o':=o') hoo hoc hlw);replace HO:=O (xG (o':=o') HO.out hoo hoc);clear HX;generalize World.putObj wa l o'=V at HL HO ⊢;have HLV:=HL;have HX:Hid (aA (fun k=>k=b6\/k=b7\/k=b8) V V):=O (aA.refl _ _);clear hoo hoc;refine wpIn_block ?_;refine wpIn_seq ?_;refine cO (by kernel_rfl) (fun ⟨_,_,h⟩=>h) ?_;have c1:V.cell? ⟨b11,0,none⟩=some (.int .i64 0):=(aC (i:=0) (HL.out.b 0) rfl)
  go_wp2_with fail;clear c1;refine wpIn_block ?_;refine wpIn_seq ?_;refine cO (by kernel_rfl) (fun ⟨_,_,h⟩=>h) ?_;go_wp2_with fail;refine wpIn_cond_true rfl ?_;refine wpIn_seq ?_;go_wp2_with fail;obtain⟨S,hS0⟩:∃S:World->Prop,S=fun w'=>aA (fun k=>k=b6\/k=b7\/k=b8) V.drew w':=⟨_,rfl⟩
  have HSE:=O (show ∀w',S w'->aA (fun k=>k=b6\/k=b7\/k=b8) V.drew w' from fun w' h=>by rw[hS0] at h;exact h);have HSI:=O (show ∀w',aA (fun k=>k=b6\/k=b7\/k=b8) V.drew w'->S w' from fun w' h=>by rw[hS0];exact h);have hS:S V.drew:=by rw[hS0];exact aA.refl _ _
  have hkd:=(aA.refl aB V).drew;clear hS0;refine lJ (by kernel_rfl) (by kernel_rfl) (fun ⟨_,_,h⟩=>h) (wpAny_of_held (S:=S) _ _ _ _ ?_);change wpAnyH _ _ _ _ _ _ _ _ V.drew;generalize V.drew=wb at HSE HSI hS hkd ⊢;replace HL:=kL HL hkd;replace HX:=O (HX.out.trans (aA.any hkd));replace HO:=O (hkd.owns HO.out fun _ _=>id);clear hkd;have HLs:=HL;have HXs:=HX;have HOs:=HO;refine tnb 0 (.pointer (some ⟨b11,1,none⟩)) rfl hS ?_;refine tnd 1 (.slice px 256 cx) rfl (.inl ⟨by rfl,fun w' hw'=>by have c:World.cell? w' ⟨b11,1,none⟩=some (.slice px 256 cx):=aC (i:=1) ((HSE.out w' hw').blk (HLs.out.b 0) (fun e=>by rcases e with e|e|e<;>first|exact bF (i:=5) HLs.out.nd rfl 0 (by decide) rfl e|exact bF (i:=4) HLs.out.nd rfl 0 (by decide) rfl e|exact bF (i:=3) HLs.out.nd rfl 0 (by decide) rfl e)) rfl;go_simp⟩) hS ?_;refine tnd 2 (.slice none 0 0) rfl (.inl ⟨by rfl,fun w' hw'=>by have c:World.cell? w' ⟨b9,0,none⟩=some (.slice none 0 0):=aC (i:=0) ((HSE.out w' hw').blk (HLs.out.b 2) (fun e=>by rcases e with e|e|e<;>first|exact bF (i:=5) HLs.out.nd rfl 2 (by decide) rfl e|exact bF (i:=4) HLs.out.nd rfl 2 (by decide) rfl e|exact bF (i:=3) HLs.out.nd rfl 2 (by decide) rfl e)) rfl;go_simp⟩) hS ?_;refine wA9 3 ?_;refine sta 109 (.tmp 6) (.tmp 23) b6 0 ([.slice px 256 cx]) (HL.out.b 5) (by simp) (by kernel_rfl) (one9) ?_;intro wc hk hb;replace hb:wc.heap[b6]?=some (.cells #[.slice px 256 cx] 109 (0,0)):=hb;have hS1:=HSI.out _ ((HSE.out _ hS).trans' hk (fun _ _ h=>h) (fun i hi e=>(.inl e)));clear hS;replace HL:=O (HL.out.set 5 hk hb);replace HX:=O (HX.out.trans' hk (fun _ _ h=>h) (fun i _ e=>by first|exact .inl e|exact .inr (.inl e)|exact .inr (.inr e)));replace HO:=O (hk.owns HO.out fun i hi e=>by have:=aS HO.out hi;omega);clear hk hb;refine wpList_nil ?_;refine⟨hS1,?_⟩;refine wA9 4 ?_;refine sta 23 (.tmp 7) (.tmp 24) b7 0 ([.slice none 0 0]) (HL.out.b 4) (by simp) (by kernel_rfl) (one9) ?_;intro wd hk hb;replace hb:wd.heap[b7]?=some (.cells #[.slice none 0 0] 23 (0,0)):=hb;have hS2:=HSI.out _ ((HSE.out _ hS1).trans' hk (fun _ _ h=>h) (fun i hi e=>(.inr (.inl e))));clear hS1;replace HL:=O (HL.out.set 4 hk hb);replace HX:=O (HX.out.trans' hk (fun _ _ h=>h) (fun i _ e=>by first|exact .inl e|exact .inr (.inl e)|exact .inr (.inr e)));replace HO:=O (hk.owns HO.out fun i hi e=>by have:=aS HO.out hi;omega);clear hk hb;refine wpList_nil ?_;refine⟨hS2,?_⟩;refine wA9 5 ?_;refine sta 49 (.tmp 8) (.const (.int .i64 0)) b8 0 ([.int .i64 0]) (HL.out.b 3) (by simp) (by kernel_rfl) (one9) ?_;intro we hk hb;replace hb:we.heap[b8]?=some (.cells #[.int .i64 0] 49 (0,0)):=hb;have hS3:=HSI.out _ ((HSE.out _ hS2).trans' hk (fun _ _ h=>h) (fun i hi e=>(.inr (.inr (e)))));clear hS2;replace HL:=O (HL.out.set 3 hk hb);replace HX:=O (HX.out.trans' hk (fun _ _ h=>h) (fun i _ e=>by first|exact .inl e|exact .inr (.inl e)|exact .inr (.inr e)));replace HO:=O (hk.owns HO.out fun i hi e=>by have:=aS HO.out hi;omega);clear hk hb;refine wpList_nil ?_;refine⟨hS3,?_⟩;refine wpAnyH_done (by kernel_rfl) ?_ _;clear hS3 HSE HSI HLs HXs HOs;refine wpIn_ret ?_;have HF:Hid (FdI w b6 b7 b8 (Mm d s) we):=O ⟨⟨_,HL.out.b 5,aV HO.out (by have:=HW.out;omega)⟩,HL.out.b 4,HL.out.b 3,HL.out.keep⟩;refine⟨eT HX.out ?_,KpC.of HX.out (fun _ h=>h),HF.out⟩;rintro j o ho (rfl|rfl|rfl)
  ·rw[HLV.out.b 5] at ho;cases ho;rfl
  ·rw[HLV.out.b 4] at ho;cases ho;rfl
  ·rw[HLV.out.b 3] at ho;cases ho;rfl
 case stop =>
  intro D W hDs hI hDd;obtain⟨⟨v,h1,h2⟩,h3,h4,h5⟩:=hI;have hz:w.heap.size≤D:=Nat.le_trans HW.out hDs
  have no:∀{k:Nat}{cs:Array Value}{t:TypeId},W.heap[k]?=some (.cells cs t (0,0))->D≠k:=fun hc e=>by
   cases e;rw[hDd] at hc;cases hc
  have hput:∀{k:Nat}{cs:Array Value}{t:TypeId},W.heap[k]?=some (.cells cs t (0,0))->(W.putObj D (.deferred none)).heap[k]?=some (.cells cs t (0,0)):=fun hc=>(World.putObj_heap_other (by have:=no hc;omega)).trans hc
  obtain⟨av,cv,rfl,-,-⟩:=(Rd.of_owns h2).form;have c6:(W.putObj D (.deferred none)).cell? ⟨b6,0,none⟩=some (.slice av 256 cv):=aC (i:=0) (hput h1) rfl;have c7:(W.putObj D (.deferred none)).cell? ⟨b7,0,none⟩=some (.slice none 0 0):=aC (i:=0) (hput h3) rfl;have c8:(W.putObj D (.deferred none)).cell? ⟨b8,0,none⟩=some (.int .i64 0):=aC (i:=0) (hput h4) rfl;have HP:Hid (Dd w (Mm d s) (.returned (.tuple #[.slice av 256 cv,.slice none 0 0,.int .i64 0])) (W.putObj D (.deferred none))):=O ⟨_,rfl,xG h2 hDd rfl,h5.trans' (aA.of_grown (grownBy_putObj' W D _)) (fun _ _ h=>h) (fun i hi e=>by cases e;omega)⟩;clear h1 h2 h3 h4 h5 no hput;show bodyPostM _ _ _ _ _ .ret _ _;refine⟨by simp,.inl ⟨_,_,rfl,run_takeDeferred hDd,?_⟩⟩;refine⟨_,Aq rfl _ _ _ ⟨b6,0,none⟩ ⟨b7,0,none⟩ ⟨b8,0,none⟩ (.slice av 256 cv) (.slice none 0 0) (.int .i64 0) rfl rfl rfl (by go_simp) (by go_simp) (by go_simp),HP.out⟩
def fK(w:World)(bs:List UInt8)(e:Ending)(w':World):Prop:=∃v,e=.returned (.tuple #[v,.int .i64 0])/\w'.ownsRow w.heap.size 5 1 v 256 (bs.map vb)/\aA aB w w'
theorem Iu{w:World}{m a D Z nw:Nat}{B:Nat->Prop}{Mm:Nat->Nat->List UInt8}(h:bM w a B D Z Mm nw)(hm:eL w m a)(pv:Value)(p:Pt)(hp:PtV w pv p)(hmay:p.may=true)(hh:p.hole=false)(hpl:∀x∈p.addrs,dZ x D Z) :
 Calls Tryz.prog 160 #[.pointer (some ⟨m,0,none⟩),.agg (aE pv p).toArray] w (aK w (.int .i64 0)):=by
 have hpc:=aJ (v:=pv) hp.sum;obtain⟨oa,ca,hpv,-,-⟩:=hp.rd.form;obtain⟨pc,hpcs⟩:∃l,aE pv p=l:=⟨_,rfl⟩
 have HOP:Hid (∀u∈pc,u.oneCell'=true):=O (by rw[←hpcs,hpv];exact cS p);have HPS:=O hpcs;have HP0:Hid (∃r,pc=pv::r):=O ⟨_,hpcs.symm⟩;rw[hpcs] at hpc ⊢;have HA:=O h;have HMM:=O hm;have HPT:=O hp;have HMA:=O hmay;have HH:=O hh;have HPL:=O hpl;have HL:=lN w;have HK0:=O (aA.refl aB w);clear h hm hp hpcs hmay hh hpl hpv;go_in
 go_wp2_with ((with_reducible show WL _ _);refine bxL HL 27 (.tmp 1) (pc.toArray) ?_)
 intro b3 w1 hk HL;replace HA:=O (HA.out.keep0 hk);replace HMM:=O (hk.blk HMM.out id);replace HPT:=O (HPT.out.keep hk fun _ _=>id);clear hk;go_wp2_with fail;refine(A7 w1 m a HMM.out).mono ?_;rintro e w2 ⟨rfl,hk⟩;replace HL:=kL HL hk;replace HA:=O (HA.out.keep0 hk);replace HMM:=O (hk.blk HMM.out id);replace HPT:=O (HPT.out.keep hk fun _ _=>id);clear hk
 go_wp2_with ((with_reducible show WL _ _);refine wpList_load_mid rfl 27 (.tmp 3) rfl b3 0 rfl pc _ (aD (HL.out.b 0)) aF rfl (szP9 hpc) ?_)
 refine((by rw[←HPS.out];exact jX w2 pv p HPT.out:Calls _ _ _ w2 (lL w2 p.may))).mono ?_;rintro e w3 ⟨rfl,hk⟩;replace HL:=kL HL hk;replace HA:=O (HA.out.keep0 hk);replace HMM:=O (hk.blk HMM.out id);replace HPT:=O (HPT.out.keep hk fun _ _=>id);clear hk;rw[HMA.out]
 go_wp2_with ((with_reducible show WL _ _);refine aM (by rfl) 27 (.tmp 3) rfl b3 0 rfl pc _ (aD (HL.out.b 0)) aF rfl (szP9 hpc) ?_)
 refine((by rw[←HPS.out];exact cJ w3 pv p HPT.out:Calls _ _ _ w3 (aX w3 p.hole))).mono ?_;rintro e w4 ⟨rfl,hk⟩;replace HL:=kL HL hk;replace HA:=O (HA.out.keep0 hk);replace HMM:=O (hk.blk HMM.out id);replace HPT:=O (HPT.out.keep hk fun _ _=>id);clear hk;rw[HH.out];have c1:w4.cell? ⟨b3,0,none⟩=some (pv):=(by obtain⟨r,e⟩:=HP0.out;exact aC (i:=0) (HL.out.b 0) (by rw[e];rfl))
 go_wp2_with fail;clear c1;refine(uO HA.out HMM.out pv p.addrs HPT.out.rd HPL.out).mono ?_;rintro e w5 ⟨rfl,hk⟩;replace HL:=kL HL hk;replace HA:=O (HA.out.keep0 hk);replace HMM:=O (hk.blk HMM.out id);replace HPT:=O (HPT.out.keep hk fun _ _=>id);clear hk;go_wp2;go_ret;exact aK.of HL.out.keep
theorem Kw{w:World}{m a D Z nw:Nat}{B:Nat->Prop}{Mm:Nat->Nat->List UInt8}(h:bM w a B D Z Mm nw)(hm:eL w m a)(pv:Value)(p:Pt)(hp:PtV w pv p)(hmay:p.may=true)(hh:p.hole=false)(hpl:∀x∈p.addrs,dZ x D Z){d s:Nat}{rest:List Ad}(hpa:p.addrs=⟨(d:Int),(s:Int)⟩::rest)(hsum:p.sum=cR (Mm d s)) :
 Calls Tryz.prog 111 #[.pointer (some ⟨m,0,none⟩),.agg (aE pv p).toArray] w (fK w (Mm d s)):=by
 have hdd:d<D/\s<Z:=by
  have:=hpl _ (by rw[hpa];exact List.mem_cons_self ..);obtain⟨d',s',he,h1,h2,h3⟩:=lO this;cases he
  omega
 have hpc:=aJ (v:=pv) hp.sum;obtain⟨oa,ca,hpv,-,-⟩:=hp.rd.form;obtain⟨pc,hpcs⟩:∃l,aE pv p=l:=⟨_,rfl⟩
 have HOP:Hid (∀u∈pc,u.oneCell'=true):=O (by rw[←hpcs,hpv];exact cS p);have HPS:=O hpcs;rw[hpcs] at hpc ⊢;have HA:=O h;have HMM:=O hm;have HPT:=O hp;have HMA:=O hmay;have HH:=O hh;have HPL:=O hpl;have HPA:=O hpa;have HSM:=O hsum;have HDD:=O hdd;have HL:=lN w;clear h hm hp hpcs hmay hh hpl hpv hpa hsum hdd;go_in
 go_wp2_with ((with_reducible show WL _ _);refine bxL HL 27 (.tmp 1) (pc.toArray) ?_)
 intro b3 w1 hk HL;replace HA:=O (HA.out.keep0 hk);replace HMM:=O (hk.blk HMM.out id);replace HPT:=O (HPT.out.keep hk fun _ _=>id);clear hk
 go_wp2_with ((with_reducible show WL _ _);refine wpList_load_mid rfl 27 (.tmp 3) rfl b3 0 rfl pc _ (aD (HL.out.b 0)) aF rfl (szP9 hpc) ?_)
 refine((by rw[←HPS.out];exact Iu HA.out HMM.out pv p HPT.out HMA.out HH.out HPL.out:Calls _ _ _ w1 (aK w1 (.int .i64 0)))).mono ?_;rintro e w2 ⟨rfl,hk⟩;replace HL:=kL HL hk;replace HA:=O (HA.out.keep0 hk);replace HMM:=O (hk.blk HMM.out id);replace HPT:=O (HPT.out.keep hk fun _ _=>id);clear hk
 go_wp2_with ((with_reducible show WL _ _);refine wpList_load_mid rfl 27 (.tmp 3) rfl b3 0 rfl pc _ (aD (HL.out.b 0)) aF rfl (szP9 hpc) ?_)
 have HSZ:=O HL.out.keep.size;refine((by rw[←HPS.out];exact F6 HA.out HMM.out pv p HPT.out HPA.out HDD.out.1 HDD.out.2 HSM.out:Calls _ _ _ w2 (Dd w2 (Mm d s)))).mono ?_;rintro e w3 ⟨v0,rfl,ho,hk⟩;obtain⟨av,cv,rfl,-,-⟩:=(Rd.of_owns ho).form;replace HL:=kL HL hk;replace HA:=O (HA.out.keep0 hk);replace HMM:=O (hk.blk HMM.out id);replace HPT:=O (HPT.out.keep hk fun _ _=>id);clear hk;have hsz:=HL.out.keep.size;have HO:=O (aV ho HSZ.out);clear ho hsz;go_wp2_with fail;have HB:=O HL.out.keep
 go_loopw [30] (fun i wr=>i=.int .i64 0/\wr=w3) (fun _ _=>0)
 case atStart=>exact⟨rfl,rfl⟩
 case round =>
  obtain⟨rfl,rfl⟩:=hrel;clear HL HA HMM HPT;go_wp2
  go_ret2
  exact⟨_,rfl,HO.out,HB.out⟩
end
end Go.Proofs.YtiinnfhjpaeffaaGreat
