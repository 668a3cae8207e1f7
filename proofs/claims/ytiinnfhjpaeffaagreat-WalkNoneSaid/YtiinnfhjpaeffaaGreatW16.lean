import Derived.Test.YtiinnfhjpaeffaaGreatW1
import Derived.Test.YtiinnfhjpaeffaaGreatW5
import Derived.Test.YtiinnfhjpaeffaaGreatW11
import Derived.Test.YtiinnfhjpaeffaaGreatW15
import Derived.Defers
import Derived.Recover
namespace Go.Proofs.YtiinnfhjpaeffaaGreat
set_option maxHeartbeats 64000000
set_option maxRecDepth 100000
set_option linter.unusedVariables false
section
open Go.RowKit
attribute [local go_sem] Oper.semAt_some
def M8:Value->Nat
 | .slice _ n _=>n
 | _=>0
def gK(w:World)(base:Nat)(bs:List UInt8)(xs:List Nat)(ps:List Value):Prop:=
 ps.length=xs.length/\∀(i:Nat) (p:Value),ps[i]?=some p->∃x,xs[i]?=some x/\w.ownsRow base 5 1 p 64 ((iZ bs (x % many bs.length)).map vb)
theorem gK.keep{S:Nat->Prop}{w w':World}{base:Nat}{bs:List UInt8}{xs:List Nat}{ps:List Value}(h:gK w base bs xs ps)(hk:aA S w w')(hS:∀k cur,w.heap[k]?=some (.cells cur 5 (0,0))->¬S k):gK w' base bs xs ps:=
 ⟨h.1,fun i p hp=>by
  obtain⟨x,hx,ho⟩:=h.2 i p hp;exact⟨x,hx,hk.owns ho fun k hb=>by obtain⟨cur,hc⟩:=aL ho hb;exact hS k cur hc⟩⟩
theorem gK.snoc{w:World}{base:Nat}{bs:List UInt8}{xs:List Nat}{ps:List Value}(h:gK w base bs xs ps)(x:Nat)(p:Value)(hp:w.ownsRow base 5 1 p 64 ((iZ bs (x % many bs.length)).map vb)):gK w base bs (xs++[x]) (ps++[p]):=by
 refine⟨by simp[h.1],fun i q hq=>?_⟩;rcases Nat.lt_trichotomy i ps.length with hi|hi|hi
 ·rw[List.getElem?_append_left hi] at hq
  obtain⟨y,hy,ho⟩:=h.2 i q hq;exact⟨y,by rw[List.getElem?_append_left (by rw[←h.1];exact hi)];exact hy,ho⟩
 ·subst hi
  have:q=p:=by simpa using hq.symm
  subst this;exact⟨x,by rw[h.1];simp,hp⟩
 ·rw[List.getElem?_eq_none (by simp;omega)] at hq;cases hq
theorem M9:(Tryz.prog.info? 109).map (fun i=>(i.zero,i.size,i.bytes))=some (some (.slice none 0 0),1,24):=by kernel_rfl
def FI(B:Nat)(w3:World)(bs:List UInt8)(pre:List Nat)(W:World):Prop:=
 (∃v ps,W.heap[B]?=some (.cells #[v] 278 (0,0))/\W.ownsRow w3.heap.size 109 1 v pre.length ps/\gK W w3.heap.size bs pre ps)/\aA (fun k=>k=B) w3 W
theorem FI.own{B:Nat}{w3:World}(hB:B<w3.heap.size)(bs:List UInt8):OwnFrom w3.heap.size (FI B w3 bs):=by
 rintro pre W W' row ⟨⟨v,ps,h1,h2,h3⟩,hk⟩ hg hr;have kg:=aA.of_grown hg
 have no:∀k cur e,W.heap[k]?=some (.cells cur e (0,0))->¬row=some k:=fun k cur e hc e1=>by
  obtain⟨_,o,ho,hcs⟩:=hr k e1;rw[hc] at ho;cases ho
  cases hcs
 refine⟨⟨v,ps,kg.blk h1 (no _ _ _ h1),kg.owns h2 (fun k hb=>by obtain⟨cur,hc⟩:=aL h2 hb;exact no _ _ _ hc),h3.keep kg (fun k cur hc=>no _ _ _ hc)⟩,hk.grown hg fun k e1 hlt=>?_⟩;have:=(hr k e1).1;omega
theorem CB{B:Nat}{w3 W Wd Wp Wr:World}{bs:List UInt8}{pre:List Nat}{ps:List Value}{v p:Value}(hB:B+2<w3.heap.size)
 (h1:W.heap[B]?=some (.cells #[v] 278 (0,0))) (h2:W.ownsRow w3.heap.size 109 1 v pre.length ps)
 (hkd:aA aB W Wd) (hkp:aA (fun k=>(Value.slice none 0 0).ownBlock=some k) Wd Wp) (hkr:aA (fun k=>v.ownBlock=some k) (Wp.alloc (.cells #[p] 109)) Wr) :
 Wr.heap[B]?=some (.cells #[v] 278 (0,0)):=by
 have k1:aA aB W Wp:=hkd.trans' hkp (fun _ _ h=>h) (fun i _ h=>by cases h);refine hkr.blk ((k1.alloc _).blk h1 id) fun h=>?_
 have:=(h2.lt B h).1;omega
theorem J0{B:Nat}{w3 W Wd Wp Wr:World}{bs:List UInt8}{pre:List Nat}{x:Nat}{ps:List Value}{v v' p:Value}(hB:B+2<w3.heap.size)
 (h1:W.heap[B]?=some (.cells #[v] 278 (0,0))) (h2:W.ownsRow w3.heap.size 109 1 v pre.length ps) (h3:gK W w3.heap.size bs pre ps) (hk:aA (fun k=>k=B) w3 W)
 (hkd:aA aB W Wd) (hp:Wp.ownsRow w3.heap.size 5 1 p (0+64) ([]++(iZ bs (x % many bs.length)).map vb)) (hkp:aA (fun k=>(Value.slice none 0 0).ownBlock=some k) Wd Wp)
 (hr:Wr.ownsRow w3.heap.size 109 1 v' (pre.length+1) (ps++[p])) (hkr:aA (fun k=>v.ownBlock=some k) (Wp.alloc (.cells #[p] 109)) Wr) :
 KeepsOthers W (Wr.setCell ⟨B,0,none⟩ v')/\Ab (B+1) (B+1+1) W (Wr.setCell ⟨B,0,none⟩ v')/\FI B w3 bs (pre++[x]) (Wr.setCell ⟨B,0,none⟩ v'):=by
 have hm:=CB (bs:=bs) hB h1 h2 hkd hkp hkr;have k1:aA aB W Wp:=hkd.trans' hkp (fun _ _ h=>h) (fun i _ h=>by cases h);have k2:aA aB W (Wp.alloc (.cells #[p] 109)):=k1.alloc _
 have kt:aA (fun k=>k=B\/v.ownBlock=some k) W (Wr.setCell ⟨B,0,none⟩ v'):=
  (k2.trans' hkr (fun _ _ h=>h.elim) (fun i _ h=>.inr h)).setCell (fun _=>.inl rfl) _
 have ks:aA (fun k=>k=B) Wr (Wr.setCell ⟨B,0,none⟩ v'):=aA.setCell (S:=fun k=>k=B) (p:=⟨B,0,none⟩) (aA.refl _ _) (fun _=>rfl) _;have far:∀k,v.ownBlock=some k->w3.heap.size≤k:=fun k h=>(h2.lt k h).1
 refine⟨eT kt ?_,⟨kt.block _ (by have:=hk.size;omega) ?_,kt.block _ (by have:=hk.size;omega) ?_⟩,⟨v',ps++[p],?_,?_,?_⟩,hk.trans' kt (fun _ _ h=>h) ?_⟩
 ·rintro k o ho (rfl|h)
  ·rw[h1] at ho;cases ho;rfl
  ·obtain⟨cur,hc⟩:=aL h2 h
   rw[hc] at ho;cases ho;rfl
 ·rintro (h|h)
  ·omega
  ·have:=far _ h;omega
 ·rintro (h|h)
  ·omega
  ·have:=far _ h;omega
 ·exact dO hm 0 v'
 ·rw[List.length_append]
  exact ks.owns hr fun k hb e=>by have:=(hr.lt k hb).1;omega
 ·refine gK.keep ?_ ks (fun k cur hc e=>by subst e;rw[hm] at hc;cases hc)
  refine gK.keep (w:=Wp.alloc (.cells #[p] 109)) ?_ hkr (fun k cur hc e=>by obtain⟨c2,h⟩:=aL (k2.owns h2 fun _ _=>id) e;rw[hc] at h;cases h);refine gK.keep (w:=Wp) (S:=aB) ?_ ((aA.refl _ _).alloc _) (fun _ _ _=>id);exact(h3.keep k1 fun _ _ _=>id).snoc x p (by simpa using hp)
 ·rintro i hi (h|h)
  ·exact h
  ·have:=far _ h;omega
def CD(w:World)(bs:List UInt8)(e:Ending)(w':World):Prop:=
 ∃v ps,e=.returned v/\w'.ownsRow w.heap.size 109 1 v (many bs.length) ps/\gK w' w.heap.size bs (List.range (many bs.length)) ps/\aA aB w w'
theorem FL(bv:Value)(bs:List UInt8)(w:World)(hr:Rd w 1 bv bs.length (bs.map vb))(hb:bs.length≤140737488351232) :
 Calls Tryz.prog 230 #[bv] w (Lt w bs):=by
 obtain⟨hl,a,cap,rfl,h1,h2,h3,h4⟩:=hr;cases a with
 | none =>
   have hc:=h3 rfl;subst hc;have hb0:bs=[]:=List.eq_nil_of_length_eq_zero (by omega);subst hb0;clear h1 h2 h3 h4 hl;have hq:=fun(w:World) (a:Option Addr) (n c:Nat)=>Lib.run_eql_slice_nil (P:=Tryz.prog) w 109 5 a n c 0 0 Tryz.underlying109
   go_in;go_wp2;go_ret;exact⟨_,rfl,World.ownsRow_nil _ _ _ _,aA.refl _ _⟩
 | some ad =>
   have K:aA aB w (w.alloc (.cells #[] 5)):=(aA.refl _ _).alloc _;have HR:=O ((show Rd w 1 (.slice (some ad) bs.length cap) bs.length (bs.map vb) from⟨hl,_,_,rfl,h1,h2,h3,h4⟩).keep K fun _ _=>id);have HK:=O K;have hx1:0+bs.length≤maxLen:=by unfold maxLen;omega
   have HX:=O hx1;clear h1 h2 h3 h4 hl K hx1;have hq:=fun(w:World) (a:Option Addr) (n c:Nat)=>Lib.run_eql_slice_nil (P:=Tryz.prog) w 109 5 a n c 0 0 Tryz.underlying109
   go_in
   go_wp2_with (at_builtin;refine aN rfl (.tmp 5) (.tmp 6) 109 rfl w.heap.size 5 _ 1 1 Tryz.underlying109 fN rfl (by omega) _ 0 [] rfl (World.ownsRow_made w #[] 0 (Nat.le_refl _) (by unfold maxLen;omega) (by simp)) _ bs.length (bs.map vb) rfl HR.out (bN _) HX.out (by omega) (by simp) ?_;intro v' w2 hown2 hk2 hnil hat;obtain⟨a3,c3,rfl,-,-⟩:=(Rd.of_owns hown2).form;have HO:=O hown2;have HK2:=O hk2;clear hown2 hk2 hnil hat)
   go_ret;refine⟨_,rfl,by simpa using HO.out,HK.out.trans' HK2.out (fun _ _ h=>h) (fun i hi h=>?_)⟩;have h':w.heap.size=i:=Option.some.inj h;omega
theorem xA{w wr w2:World}{v v':Value}{l:List UInt8}{b:UInt8}{x:Value}(hx:x=vb b){N:Nat}(_hN:N=l.length)(hown:wr.ownsRow w.heap.size 5 1 v N (l.map vb))(hkp:aA aB w wr)
 (hown2:w2.ownsRow w.heap.size 5 1 v' (N+1) (l.map vb++[x]))
 (hk2:aA (fun i=>v.ownBlock=some i) (wr.alloc (.cells #[x] 5)) w2) :
 Hid (w2.ownsRow w.heap.size 5 1 v' (N+1) ((l++[b]).map vb))/\Hid (aA aB w w2):=by
 subst hx;refine⟨O (by simpa using hown2),O ?_⟩;refine(hkp.alloc _).trans' hk2 (fun _ _ h=>h) (fun i hi h=>?_);have:=(hown.lt i h).1;omega
theorem Hx{w w3 W:World}{bs:List UInt8}{v:Value}{ps:List Value}{D:Nat}{o o':Obj}(ho:o.isCells=false)(hD:W.heap[D]?=some o)(h2:W.ownsRow w3.heap.size 109 1 v (many bs.length) ps)(h3:gK W w3.heap.size bs (List.range (many bs.length)) ps)
 (hk:aA aB w W) (hs:w.heap.size≤w3.heap.size/\w3.heap.size≤D):CD w bs (.returned v) (W.putObj D o'):=by
 have kd:=aA.of_grown (grownBy_putObj' W D o')
 have no:∀k cur e,W.heap[k]?=some (.cells cur e (0,0))->¬some D=some k:=fun k cur e hc e1=>by
  cases e1
  rw[hD] at hc;cases hc
  cases ho
 refine⟨v,ps,rfl,?_,?_,hk.trans' kd (fun _ _ h=>h) (fun i hi e=>by cases e;omega)⟩
 ·exact aV (kd.owns h2 fun k hb=>by obtain⟨cur,hc⟩:=aL h2 hb;exact no _ _ _ hc) hs.1
 ·have:=h3.keep kd fun k cur hc=>no _ _ _ hc
  exact⟨this.1,fun i p hp=>by obtain⟨x,hx,ho⟩:=this.2 i p hp;exact⟨x,hx,aV ho hs.1⟩⟩
theorem J1(bv:Value)(bs:List UInt8)(w:World)(hr:Rd w 1 bv bs.length (bs.map vb))(hb:bs.length≤140737488350208) :
 Calls Tryz.prog 197 #[bv] w (CD w bs):=by
 have C:=O (FL bv bs w hr (by omega));obtain⟨a,c,rfl,-,-⟩:=hr.form;clear hr;refine callsIn_wide.1 (callsIn_of_wp_marks (F:=Fence.wide) (n:=3) Tryz.func197 rfl trivial (wpIn_wide.2 ?_));simp only[Tryz.ntmps197,List.size_toArray,List.length_cons,List.length_nil,Nat.reduceAdd,Nat.reduceSub,Array.replicate_succ,Array.replicate_zero,List.push_toArray,List.append_toArray,List.nil_append,List.cons_append];go_wp2_with fail;refine C.out.mono ?_;rintro e w1 ⟨v,rfl,hown,hk⟩;have H128:=O (show (Value.int .u8 128)=vb 128 from rfl);have H0:=O (show (Value.int .u8 0)=vb 0 from rfl);have hml:bs.length+1≤maxLen:=by unfold maxLen;omega
 have HML:=O hml;clear hml;have HO:=O hown;have HK:=O hk;clear hown hk;have hone:∀k:Int,∀u∈[Value.int .u8 k],u.oneCell'=true:=by simp[Value.oneCell']
 have HONE:=O hone;clear hone;have hsz:w.heap.size≤(w1.alloc (.cells #[.int .u8 128] 5)).heap.size:=by have:=HK.out.size;simp;omega
 have HS:=O hsz;clear hsz
 go_wp2_with (at_builtin;refine aN rfl (.tmp 9) (.tmp 10) 109 rfl w.heap.size 5 _ 1 1 Tryz.underlying109 fN rfl (by omega) _ bs.length _ rfl (HO.out.alloc _) _ 1 _ rfl (tF _ _ _) (HONE.out _) HML.out (by omega) HS.out ?_;intro v' w2 hown2 hk2 hnil hat;have R:=xA H128.out rfl HO.out HK.out hown2 hk2;obtain⟨a3,c3,rfl,-,-⟩:=(Rd.of_owns hown2).form;clear hown2 hk2 hnil hat HO HK HS)
 obtain⟨HO,HK⟩:=R
 go_loopw [3] (fun v wr=>∃k N:Nat,k≤mG bs.length/\N=bs.length+1+k/\(∃a c,v=.slice a N c)/\Hid (wr.ownsRow w.heap.size 5 1 v N ((bs++[128]++List.replicate k 0).map vb))/\Hid (aA aB w wr)) (fun v _=>bs.length+1+mG bs.length-M8 v)
 case atStart=>exact⟨0,_,by omega,rfl,⟨_,_,rfl⟩,by simpa using HO,HK⟩
 case round =>
  clear HO HK HML;obtain⟨k,N,hk,hN,⟨a4,c4,rfl⟩,HO,HK⟩:=hrel;have hp:=Ac bs.length;have hNb:N≤140737488350400:=by omega
  have HN0:=O hN
  by_cases hlt:k<mG bs.length
  ·have hmod:((N:Int) % 64)≠56:=by
    have:=AR bs.length k hk;rw[←hN] at this;omega
   have hsz:w.heap.size≤(wr.alloc (.cells #[.int .u8 0] 5)).heap.size:=by have:=HK.out.size;simp;omega
   have HS:=O hsz;clear hsz;have hml:N+1≤maxLen:=by unfold maxLen;omega
   have HML:=O hml;clear hml;have HN:=O (show N=(bs++[128]++List.replicate k 0).length by simp[hN];omega);clear hN
   go_wp2_with (at_builtin;refine aN rfl (.tmp 16) (.tmp 17) 109 rfl w.heap.size 5 _ 1 1 Tryz.underlying109 fN rfl (by omega) _ N _ rfl (HO.out.alloc _) _ 1 _ rfl (tF _ _ _) (HONE.out _) HML.out (by omega) HS.out ?_;intro v' w2 hown2 hk2 hnil hat;have R:=xA H0.out HN.out HO.out HK.out hown2 hk2;obtain⟨a5,c5,rfl,-,-⟩:=(Rd.of_owns hown2).form;clear hown2 hk2 hnil hat HO HK HS HN)
   go_roundw
   case rel=>exact⟨k+1,N+1,by omega,by rw[HN0.out];omega,⟨_,_,rfl⟩,by rw[List.replicate_succ',←List.append_assoc];exact R.1,R.2⟩
   case measure=>have:=HN0.out;simp[M8];omega
  ·obtain rfl:k=mG bs.length:=by omega
   have hmod:((N:Int) % 64)=56:=by
    have:=AR bs.length _ hk;rw[←hN] at this;omega
   clear hN;go_wp2_with fail;obtain⟨L,hL⟩:∃L,L=bs++[128]++List.replicate (mG bs.length) 0:=⟨_,rfl⟩
   rw[←hL] at HO;have hNL:N=L.length:=by rw[HN0.out,hL];simp;omega
   obtain⟨M,hM⟩:∃M:Nat,M=8*bs.length:=⟨_,rfl⟩
   have hMi:(bs.length:Int)*8=(M:Int):=by omega
   rw[hMi];have hMb:M<2251799813685248:=by omega
   have HL:=O hL;have HM:=O hM;have HNL:=O hNL;clear hL hM hMi hNL hlt hk hmod;obtain⟨wo,rfl⟩:∃wo:World,wo=wr:=⟨_,rfl⟩
   go_loopw [3,23] (fun v i wr=>∃k N1:Nat,k≤8/\N1=N+k/\i=.int .i64 k/\(∃a c,v=.slice a N1 c)/\Hid (wr.ownsRow w.heap.size 5 1 v N1 ((L++(List.range k).map (iF M 8)).map vb))/\Hid (aA aB w wr)) (fun _ i _=>8-(intOf i).toNat)
   case atStart=>exact⟨0,N,by omega,rfl,rfl,⟨_,_,rfl⟩,by simpa using HO,HK⟩
   case round =>
    clear HO HK;obtain⟨k,N1,hk,hN1,rfl,⟨a5,c5,rfl⟩,HO,HK⟩:=hrel;have hNb1:N1≤140737488350500:=by omega
    have HN1:=O hN1;clear hN1
    by_cases hlt:k<8
    ·have hml:N1+1≤maxLen:=by unfold maxLen;omega
     have HML:=O hml;clear hml;have HV:=O (show (Value.int .u8 ((M:Int) / 2 ^ (56-8*k) % 256))=vb (iF M 8 k) by rw[NO,sD,show 8*(8-k-1)=56-8*k by omega]);have HN:=O (show N1=(L++(List.range k).map (iF M 8)).length by rw[HN1.out,HNL.out];simp);have hsz:w.heap.size≤(wr.alloc (.cells #[.int .u8 ((M:Int) / 2 ^ (56-8*k) % 256)] 5)).heap.size:=by have:=HK.out.size;simp;omega
     have HS:=O hsz;clear hsz
     go_wp2_with (at_builtin;refine aN rfl (.tmp 26) (.tmp 33) 109 rfl w.heap.size 5 _ 1 1 Tryz.underlying109 fN rfl (by omega) _ N1 _ rfl (HO.out.alloc _) _ 1 _ rfl (tF _ _ _) (HONE.out _) HML.out (by omega) HS.out ?_;intro v' w2 hown2 hk2 hnil hat;have R:=xA HV.out HN.out HO.out HK.out hown2 hk2;obtain⟨a6,c6,rfl,-,-⟩:=(Rd.of_owns hown2).form;clear hown2 hk2 hnil hat HO HK HS HN HV)
     go_roundw
     case rel=>exact⟨k+1,N1+1,by omega,by rw[HN1.out];omega,by go_num,⟨_,_,rfl⟩,by rw[rE,←List.append_assoc];exact R.1,R.2⟩
     case measure=>simp[intOf];omega
    ·obtain rfl:k=8:=by omega
     have HF:Hid (wr.ownsRow w.heap.size 5 1 (.slice a5 N1 c5) N1 ((rH bs).map vb)):=by
      refine O ?_;have:=HO.out;rw[HL.out,HM.out] at this;exact this
     have HNF:=O (show N1=64*many bs.length by rw[←rG,HN1.out,HN0.out]);clear HO HL HM HN1 HNL HN0 hlt hk;go_wp2_with fail;refine(Hp _ _ ⟨_,_,_,rfl⟩).mono ?_;rintro e w3 ⟨rfl,hw3⟩;obtain⟨w4,hw4⟩:∃w4,wr.alloc (.cells #[.slice none 0 0] 278)=w4:=⟨_,rfl⟩
     rw[hw4] at hw3;have HW3:=O hw3;have HW4:=O hw4;clear hw3 hw4;go_wp2_with fail;have hsz4:w4.heap.size=wr.heap.size+1:=by rw[←HW4.out];simp
     have hsz3:w3.heap.size=wr.heap.size+3:=by rw[HW3.out];simp[hsz4]
     obtain⟨g,cap,cur,hv,hgb,hgh,hgc,hgm,hgs,hgt⟩:∃g cap cur,Value.slice a5 N1 c5=.slice (some ⟨g,0,none⟩) N1 cap/\w.heap.size≤g/\wr.heap[g]?=some (.cells cur 5 (0,0))/\N1≤cap/\cap≤maxLen/\cur.size=cap*1/\cur.toList.take (N1*1)=(rH bs).map vb:=by
      rcases HF.out.2 with⟨h,h0⟩|h
      ·have:=Cx bs.length;have:=HNF.out;omega
      ·exact h
     cases hv
     have hb1:w3.heap[wr.heap.size+1]?=some (.cells #[.slice (some ⟨g,0,none⟩) (64*many bs.length) c5] 109 (0,0)):=by
      rw[HW3.out,←hsz4,←HNF.out];exact heap_alloc2_old _ _ _
     have hb2:w3.heap[wr.heap.size+1+1]?=some (.cells #[.int .i64 64] 3 (0,0)):=by
      rw[HW3.out,←hsz4];exact heap_alloc2_new _ _ _
     refine wpIn_wide (n:=3).1 ?_;refine' wpIn_rangeFunc_ownF rfl (by omega) (gf:=254) rfl trivial (enters_of Tryz.func254 (by kernel_rfl) rfl) (Eb _ (wr.heap.size+1) (wr.heap.size+1+1) g 0 (many bs.length) c5 (by rw[←HNF.out];exact hgc) hgm w3 hb1 hb2) ?hKt ?hKb (Below.refl _ _) (fun _=>rfl) (FI wr.heap.size w3 bs) (fun _ _ _=>False) (FI.own (by omega) bs) (fun c s A B row hs _ _=>hs) ?h0 _ ?assign ?body ?done ?stop
     case hKt=>exact fun h k=>⟨k.1.trans h.1,k.2.trans h.2⟩
     case hKb=>exact fun W l o o' hl _ _ _=>⟨World.putObj_heap_other (by omega),World.putObj_heap_other (by omega)⟩
     case h0 =>
      refine⟨⟨.slice none 0 0,[],?_,World.ownsRow_nil _ _ _ _,rfl,fun i p h=>by simp at h⟩,aA.refl _ _⟩;rw[HW3.out,←HW4.out];exact(((aA.refl aB _).alloc _).alloc _).blk (heap_alloc_new _ _) id
     case assign =>
      intro l x W K hK
      gi_wp2_with fail
      exact hK
     case body =>
      rintro l pre x W ⟨⟨v,ps,h1,h2,h3⟩,hk⟩ hlen;obtain⟨av,cv,rfl,-,-⟩:=(Rd.of_owns h2).form;have hlt:x % many bs.length<many bs.length:=Nat.mod_lt _ (Cx _)
      have HP:Hid (Rd W 1 (.slice (some ⟨g,0+64*(x % many bs.length),none⟩) 64 64) 64 ((iZ bs (x % many bs.length)).map vb)):=by
       refine O ⟨by simp[pJ bs _ hlt],_,64,rfl,Nat.le_refl _,by unfold maxLen;omega,(by intro h;cases h),fun _=>⟨g,_,rfl,fun i u hu=>?_⟩⟩
       have hi:i<64:=by
        have:=(List.getElem?_eq_some_iff.1 hu).1
        simpa [pJ bs _ hlt] using this
       have hg3:w3.heap[g]?=some (.cells cur 5 (0,0)):=by
        rw[HW3.out,←HW4.out];exact((((aA.refl aB _).alloc _).alloc _).alloc _).blk hgh id
       have hgW:=hk.blk hg3 (by have:=lt_of_block hgh;omega);refine aC hgW ?_;rw[List.getElem?_map,Hr _ _ _ hi,←List.getElem?_map,←hgt,List.getElem?_take] at hu;split at hu
       ·rw[Nat.zero_add];simpa using hu
       ·cases hu
      have HB:=O h1;have H2:=O h2;have H3:=O h3;have HK3:=O hk;clear h1 h2 h3 hk
      gi_wp2_with fail
      refine lJ (by kernel_rfl) (by kernel_rfl) (fun ⟨_,_,h⟩=>h) ?_;refine Fe (v:=.slice av pre.length cv) (S:=fun w'=>w'.heap[wr.heap.size]?=some (.cells #[.slice av pre.length cv] 278 (0,0))) rfl (by kernel_rfl) (by decide) (by kernel_rfl) (by kernel_rfl) (by kernel_rfl) (fun _ _ _ h=>h) (.inl ⟨by rfl,?_⟩) HB.out ?_
      ·intro w' hS
       have hc:=cell_of_one hS
       go_simp
      ·obtain⟨Wd,hWd,HKd⟩:∃Wd,({ W with drawn:=W.drawn+1 }:World)=Wd/\Hid (aA aB W Wd):=⟨_,rfl,O (aA.refl aB W).drew⟩
       rw[hWd];clear hWd
       have HPd:Hid (Rd Wd 1 (.slice (some ⟨g,64*(x % many bs.length),none⟩) 64 64) 64 ((iZ bs (x % many bs.length)).map vb)):=by
        have:=HP.out.keep HKd.out fun _ _=>id
        rw[Nat.zero_add] at this;exact O this
       have HBd:=O (HKd.out.blk HB.out id);have hbd:w3.heap.size≤Wd.heap.size:=Nat.le_trans HK3.out.size HKd.out.size;have HBs:=O hbd;clear hbd;change wpList _ _ (Exit.then _ _) [_] _ _;go_wp2_with fail;refine⟨fun _=>HBd.out,?_⟩;change wpList _ _ (Exit.then _ _) [_] _ _;refine aN rfl (.const (.slice none 0 0)) (.tmp 40) 109 rfl w3.heap.size 5 _ 1 1 Tryz.underlying109 fN rfl (by omega) _ 0 [] rfl (World.ownsRow_nil _ _ _ _) _ 64 _ rfl HPd.out (bN _) (by unfold maxLen;omega) (by omega) HBs.out ?_;intro p Wp hop hkp hnil hat;have HOp:=O hop;have HKp:=O hkp;obtain⟨ap,cp,rfl,-,-⟩:=(Rd.of_owns hop).form;clear hop hkp hnil hat;refine wpList_nil ⟨fun _=>HKp.out.blk HBd.out (fun h=>by cases h),?_⟩;change wpList _ _ (Exit.then _ _) [_] _ _;go_wp2_with fail;refine⟨fun _=>((aA.refl aB Wp).alloc _).blk (HKp.out.blk HBd.out (fun h=>by cases h)) id,?_⟩;refine zU [_,_] 4 _ _ (by kernel_rfl) ?_;have hml:pre.length+1≤maxLen/\(pre.length+1)*24≤140737488355328:=by have:=rG bs.length;have:=Ac bs.length;unfold maxLen;omega
       have HML:=O hml;clear hml;have hone:∀u∈[Value.slice ap (0+64) cp],u.oneCell'=true:=by simp[Value.oneCell']
       have HONE2:=O hone;clear hone;have hKv:aA aB W (Wp.alloc (.cells #[.slice ap (0+64) cp] 109)):=(HKd.out.trans' HKp.out (fun _ _ h=>h) (fun i _ h=>by cases h)).alloc _;have HOv:=O (hKv.owns H2.out fun _ _=>id);have hbv:w3.heap.size≤(Wp.alloc (.cells #[.slice ap (0+64) cp] 109)).heap.size:=Nat.le_trans HK3.out.size hKv.size;have HBv:=O hbv;clear hbv hKv;refine aN rfl (.tmp 39) (.tmp 42) 278 rfl w3.heap.size 109 _ 1 24 Tryz.underlying278 M9 rfl (by omega) _ pre.length ps rfl HOv.out _ 1 _ rfl (tF _ _ _) HONE2.out HML.out.1 HML.out.2 HBv.out ?_;intro v' Wr hor hkr hnil hat;have HM:=CB (bs:=bs) (by omega) HB.out H2.out HKd.out HKp.out hkr;have R:=O (J0 (x:=x) (by omega) HB.out H2.out H3.out HK3.out HKd.out HOp.out HKp.out hor hkr);have cM:=cell_of_one HM;have fM:=cV HM 0;obtain⟨ar,cr,rfl,-,-⟩:=(Rd.of_owns hor).form;clear hor hkr hnil hat HM;go_wp2_with fail;exact R.out
     case done =>
      intro D xs W hD hS hI hDd;obtain⟨⟨v,ps,h1,h2,h3⟩,hk⟩:=hI;have c1:=cell_of_one h1;subst hS;rw[List.length_range] at h2;obtain⟨ar,cr,rfl,-,-⟩:=(Rd.of_owns h2).form;have H2:=O h2;have H3:=O h3;have HK3:=O hk;have HD:=O hDd
      have hkw:aA aB w W:=by
       refine aA.trans' (S:=aB) (T:=fun k=>k=wr.heap.size) (b:=w3) ?_ hk (fun _ _ h=>h) (fun i hi e=>by have:=HK.out.size;omega);rw[HW3.out,←HW4.out];exact((HK.out.alloc _).alloc _).alloc _
      have HKW:=O hkw;clear h1 h2 h3 hk hDd hkw;go_wp2_with fail;refine⟨by simp,.inl ⟨_,_,rfl,run_takeDeferred HD.out,?_⟩⟩;refine⟨_,results_tmp rfl _ _ _,?_⟩;exact Hx rfl HD.out H2.out H3.out HKW.out ⟨by have:=HK.out.size;omega,hD⟩
     case stop=>exact fun D c pre W _ _ h _=>h.elim
open Go.RowKit
set_option maxRecDepth 100000
def Na:St:=⟨1779033703,3144134277,1013904242,2773480762,1359893119,2600822924,528734635,1541459225⟩
def qR(bs:List UInt8):Nat->St
 | 0=>Na
 | k+1=>tV (byt (iZ bs k)) (qR bs k)
def dgB(s:St)(j:Nat):UInt8:=UInt8.ofNat (s.at (j / 4) / 2 ^ (24-8*(j % 4)) % 256).toNat
theorem Nb(s:St)(j:Nat):vb (dgB s j)=.int .u8 (s.at (j / 4) / 2 ^ (24-8*(j % 4)) % 256):=by
 unfold vb dgB;have h1:=Int.emod_nonneg (s.at (j / 4) / 2 ^ (24-8*(j % 4))) (show (256:Int)≠0 by omega);have h2:=Int.emod_lt_of_pos (s.at (j / 4) / 2 ^ (24-8*(j % 4))) (show (0:Int)<256 by omega);generalize s.at (j / 4) / 2 ^ (24-8*(j % 4)) % 256=y at *;obtain⟨n,rfl⟩:=Int.eq_ofNat_of_zero_le h1;have:n<256:=by omega
 simp;omega
def cR(bs:List UInt8):List UInt8:=(List.range 32).map (dgB (qR bs (many bs.length)))
theorem cP(bs:List UInt8):(cR bs).length=32:=by simp[cR]
def gZ(s:St)(n:Nat):List Value:=(List.range 32).map fun j=>if j<n then vb (dgB s j) else .int .u8 0
theorem CE(s:St)(n:Nat):(gZ s n).set n (vb (dgB s n))=gZ s (n+1):=by
 apply List.ext_getElem
 ·simp[gZ]
 ·intro i h1 h2
  simp only[List.getElem_set,gZ,List.getElem_map,List.getElem_range]
  by_cases e:n=i
  ·subst e;simp
  ·rw[if_neg e]
   by_cases h:i<n
   ·rw[if_pos h,if_pos (by omega)]
   ·rw[if_neg h,if_neg (by omega)]
theorem Ec(bs:List UInt8):gZ (qR bs (many bs.length)) 32=(cR bs).map vb:=by
 apply List.ext_getElem
 ·simp[gZ,cR]
 ·intro i h1 h2
  have:i<32:=by simpa [gZ] using h1
  simp[gZ,cR,this]
theorem Ed(s:St)(n:Nat){j:Nat}(hj:j<32):∃u,(gZ s n)[j]?=some u:=⟨_,by simp[gZ,hj];rfl⟩
def L4(w:World)(bs:List UInt8)(e:Ending)(w':World):Prop:=e=.returned (.agg ((cR bs).map vb).toArray)/\aA aB w w'
def uA:Value:=.agg (Array.replicate 32 (.int .u8 0))
theorem yJ(w:World):(zeroValue 25).run Tryz.prog w=.ok uA w:=by kernel_rfl
theorem nS:(Tryz.prog.info? 25).map (·.size)=some 32:=by kernel_rfl
structure SR(T:TypeId)(w wr:World)(bs:List UInt8)(v:Value)(ps:List Value)(base b3 k:Nat):Prop where
 st:wr.heap[b3]?=some (.cells ((qR bs k).l.map vW).toArray T (0,0))
 res:wr.heap[w.heap.size]?=some (.cells (Array.replicate 32 (.int .u8 0)) 25 (0,0))
 own:wr.ownsRow base 109 1 v (many bs.length) ps
 pcs:gK wr base bs (List.range (many bs.length)) ps
 keep:aA aB w wr
 lt:w.heap.size<b3
 typ:T≠5/\T≠109/\T≠25
theorem SR.same{T:TypeId}{w wr w2:World}{bs:List UInt8}{v:Value}{ps:List Value}{base b3 k:Nat}(h:SR T w wr bs v ps base b3 k)(hk:aA aB wr w2):SR T w w2 bs v ps base b3 k:=
 ⟨hk.blk h.st id,hk.blk h.res id,hk.owns h.own fun _ _=>id,h.pcs.keep hk fun _ _ _=>id,h.keep.trans hk,h.lt,h.typ⟩
theorem SR.turn{T:TypeId}{w wr w2 w3:World}{bs:List UInt8}{v:Value}{ps:List Value}{base b3 k:Nat}(h:SR T w wr bs v ps base b3 k)(hk:aA aB wr w2)
 (hst:w3.heap[b3]?=some (.cells (spl ((qR bs k).l.map vW).toArray 0 ((tV (byt (iZ bs k)) (qR bs k)).l.map vW)) T (0,0))) (hk3:aA (fun i=>i=b3) w2 w3):Hid (SR T w w3 bs v ps base b3 (k+1)):=by
 have h2:=h.same hk;have lt:=h.lt;refine O ⟨?_,hk3.blk h2.res (by omega),hk3.owns h2.own (fun i hi e=>?_),h2.pcs.keep hk3 (fun i cur hc e=>?_),h2.keep.trans' hk3 (fun _ _ h=>h) (fun i hi e=>by omega),h.lt,h.typ⟩
 ·rw[aI _ _ (by simp[St.l])] at hst;exact hst
 ·subst e
  obtain⟨cur,hc⟩:=aL h2.own hi;rw[h2.st] at hc;cases hc
  exact h.typ.2.1 rfl
 ·subst e
  rw[h2.st] at hc;cases hc
  exact h.typ.1 rfl
theorem SR.piece{T:TypeId}{w wr:World}{bs:List UInt8}{v:Value}{ps:List Value}{base b3 k:Nat}(h:SR T w wr bs v ps base b3 k)(hk:k<many bs.length) :
 ∃ap cp g cap,v=.slice (some ⟨g,0,none⟩) (many bs.length) cap/\wr.cell? ⟨g,k,none⟩=some (.slice ap 64 cp)/\Rd wr 1 (.slice ap 64 cp) 64 ((iZ bs k).map vb):=by
 have hl:ps.length=many bs.length:=by rw[h.pcs.1];simp
 obtain⟨p,hp⟩:∃p,ps[k]?=some p:=⟨ps[k],by simp[hl,hk]⟩
 obtain⟨x,hx,ho⟩:=h.pcs.2 k p hp;have:x=k:=by rw[List.getElem?_range hk] at hx;exact(Option.some.inj hx).symm
 subst this;rw[Nat.mod_eq_of_lt hk] at ho;obtain⟨ap,cp,rfl,-,-⟩:=(Rd.of_owns ho).form;rcases h.own.2 with⟨-,h0⟩|⟨g,cap,cur,rfl,-⟩
 ·omega
 ·refine⟨ap,cp,g,cap,rfl,?_,Rd.of_owns ho⟩
  have:=h.own.cells (g:=g) rfl x _ hp
  rwa [lB,Nat.zero_add] at this
structure DR(T:TypeId)(w wr:World)(s:St)(b3 b6 n:Nat):Prop where
 st:wr.heap[b3]?=some (.cells (s.l.map vW).toArray T (0,0))
 res:wr.heap[w.heap.size]?=some (.cells (Array.replicate 32 (.int .u8 0)) 25 (0,0))
 out:wr.heap[b6]?=some (.cells (gZ s n).toArray 25 (0,0))
 keep:aA aB w wr
 l3:w.heap.size<b3
 l6:b3<b6
theorem DR.step{T:TypeId}{w wr:World}{s:St}{b3 b6 n:Nat}(h:DR T w wr s b3 b6 n){x:Value}(hx:x=vb (dgB s n)):Hid (DR T w (wr.setCell ⟨b6,n,none⟩ x) s b3 b6 (n+1)):=by
 subst hx;have l3:=h.l3;have l6:=h.l6;have K:aA (fun k=>k=b6) wr (wr.setCell ⟨b6,n,none⟩ (vb (dgB s n))):=aA.setCell (S:=fun k=>k=b6) (p:=⟨b6,n,none⟩) (aA.refl _ _) (fun _=>rfl) _;refine O ⟨K.blk h.st (by omega),K.blk h.res (by omega),?_,h.keep.trans' K (fun _ _ h=>h) (fun i hi e=>by omega),l3,l6⟩;have:=dO h.out n (vb (dgB s n));rw[List.setIfInBounds_toArray,CE] at this;exact this
theorem Ol(S:St)(j:Nat)(hj:j<8):∀w:World,Sem.run Tryz.prog (Instr.index 276 (.agg (S.l.map vW).toArray) (.int .i64 (j:Int))) w=.ok (vW (S.at j)) w:=by
 intro w;have h:j=0\/j=1\/j=2\/j=3\/j=4\/j=5\/j=6\/j=7:=by omega
 rcases h with rfl|rfl|rfl|rfl|rfl|rfl|rfl|rfl<;>(show _=_;kernel_rfl)
theorem DR.free{T:TypeId}{w wr:World}{s:St}{b3 b6 n:Nat}(h:DR T w wr s b3 b6 n)(hn:n<32):(∃u,wr.cell? ⟨b6,n,none⟩=some u)/\wr.frozen? ⟨b6,n,none⟩=false:=by
 obtain⟨u,hu⟩:=Ed s n hn;exact⟨⟨u,aC h.out (by simpa using hu)⟩,cV h.out n⟩
theorem vH(bv:Value)(bs:List UInt8)(w:World)(hr:Rd w 1 bv bs.length (bs.map vb))(hb:bs.length≤140737488350208) :
 Calls Tryz.prog 145 #[bv] w (L4 w bs):=by
 obtain⟨a,c,rfl,-,-⟩:=hr.form;have HR:=O hr;clear hr;go_in
 go_wp2_with (first
  | (refine aR rfl 25 rfl uA yJ (Array.replicate 32 (.int .u8 0)) rfl ?_))
 refine(Hw _).mono ?_;rintro e w1 ⟨rfl,hk1⟩;have hvs:∃vs,nP.map vW=vs/\vs.length=8:=⟨_,rfl,rfl⟩
 obtain⟨vs,hvs,hlen⟩:=hvs;rw[hvs];have hone:∀u∈vs,u.oneCell'=true:=by rw[←hvs];exact gJ _
 have HVS:=O hvs;have HK1:=O hk1;clear hvs hk1;have hlt:w.heap.size<w1.heap.size:=by have:=HK1.out.size;simp at this;omega
 go_wp2_with (first
  | (refine aR rfl 276 rfl jA tZ (Array.replicate 8 (.int .u32 0)) rfl ?_)
  | (with_reducible show WL none (.store 276 (.tmp 3) (.tmp 10));refine aP rfl 276 (.tmp 3) (.tmp 10) rfl w1.heap.size 0 vs rfl rfl _ _ (heap_alloc_new _ _) (by rw[hlen];decide) (by rw[hlen];exact fS) hone ?_;intro w2 hb2 hk2;have HB2:=O hb2;have HK2:=O hk2;clear hb2 hk2))
 have hkw:aA aB w w2:=(((aA.refl aB w).alloc _).trans HK1.out |>.alloc _).trans' HK2.out (fun _ _ h=>h) (fun i hi e=>by omega);have HKW:=O hkw;clear hkw;refine(J1 _ bs w2 (HR.out.keep HKW.out fun _ _=>id) hb).mono ?_;rintro e w3 ⟨v,ps,rfl,hown,hpcs,hk3⟩
 have R0:Hid (SR 276 w w3 bs v ps w2.heap.size w1.heap.size 0):=by
  refine O ⟨?_,hk3.blk (HK2.out.blk (((HK1.out.alloc _).blk (heap_alloc_new _ _) id)) (by omega)) id,hown,hpcs,HKW.out.trans hk3,hlt,by decide⟩;have:=HB2.out;rw[aI _ _ (by rw[hlen];rfl),←HVS.out] at this;exact hk3.blk this id
 obtain⟨av,cv,rfl,-,-⟩:=(Rd.of_owns hown).form;clear hown hpcs hk3 HB2 HK2 HKW HK1 HVS;have hm:=rG bs.length;have hp:=Ac bs.length;obtain⟨M,hM⟩:∃M,M=many bs.length:=⟨_,rfl⟩
 rw[←hM] at hm R0 ⊢;have HM:=O hM;clear hM;go_wp2_with fail
 go_loopw [14] (fun i wr=>∃k:Nat,k≤M/\i=.int .i64 k/\Hid (SR 276 w wr bs (.slice av M cv) ps w2.heap.size w1.heap.size k)) (fun i _=>M-(intOf i).toNat)
 case atStart=>exact⟨0,by omega,rfl,R0⟩
 case round =>
  clear R0;obtain⟨k,hk,rfl,hR⟩:=hrel
  by_cases hk2:k<M
  ·obtain⟨ap,cp,g,cap,hv,c0,hrd⟩:=hR.out.piece (by rw[←HM.out];exact hk2)
   rw[←HM.out] at hv;cases hv
   have hb0:(0:Int)≤(k:Int):=by omega
   have hb1:(k:Int)<(M:Int):=by omega
   have HP:=O hrd;clear hrd;obtain⟨us,hus⟩:∃us,(qR bs k).l.map vW=us:=⟨_,rfl⟩
   have hul:us.length=8:=by rw[←hus];rfl
   have HUS:=O hus;clear hus
   go_wp2_with (first
    | (with_reducible show WL (some 18) (.load 276 (.tmp 3));refine wpList_load_mid rfl 276 (.tmp 3) rfl w1.heap.size 0 rfl us _ (aD (by rw[←HUS.out];exact hR.out.st)) Tryz.underlying276 rfl (by rw[hul];exact fS) ?_))
   rw[←HUS.out];refine(FK (qR bs k) _ (iZ bs k) _ (pJ bs k (by rw[←HM.out];exact hk2)) HP.out).mono ?_;rintro e w4 ⟨rfl,hk4⟩;obtain⟨ts,hts⟩:∃ts,(tV (byt (iZ bs k)) (qR bs k)).l.map vW=ts:=⟨_,rfl⟩
   have htl:ts.length=8:=by rw[←hts];rfl
   have hto:∀u∈ts,u.oneCell'=true:=by rw[←hts];exact gJ _
   rw[hts];have HTS:=O hts;have HK4:=O hk4;clear hts hk4
   go_wp2_with (first
    | (with_reducible show WL none (.store 276 (.tmp 3) (.tmp 20));refine aP rfl 276 (.tmp 3) (.tmp 20) rfl w1.heap.size 0 ts rfl rfl _ _ (HK4.out.blk hR.out.st id) (by rw[htl];simp[St.l]) (by rw[htl];exact fS) hto ?_;intro w5 hb5 hk5;rw[←HTS.out] at hb5;have hR2:=hR.out.turn HK4.out hb5 hk5;clear hb5 hk5))
   go_roundw
   case rel=>exact⟨k+1,by omega,by go_num,hR2⟩
   case measure=>simp[intOf];omega
  ·obtain rfl:k=M:=by omega
   obtain⟨S,hS⟩:∃S,qR bs k=S:=⟨_,rfl⟩
   have D0:Hid (DR 276 w (wr.alloc (.cells (Array.replicate 32 (.int .u8 0)) 25)) S w1.heap.size wr.heap.size 0):=by
    have h:=hR.out;have K:aA aB wr (wr.alloc (.cells (Array.replicate 32 (.int .u8 0)) 25)):=(aA.refl _ _).alloc _;exact O ⟨by rw[←hS];exact K.blk h.st id,K.blk h.res id,heap_alloc_new _ _,h.keep.trans K,h.lt,lt_of_block h.st⟩
   have HSd:=O hS;clear hS hR;have hul:(S.l.map vW).length=8:=rfl
   go_wp2_with (first
    | (refine aR rfl 25 rfl uA yJ (Array.replicate 32 (.int .u8 0)) rfl ?_)
    | (with_reducible show WL (some 22) (.load 276 (.tmp 3));refine wpList_load_mid rfl 276 (.tmp 3) rfl w1.heap.size 0 rfl (S.l.map vW) _ (aD D0.out.st) Tryz.underlying276 rfl (by rw[hul];exact fS) ?_))
   generalize wr.alloc (.cells (Array.replicate 32 (.int .u8 0)) 25)=w0 at *;generalize wr.heap.size=b6 at *
   go_loopw [23] (fun i wr=>∃j:Nat,j≤8/\i=.int .i64 j/\Hid (DR 276 w wr S w1.heap.size b6 (4*j))) (fun i _=>8-(intOf i).toNat)
   case atStart=>exact⟨0,by omega,rfl,D0⟩
   case round =>
    clear D0;obtain⟨j,hj,rfl,hD⟩:=hrel
    by_cases hj8:j<8
    ·have hx:(S.l.map vW).toArray[j]?=some (vW (S.at j)):=by simp[S.at_get j hj8]
     have hj0:(0:Int)≤(j:Int):=by omega
     have hj1:(j:Int)<8:=by omega
     have hix:=Ol S j hj8;obtain⟨x,hx⟩:∃x,S.at j=x:=⟨_,rfl⟩
     simp only[hx,show vW x=.int .u32 x from rfl] at hix;have HX:=O hx;clear hx;go_wp2_with fail;obtain⟨wo,rfl⟩:∃wo:World,wo=wr:=⟨_,rfl⟩
     go_loopw [27] (fun i wr=>∃k:Nat,k≤4/\i=.int .i64 k/\Hid (DR 276 w wr S w1.heap.size b6 (4*j+k))) (fun i _=>4-(intOf i).toNat)
     case atStart=>exact⟨0,by omega,rfl,hD⟩
     case round =>
      clear hD;obtain⟨q,hq,rfl,hD⟩:=hrel
      by_cases hq4:q<4
      ·obtain⟨⟨u,hcu⟩,hfu⟩:=hD.out.free (show 4*j+q<32 by omega)
       have hq0:(0:Int)≤(q:Int):=by omega
       have hq1:(q:Int)<4:=by omega
       have HV:=O (show (Value.int .u8 (x / 2 ^ (24-8*q) % 256))=vb (dgB S (4*j+q)) by rw[Nb,←HX.out,show (4*j+q) / 4=j by omega,show (4*j+q) % 4=q by omega]);have hD2:=hD.out.step HV.out;go_wp2_with fail;refine⟨⟨q+1,by omega,by go_num,hD2⟩,?_⟩;simp[intOf];omega
      ·obtain rfl:q=4:=by omega
       go_wp2
       go_roundw
       case rel=>exact⟨j+1,by omega,by go_num,by rw[show 4*(j+1)=4*j+4 by omega];exact hD⟩
       case measure=>simp[intOf];omega
    ·obtain rfl:j=8:=by omega
     obtain⟨ds,hds⟩:∃ds,(cR bs).map vb=ds:=⟨_,rfl⟩
     have hdl:ds.length=32:=by rw[←hds];simp[cP]
     have hdo:∀u∈ds,u.oneCell'=true:=by rw[←hds];exact bN _
     have hout:wr.heap[b6]?=some (.cells ds.toArray 25 (0,0)):=by
      have:=hD.out.out;rw[←hds,←Ec,←HM.out,HSd.out];exact this
     have HDS:=O hds;have HOUT:=O hout;clear hds hout
     go_wp2_with (first
      | (with_reducible show WL (some 43) (.load 25 (.tmp 6));refine wpList_load_mid rfl 25 (.tmp 6) rfl b6 0 rfl ds _ (aD HOUT.out) Tryz.underlying25 rfl (by rw[hdl];exact nS) ?_)
      | (with_reducible show WL none (.store 25 (.tmp 2) (.tmp 43));refine aP rfl 25 (.tmp 2) (.tmp 43) rfl w.heap.size 0 ds rfl rfl _ _ hD.out.res (by rw[hdl];simp) (by rw[hdl];exact nS) hdo ?_;intro w5 hb5 hk5;have HB5:=O hb5;have HK5:=O hk5;clear hb5 hk5))
     refine bodyPost_ret (results_cell_row rfl _ _ w.heap.size _ _ _ _ rfl HB5.out Tryz.underlying25 rfl (by rw[fJ];simp[nS])) rfl ⟨?_,?_⟩
     ·rw[aI _ _ (by rw[hdl];simp),HDS.out]
     ·exact hD.out.keep.trans' HK5.out (fun _ _ h=>h) (fun i hi e=>by omega)
open Go.RowKit
set_option maxRecDepth 100000
structure Rdr(w:World)(base p:Nat)(v:Value)(l:List UInt8)(at_:Nat)(fe fa:Int):Prop where
 blk:w.heap[p]?=some (.cells #[.bool true,v,.int .i64 at_,.int .i64 fe,.int .i64 fa] 341 (0,0))
 own:w.ownsRow base 5 1 v l.length (l.map vb)
 ne:v.ownBlock≠some p
 le:base≤p
 fit:at_≤l.length
 max:l.length≤65536
theorem Rdr.cells{w:World}{base p:Nat}{v:Value}{l:List UInt8}{at_:Nat}{fe fa:Int}(h:Rdr w base p v l at_ fe fa) :
 w.cell? ⟨p,0,none⟩=some (.bool true)/\w.cell? ⟨p,1,none⟩=some v/\w.cell? ⟨p,2,none⟩=some (.int .i64 at_)/\w.cell? ⟨p,3,none⟩=some (.int .i64 fe)/\w.cell? ⟨p,4,none⟩=some (.int .i64 fa)/\(∀i,w.frozen? ⟨p,i,none⟩=false):=by
 refine⟨?_,?_,?_,?_,?_,fun i=>frozen_of_row w p i _ _ h.blk⟩<;>(rw[cell_of_row w p _ _ _ _ h.blk];rfl)
theorem Rdr.keep{w w':World}{base p:Nat}{v:Value}{l:List UInt8}{at_:Nat}{fe fa:Int}(h:Rdr w base p v l at_ fe fa){S:Nat->Prop}(k:aA S w w')(hp:¬S p)(hv:∀g,v.ownBlock=some g->¬S g):Rdr w' base p v l at_ fe fa:=
 ⟨k.blk h.blk hp,k.owns h.own hv,h.ne,h.le,h.fit,h.max⟩
theorem Rdr.setAt{w:World}{base p:Nat}{v:Value}{l:List UInt8}{at_:Nat}{fe fa:Int}(h:Rdr w base p v l at_ fe fa)(n:Nat)(hn:n≤l.length):Rdr (w.setCell ⟨p,2,none⟩ (.int .i64 n)) base p v l n fe fa:=
 ⟨by rw[dO h.blk];rfl,ownsRow_setCell_other h.own (by simpa using h.ne) _,h.ne,h.le,hn,h.max⟩
theorem uC(w:World)(base p:Nat)(v:Value)(l:List UInt8)(at_:Nat)(fe fa:Int)(h:Rdr w base p v l at_ fe fa) :
 Calls Tryz.prog 253 #[.pointer (some ⟨p,0,none⟩)] w (fun e w'=>e=.returned (.bool false)/\w=w'):=by
 obtain⟨c0,c1,c2,c3,c4,cf⟩:=h.cells;clear h;go_in;go_wp2;go_ret;exact⟨rfl,rfl⟩
theorem H9(bv:Value)(bs:List UInt8)(w:World)(hr:Rd w 1 bv bs.length (bs.map vb))(hb:bs.length≤65536) :
 Calls Tryz.prog 224 #[bv] w (fun e w'=>∃p v,e=.returned (.pointer (some ⟨p,0,none⟩))/\Rdr w' w.heap.size p v bs 0 0 0/\aA aB w w'):=by
 have C:=O (AS bv bs w hr (by omega));obtain⟨a,c,rfl,-,-⟩:=hr.form;clear hr;go_in;go_wp2_with fail;refine C.out.mono ?_;rintro e w1 ⟨v,rfl,hown,hk⟩;obtain⟨a3,c3,rfl,-,-⟩:=(Rd.of_owns hown).form;have HO:=O hown;have HK:=O hk;clear hown hk;go_wp2;go_ret;refine⟨_,_,rfl,⟨heap_alloc_new _ _,(((aA.refl aB w1).alloc _).owns HO.out fun _ _=>id),?_,HK.out.size,Nat.zero_le _,hb⟩,HK.out.alloc _⟩;intro e;obtain⟨cur,hc⟩:=aL HO.out e;have:=lt_of_block hc;omega
theorem EL(w:World)(base p:Nat)(v:Value)(l:List UInt8)(at_:Nat)(fe fa:Int)(h:Rdr w base p v l at_ fe fa)(n:Nat)(h1:1≤n)(hn:at_+n≤l.length) :
 Calls Tryz.prog 251 #[.pointer (some ⟨p,0,none⟩),.int .i64 n] w (fun e w'=>∃bv,e=.returned bv/\Rd w' 1 bv n (((l.drop at_).take n).map vb)/\aA aB w w'):=by
 obtain⟨c0,c1,c2,c3,c4,cf⟩:=h.cells
 obtain⟨g,c,hv,hlc,hcm⟩:∃g c,v=.slice (some ⟨g,0,none⟩) l.length c/\l.length≤c/\c≤9223372036854775807:=by
  rcases h.own.2 with⟨-,h0⟩|⟨g,cap,cur,rfl,_,_,h1,h2,h3,h4⟩
  ·omega
  ·exact⟨g,cap,rfl,by omega,by unfold maxLen at h2;omega⟩
 subst hv;have H:=O h;have hm:=h.max;clear h;have e1:IntKind.i64.wrap ((at_:Int)+(n:Int))=(at_:Int)+(n:Int):=by rw[IntWalk.i64_in _ (by omega)]
 have e2:IntKind.i64.wrap ((l.length:Int)-(at_:Int))=(l.length:Int)-(at_:Int):=by rw[IntWalk.i64_in _ (by omega)]
 have e3:((at_:Int)+(n:Int)).toNat=at_+n:=by omega
 have i1:(0:Int)≤(at_:Int):=by omega
 have i2:(0:Int)≤(at_:Int)+(n:Int):=by omega
 have i3:(at_:Int)≤(at_:Int)+(n:Int):=by omega
 have i4:(at_:Int)+(n:Int)≤(c:Int):=by omega
 have i5:at_<c:=by omega
 have i6:at_+n≤c:=by omega
 have i7:at_≤at_+n:=by omega
 have t1:decide ((l.length:Int)-(at_:Int)<(n:Int))=false:=by simp;omega
 go_in;go_wp2_with fail
 go_quiet (fail)
 go_wp2_with fail
 go_quiet (fail)
 go_wp2;go_ret;refine⟨_,rfl,?_,?_⟩
 ·refine Rd.keep (w:=w) (S:=aB) ?_ (aA.drewN (aA.drewN (aA.refl _ _) _) _) (fun _ _=>id)
  refine⟨by simp;omega,_,_,rfl,by omega,by unfold maxLen;omega,(by intro h;cases h),fun _=>⟨g,at_,rfl,fun i u hu=>?_⟩⟩;have:=H.out.own.cells (g:=g) rfl (at_+i) u ?_
  ·rwa [lB,Nat.zero_add] at this
  ·rw[List.map_take,List.map_drop,List.getElem?_take] at hu
   split at hu
   ·rwa [List.getElem?_drop] at hu
   ·cases hu
 ·exact aA.drewN (aA.drewN (aA.refl _ _) _) _
def FO(er ea:Int):List PanicEntry:=[{ v:=.iface 343 (.agg #[.int .i64 er,.int .i64 ea]),recovered:=false }]
theorem FP(A:Nat)(w:World) :
 CallsD Tryz.prog 267 #[.pointer (some ⟨A,0,none⟩)] .returning w fun e u' w'=>e=.returned (.tuple #[])/\u'=.returning/\w'=w:=by
 refine callsD_of_wpS Tryz.func267 rfl fun c₀ cs hu=>?_
 apply wpS_seq;apply wpS_region;simp[wpOpsS,go_sem,recoverD,hu,Tryz.ntmps267,Exit.thenS];refine wpS_of_wp ?_;go_wp2_with fail;cases c₀
 simp_all [bodyPostS,results,Tryz.results267]
def Nh(p:Nat)(er ea:Int)(cs5:Array Value)(w:World)(e:Ending)(u':FrameMode)(w':World):Prop:=
 e=.returned (.tuple #[])/\u'=.panicking [{ v:=.iface 343 (.agg #[.int .i64 er,.int .i64 ea]),recovered:=true }] /\
 w'.heap[p]?=some (.cells (spl cs5 3 [.int .i64 er,.int .i64 ea]) 341 (0,0))/\aA (fun k=>k=p) w w'
theorem J7(w:World):(zeroValue 343).run Tryz.prog w=.ok (.agg #[.int .i64 0,.int .i64 0]) w:=by kernel_rfl
theorem CG:(Tryz.prog.info? 343).map (·.size)=some 2:=by kernel_rfl
theorem lD:(Tryz.prog.info? 182).map (·.size)=some 2:=by kernel_rfl
theorem FQ(A p:Nat)(er ea:Int)(w:World)(hA:w.cell? ⟨A,0,none⟩=some (.pointer (some ⟨p,0,none⟩)))(cs5:Array Value)(h5:cs5.size=5)(hp:w.heap[p]?=some (.cells cs5 341 (0,0))) :
 CallsD Tryz.prog 267 #[.pointer (some ⟨A,0,none⟩)] (.panicking (FO er ea)) w (Nh p er ea cs5 w):=by
 have hta:∀(w:World),Sem.run Tryz.prog (Instr.typeAssert (.iface 343 (.agg #[.int .i64 er,.int .i64 ea])) 20 343 true) w=.ok (.tuple #[.agg #[.int .i64 er,.int .i64 ea],.bool true]) w:=fun w=>by kernel_rfl
 have hlt:=lt_of_block hp;have HP:=O hp;have HA:=O hA;clear hp hA;refine callsD_of_wpS Tryz.func267 rfl fun c₀ cs hu=>?_
 simp only[Tryz.ntmps267,List.size_toArray,List.length_cons,List.length_nil,Nat.reduceAdd,Nat.reduceSub,Array.replicate_succ,
  Array.replicate_zero,List.push_toArray,List.append_toArray,List.nil_append,List.cons_append]
 apply wpS_seq;apply wpS_region;simp[wpOpsS,go_sem,recoverD,hu,FO,Exit.thenS];refine wpS_of_wp ?_;obtain⟨vs,hvs⟩:∃vs:List Value,vs=[.int .i64 er,.int .i64 ea]:=⟨_,rfl⟩
 have hvl:vs.length=2:=by rw[hvs];rfl
 have hvo:∀u∈vs,u.oneCell'=true:=by rw[hvs];simp[Value.oneCell']
 have HVS:=O hvs;have hta':∀(w:World),Sem.run Tryz.prog (Instr.typeAssert (.iface 343 (.agg vs.toArray)) 20 343 true) w=.ok (.tuple #[.agg vs.toArray,.bool true]) w:=by rw[hvs];exact hta
 rw[show (#[Value.int .i64 er,.int .i64 ea]:Array Value)=vs.toArray by rw[hvs]];have hAlt:A<w.heap.size:=by have:=World.block_lt_of_cell? w _ HA.out;exact this
 clear hvs hta
 go_wp2_with (first
  | (refine aR rfl 343 rfl _ J7 #[.int .i64 0,.int .i64 0] rfl ?_)
  | ((with_reducible show WL none (.store 343 (.tmp 2) (.tmp 9)));refine aP rfl 343 (.tmp 2) (.tmp 9) rfl w.heap.size 0 vs rfl rfl _ _ (heap_alloc_new _ _) (by rw[hvl];decide) (by rw[hvl];exact CG) hvo ?_;intro w2 hb2 hk2;have hA2:=hk2.cell (((aA.refl aB w).alloc _).cell HA.out id) (by omega);have HB2:=O hb2;have HP2:=O (hk2.blk (((aA.refl aB w).alloc _).blk HP.out id) (by omega));have HK2:=O hk2;clear hb2 hk2)
  | ((with_reducible show WL (some 11) (.load 343 (.tmp 2)));refine wpList_load_mid rfl 343 (.tmp 2) rfl w.heap.size 0 rfl vs _ (aD (by have:=HB2.out;rwa [aI _ _ (by rw[hvl];rfl)] at this)) Tryz.underlying343 rfl (by rw[hvl];exact CG) ?_)
  | ((with_reducible show WL none (.store 182 (.tmp 13) (.tmp 11)));refine aP rfl 182 (.tmp 13) (.tmp 11) rfl p 3 vs rfl rfl _ _ HP2.out (by rw[hvl,h5];omega) (by rw[hvl];exact lD) hvo ?_;intro w3 hb3 hk3;have HB3:=O hb3;have HK3:=O hk3;clear hb3 hk3))
 refine⟨rfl,_,rfl,_,results_none rfl _ _ _,rfl,by rw[HVS.out],?_,?_⟩
 ·rw[←HVS.out];exact HB3.out
 ·exact(((aA.refl (fun k=>k=p) w).alloc _).trans' HK2.out (fun _ _ h=>h) (fun i hi e=>by omega)).trans' HK3.out (fun _ _ h=>h) (fun i hi e=>e)
def mI(w:World)(p:Nat):World:=w.alloc (.cells #[.pointer (some ⟨p,0,none⟩)] 307)
theorem nT(w:World)(p:Nat):aA aB w (mI w p):=(aA.refl _ _).alloc _
def CH(Q:World->Prop)(e:Ending)(w':World):Prop:=e=.returned (.tuple #[])/\Q w'
def FR(er ea:Int)(Q:World->Prop)(e:Ending)(w':World):Prop:=e=.panicked (FO er ea)/\Q w'
theorem CI(w:World)(base p:Nat)(v:Value)(l:List UInt8)(at_:Nat)(fa:Int)(h:Rdr w base p v l at_ 0 fa)(fn:Nat)(caps:Array Value)
 (hcf:∀w,Sem.run Tryz.prog (callFunc fn caps) w=.ok (.enter fn caps) w) (Q:World->Prop) (hc:Calls Tryz.prog fn caps (mI w p) (CH Q)) :
 Calls Tryz.prog 249 #[.pointer (some ⟨p,0,none⟩),.func (.func fn) #[] caps] w (CH Q):=by
 have h1:=h.keep (nT w p) id (fun _ _=>id);obtain⟨c0,c1,c2,c3,c4,cf⟩:=h1.cells;have C:=O (uC _ _ _ _ _ _ _ _ h1);have HC:=O hc;have hmf:∀(fn:Fn) (first cap:Array Value) (w:World),(Instr.makeFunc fn first cap).run Tryz.prog w=.ok (.func fn first cap) w:=fun _ _ _ _=>rfl
 clear hc h h1;unfold mI at *
 go_enter_defers Tryz.func249,Tryz.ntmps249
 go_wp2_with fail;refine C.out.mono ?_;rintro e w1 ⟨rfl,rfl⟩;go_wp2_with fail;refine HC.out.mono ?_;rintro e w1 ⟨rfl,hq⟩;have HQ:=O hq;clear hq;go_wp2_with fail;refine leaves_cons (f:=267) (args:=#[.pointer (some ⟨w.heap.size,0,none⟩)]) (by simp) (by simp[go_sem]) ?_;refine(FP _ _).mono ?_;rintro e u' w'' ⟨rfl,rfl,rfl⟩;exact⟨_,results_none rfl _ _ _,rfl,HQ.out⟩
def CJ(w:World)(p base:Nat)(v:Value)(l:List UInt8)(at_:Nat)(er ea:Int)(e:Ending)(w':World):Prop:=
 e=.returned (.tuple #[])/\Rdr w' base p v l at_ er ea/\aA (fun k=>k=p) w w'
theorem Ia(w:World)(base p:Nat)(v:Value)(l:List UInt8)(at_:Nat)(fa:Int)(h:Rdr w base p v l at_ 0 fa)(fn:Nat)(caps:Array Value)
 (hcf:∀w,Sem.run Tryz.prog (callFunc fn caps) w=.ok (.enter fn caps) w) (er ea:Int) (hc:Calls Tryz.prog fn caps (mI w p) (FR er ea (aA aB (mI w p)))) :
 Calls Tryz.prog 249 #[.pointer (some ⟨p,0,none⟩),.func (.func fn) #[] caps] w (CJ w p base v l at_ er ea):=by
 have h1:=h.keep (nT w p) id (fun _ _=>id);obtain⟨c0,c1,c2,c3,c4,cf⟩:=h1.cells;have C:=O (uC _ _ _ _ _ _ _ _ h1);have HC:=O hc;have H1:=O h1;have HB:=O (show (mI w p).heap[w.heap.size]?=some (.cells #[.pointer (some ⟨p,0,none⟩)] 307 (0,0)) from heap_alloc_new _ _);have HKB:=O (nT w p);have hmf:∀(fn:Fn) (first cap:Array Value) (w:World),(Instr.makeFunc fn first cap).run Tryz.prog w=.ok (.func fn first cap) w:=fun _ _ _ _=>rfl
 clear hc h h1;unfold mI at *
 go_enter_defers Tryz.func249,Tryz.ntmps249
 go_wp2_with fail;refine C.out.mono ?_;rintro e w1 ⟨rfl,rfl⟩;go_wp2_with fail;refine HC.out.mono ?_;rintro e w1 ⟨rfl,hk⟩;have HK:=O hk;clear hk;go_wp2_with fail;refine leaves_cons (f:=267) (args:=#[.pointer (some ⟨w.heap.size,0,none⟩)]) (by simp) (by simp[go_sem]) ?_;have h2:=H1.out.keep HK.out id (fun _ _=>id);refine(FQ _ p er ea w1 (aC (HK.out.blk HB.out id) rfl) _ rfl h2.blk).mono ?_;rintro e u' w'' ⟨rfl,rfl,hb,hk⟩;have K:aA (fun k=>k=p) w w'':=((HKB.out.trans HK.out).any).trans hk
 have hfin:CJ w p base v l at_ er ea (.returned (.tuple #[])) w'':=
  ⟨rfl,⟨by rw[hb];rfl,hk.owns h2.own (fun k hk e=>h2.ne (by rw[hk,e])),h2.ne,h2.le,h2.fit,h2.max⟩,K⟩
 exact⟨_,results_none rfl _ _ _,hfin⟩
open Go.RowKit
set_option maxRecDepth 100000
def NW(w:World)(Ao base p:Nat)(v:Value)(l bs:List UInt8)(at_ n:Nat)(fa:Int)(w':World):Prop:=
 ∃v',w'.heap[Ao]?=some (.cells #[v'] 109 (0,0))/\w'.ownsRow w.heap.size 5 1 v' n (bs.map vb)/\Rdr w' base p v l (at_+n) 0 fa/\aA (fun k=>k=p\/k=Ao) w w'
theorem Ma(w:World)(base p:Nat)(v:Value)(l:List UInt8)(at_:Nat)(fa:Int)(h:Rdr w base p v l at_ 0 fa)(An Ar Ao:Nat)(n:Nat)(h1:1≤n)(hn:at_+n≤l.length)
 (hAn:w.heap[An]?=some (.cells #[.int .i64 n] 3 (0,0))) (hAr:w.heap[Ar]?=some (.cells #[.pointer (some ⟨p,0,none⟩)] 307 (0,0))) (hAo:w.heap[Ao]?=some (.cells #[.slice none 0 0] 109 (0,0))) :
 Calls Tryz.prog 250 #[.pointer (some ⟨An,0,none⟩),.pointer (some ⟨Ar,0,none⟩),.pointer (some ⟨Ao,0,none⟩)] w (CH (NW w Ao base p v l ((l.drop at_).take n) at_ n fa)):=by
 obtain⟨c0,c1,c2,c3,c4,cf⟩:=h.cells;have cn:w.cell? ⟨An,0,none⟩=some (.int .i64 n):=aC hAn rfl;have cr:w.cell? ⟨Ar,0,none⟩=some (.pointer (some ⟨p,0,none⟩)):=aC hAr rfl;have C:=O (EL w base p v l at_ 0 fa h n h1 hn);have hm:=h.max;have HH:=O h;have HAn:=O hAn;have HAr:=O hAr;have HAo:=O hAo;have hnp:Ao≠p:=by intro e;subst e;rw[h.blk] at hAo;cases hAo
 clear h hAn hAr hAo;have hn0:decide ((n:Int)<0)=false:=by simp
 go_in;go_wp2_with fail;refine C.out.mono ?_;rintro e w1 ⟨bv,rfl,hrd,hk1⟩;have hlen:((l.drop at_).take n).length=n:=by simp;omega
 obtain⟨bs,hbs⟩:∃bs,(l.drop at_).take n=bs:=⟨_,rfl⟩
 rw[hbs] at hrd hlen ⊢;have HBS:=O hbs;clear hbs;obtain⟨a1,cp1,rfl,-,-⟩:=hrd.form;have hrd':Rd w1 1 (.slice a1 n cp1) bs.length (bs.map vb):=by rw[hlen];exact hrd
 have C2:=O (AS (.slice a1 n cp1) bs w1 hrd' (by omega));have HK1:=O hk1;clear hrd hrd' hk1 c0 c1 c2 c3 c4 cf cn cr;go_wp2_with fail;refine C2.out.mono ?_;rintro e w2 ⟨v2,rfl,hown2,hk2⟩;rw[hlen] at hown2;have HL:=O hlen;clear hlen;obtain⟨a2,cp2,rfl,-,-⟩:=(Rd.of_owns hown2).form;have K2:=HK1.out.trans hk2;have hAo2:=K2.blk HAo.out id;have co2:w2.cell? ⟨Ao,0,none⟩=some (.slice none 0 0):=aC hAo2 rfl;have fo2:=cV hAo2 0;have h3:=HH.out.keep K2 id (fun _ _=>id);obtain⟨w3,hw3⟩:∃w3,w2.setCell ⟨Ao,0,none⟩ (.slice a2 n cp2)=w3:=⟨_,rfl⟩
 have hno:∀g,(Value.slice a2 n cp2).ownBlock=some g->g≠Ao:=by
  intro g hg e;subst e;have:=aS hown2 hg;have:=lt_of_block (HK1.out.blk HAo.out id);omega
 have K3:aA (fun k=>k=Ao) w2 w3:=by rw[←hw3];exact(aA.refl (fun k=>k=Ao) w2).setCell (fun _=>rfl) _
 have hvo:∀g,v.ownBlock=some g->¬g=Ao:=by
  intro g hg e;subst e;obtain⟨cur,hc⟩:=aL HH.out.own hg;rw[HAo.out] at hc;cases hc
 have h4:=h3.keep K3 (by omega) hvo;have hAo3:w3.heap[Ao]?=some (.cells #[.slice a2 n cp2] 109 (0,0)):=by rw[←hw3,dO hAo2];rfl
 have hown3:=K3.owns hown2 (fun k hk=>hno k hk);have cn:w3.cell? ⟨An,0,none⟩=some (.int .i64 n):=K3.cell (K2.cell (aC HAn.out rfl) id) (by intro e;subst e;have:=HAn.out;rw[HAo.out] at this;cases this);have cr:w3.cell? ⟨Ar,0,none⟩=some (.pointer (some ⟨p,0,none⟩)):=K3.cell (K2.cell (aC HAr.out rfl) id) (by intro e;subst e;have:=HAr.out;rw[HAo.out] at this;cases this);obtain⟨c0,c1,c2,c3,c4,cf⟩:=h4.cells;have hle:=HK1.out.size;have H4:=O h4;have HO3:=O hown3;have HAo3:=O hAo3;have HK:=O (show aA (fun k=>k=p\/k=Ao) w w3 from(K2.any).trans (K3.mono fun _ _ h=>.inr h));clear hown2 hk2 K2 hAo2 h3 K3 h4 hown3 hAo3 hno hvo;go_wp2_with fail;clear hw3 co2 fo2;have e1:IntKind.i64.wrap ((at_:Int)+(n:Int))=(at_:Int)+(n:Int):=by rw[IntWalk.i64_in _ (by omega)]
 go_still_tail 8,(by kernel_rfl)
 clear e1;go_wp2_with fail
 go_end0
 have KP:aA (fun k=>k=p) w3 ((w3.setCell ⟨p,2,none⟩ (.int .i64 ((at_+n:Nat):Int))).drew):=((aA.refl (fun k=>k=p) w3).setCell (fun _=>rfl) _).drew;refine⟨rfl,_,KP.blk HAo3.out (by omega),?_,((H4.out.setAt (at_+n) hn).keep (aA.refl aB _).drew id (fun _ _=>id)),HK.out.trans (KP.mono fun _ _ h=>.inl h)⟩;rw[HBS.out];refine aV (KP.owns HO3.out fun k hk e=>?_) hle;have:=aS HO3.out hk;have:=lt_of_block HH.out.blk;omega
theorem Ib(w:World)(x y:Obj):((w.alloc x).alloc y).heap[w.heap.size]?=some x/\((w.alloc x).alloc y).heap[w.heap.size+1]?=some y:=by
 refine⟨?_,?_⟩
 ·rw[heap_alloc_old _ _ (by simp)];exact heap_alloc_new _ _
 ·have:=heap_alloc_new (w.alloc x) y
  rwa [World.size_alloc] at this
theorem Ic(w:World)(x y z:Obj):(((w.alloc x).alloc y).alloc z).heap[w.heap.size]?=some x/\(((w.alloc x).alloc y).alloc z).heap[w.heap.size+1]?=some y/\(((w.alloc x).alloc y).alloc z).heap[w.heap.size+2]?=some z:=by
 obtain⟨h1,h2⟩:=Ib w x y;refine⟨?_,?_,?_⟩
 ·rw[heap_alloc_old _ _ (lt_of_block h1)];exact h1
 ·rw[heap_alloc_old _ _ (lt_of_block h2)];exact h2
 ·have:=heap_alloc_new ((w.alloc x).alloc y) z
  rwa [World.size_alloc,World.size_alloc] at this
def Mb(w:World)(base p:Nat)(v:Value)(l:List UInt8)(at_ n:Nat)(fa:Int)(e:Ending)(w':World):Prop:=
 ∃v',e=.returned v'/\w'.ownsRow w.heap.size 5 1 v' n (((l.drop at_).take n).map vb)/\Rdr w' base p v l (at_+n) 0 fa/\aA (fun k=>k=p) w w'
theorem EM(w:World)(base p:Nat)(v:Value)(l:List UInt8)(at_:Nat)(fa:Int)(h:Rdr w base p v l at_ 0 fa)(n:Nat)(h1:1≤n)(hn:at_+n≤l.length) :
 Calls Tryz.prog 225 #[.pointer (some ⟨p,0,none⟩),.int .i64 n] w (Mb w base p v l at_ n fa):=by
 have hmf:∀(fn:Fn) (first cap:Array Value) (w:World),(Instr.makeFunc fn first cap).run Tryz.prog w=.ok (.func fn first cap) w:=fun _ _ _ _=>rfl
 obtain⟨W1,hW1⟩:∃W1,((w.alloc (.cells #[.pointer (some ⟨p,0,none⟩)] 307)).alloc (.cells #[.int .i64 n] 3)).alloc (.cells #[.slice none 0 0] 109)=W1:=⟨_,rfl⟩
 have K1:aA aB w W1:=by rw[←hW1];exact(((aA.refl _ _).alloc _).alloc _).alloc _
 have hs1:w.heap.size+3=W1.heap.size:=by rw[←hW1];simp
 obtain⟨b0,b1,b2⟩:=Ic w (.cells #[.pointer (some ⟨p,0,none⟩)] 307) (.cells #[.int .i64 n] 3) (.cells #[.slice none 0 0] 109);rw[hW1] at b0 b1 b2;have hK:=nT W1 p;have hR:=(h.keep K1 id (fun _ _=>id))
 have c1:=Ma (mI W1 p) base p v l at_ fa (hR.keep hK id (fun _ _=>id)) (w.heap.size+1) w.heap.size (w.heap.size+2) n h1 hn (hK.blk b1 id) (hK.blk b0 id) (hK.blk b2 id);have C:=O (CI W1 base p v l at_ fa hR 250 #[.pointer (some ⟨w.heap.size+1,0,none⟩),.pointer (some ⟨w.heap.size,0,none⟩),.pointer (some ⟨w.heap.size+2,0,none⟩)] (fun _=>rfl) _ c1);have hplt:=lt_of_block h.blk;have cb0:W1.cell? ⟨w.heap.size,0,none⟩=some (.pointer (some ⟨p,0,none⟩)):=aC b0 rfl;have HK:=O (K1.trans hK);have HH:=O h;have HS:=O hs1;clear h K1 b0 b1 b2 hR c1 hK hs1;go_in;go_wp2_with fail;refine C.out.mono ?_;rintro e w2 ⟨rfl,v',hb,hown,hrd,hk⟩;clear hW1 C;have co:=aC (i:=0) (v:=v') hb rfl;obtain⟨a2,cp2,rfl,-,-⟩:=(Rd.of_owns hown).form;have HO:=O hown;have HR:=O hrd;have HK2:=O hk;clear hb hown hrd hk;go_wp2;go_ret;refine⟨_,rfl,aV HO.out HK.out.size,HR.out,HK.out.trans' HK2.out (fun _ _ h=>h.elim) (fun i hi e=>?_)⟩;rcases e with e|e
 ·exact e
 ·omega
open Go.RowKit
set_option maxRecDepth 100000
def beN(l:List UInt8):Nat:=l.foldl (fun a c=>a*256+c.toNat) 0
theorem sI(l:List UInt8)(c:UInt8):beN (l++[c])=beN l*256+c.toNat:=by simp[beN]
theorem EN:∀(l:List UInt8) (a:Nat),l.foldl (fun a c=>a*256+c.toNat) a<(a+1)*256 ^ l.length
 | [],a=>by simp
 | c::l,a=>by
   rw[List.foldl_cons,List.length_cons];have h1:=EN l (a*256+c.toNat);have h2:=c.toNat_lt;have h3:(a*256+c.toNat+1)*256 ^ l.length≤(a+1)*256*256 ^ l.length:=Nat.mul_le_mul_right _ (by omega);rw[Nat.pow_succ,Nat.mul_comm (256 ^ l.length),←Nat.mul_assoc];omega
theorem CK(l:List UInt8):beN l<256 ^ l.length:=by simpa [beN] using EN l 0
theorem EO(x c:Nat)(hx:x<281474976710656)(hc:c<256):bits .or .i64 ((x:Int)*256) (c:Int)=((x*256+c:Nat):Int):=by
 rw[show ((x:Int)*256)=((x*256:Nat):Int) by simp]
 have h1:x*256 ||| c=x*256+c:=by
  have:=Nat.shiftLeft_add_eq_or_of_lt (i:=8) (b:=c) (by omega) x;rw[Nat.shiftLeft_eq] at this;exact this.symm
 show IntKind.i64.wrap ((BitVec.ofInt 64 ((x*256:Nat):Int) ||| BitVec.ofInt 64 (c:Int)).toNat:Int)=_;rw[BitVec.toNat_or,show (BitVec.ofInt 64 ((x*256:Nat):Int)).toNat=x*256 by simp;omega,show (BitVec.ofInt 64 (c:Int)).toNat=c by simp;omega,h1];rw[IntWalk.i64_in _ (by omega)]
theorem CL(l:List UInt8)(h:l.length≤6):beN l<281474976710656:=by
 have h1:=CK l;have h2:256 ^ l.length≤256 ^ 6:=Nat.pow_le_pow_right (by omega) h;have h3:(256:Nat) ^ 6=281474976710656:=by decide
 omega
structure uD(w:World)(p An Ar Al Ah Ao:Nat)(size low high:Int):Prop where
 n:w.heap[An]?=some (.cells #[.int .i64 size] 3 (0,0))
 r:w.heap[Ar]?=some (.cells #[.pointer (some ⟨p,0,none⟩)] 307 (0,0))
 l:w.heap[Al]?=some (.cells #[.int .i64 low] 3 (0,0))
 h:w.heap[Ah]?=some (.cells #[.int .i64 high] 3 (0,0))
 o:w.heap[Ao]?=some (.cells #[.int .i64 0] 3 (0,0))
 ne:Ao≠p/\Ao≠An/\Ao≠Ar/\Ao≠Al/\Ao≠Ah
theorem uD.keep{w w':World}{p An Ar Al Ah Ao:Nat}{size low high:Int}(b:uD w p An Ar Al Ah Ao size low high)(k:aA aB w w'):uD w' p An Ar Al Ah Ao size low high:=
 ⟨k.blk b.n id,k.blk b.r id,k.blk b.l id,k.blk b.h id,k.blk b.o id,b.ne⟩
theorem uD.cells{w:World}{p An Ar Al Ah Ao:Nat}{size low high:Int}(b:uD w p An Ar Al Ah Ao size low high) :
 w.cell? ⟨An,0,none⟩=some (.int .i64 size)/\w.cell? ⟨Ar,0,none⟩=some (.pointer (some ⟨p,0,none⟩))/\w.cell? ⟨Al,0,none⟩=some (.int .i64 low)/\w.cell? ⟨Ah,0,none⟩=some (.int .i64 high) /\
 w.cell? ⟨Ao,0,none⟩=some (.int .i64 0)/\w.frozen? ⟨Ao,0,none⟩=false:=
 ⟨aC b.n rfl,aC b.r rfl,aC b.l rfl,aC b.h rfl,aC b.o rfl,cV b.o 0⟩
def FS(w:World)(Ao base p:Nat)(v:Value)(l:List UInt8)(x:Int)(at_:Nat)(fa:Int)(w':World):Prop:=
 w'.heap[Ao]?=some (.cells #[.int .i64 x] 3 (0,0))/\Rdr w' base p v l at_ 0 fa/\aA (fun k=>k=p\/k=Ao) w w'
theorem J8{w w1:World}{base p:Nat}{v:Value}{l:List UInt8}{at_:Nat}{fa:Int}{An Ar Al Ah Ao:Nat}{size low high:Int}(hk:aA aB w w1)(h:Rdr w1 base p v l at_ 0 fa)(hb:uD w1 p An Ar Al Ah Ao size low high)
 (x:Int) (k:Nat) (hn:at_+k≤l.length):FS w Ao base p v l x (at_+k) fa ((w1.setCell ⟨Ao,0,none⟩ (.int .i64 x)).setCell ⟨p,2,none⟩ (.int .i64 ((at_:Int)+(k:Int)))).drew:=by
 have K1:aA (fun i=>i=Ao) w1 (w1.setCell ⟨Ao,0,none⟩ (.int .i64 x)):=(aA.refl (fun i=>i=Ao) w1).setCell (fun _=>rfl) _
 have h1:=h.keep K1 (by have:=hb.ne.1;omega) (fun g hg e=>by
  subst e;obtain⟨cur,hc⟩:=aL h.own hg;rw[hb.o] at hc;cases hc)
 have b1:(w1.setCell ⟨Ao,0,none⟩ (.int .i64 x)).heap[Ao]?=some (.cells #[.int .i64 x] 3 (0,0)):=by rw[dO hb.o];rfl
 have h2:=h1.setAt (at_+k) hn;rw[show (((at_+k:Nat)):Int)=(at_:Int)+(k:Int) by simp] at h2;have K2:aA (fun i=>i=p) (w1.setCell ⟨Ao,0,none⟩ (.int .i64 x)) ((w1.setCell ⟨Ao,0,none⟩ (.int .i64 x)).setCell ⟨p,2,none⟩ (.int .i64 ((at_:Int)+(k:Int)))).drew:=((aA.refl (fun i=>i=p) _).setCell (fun _=>rfl) _).drew;exact⟨K2.blk b1 hb.ne.1,h2.keep (aA.refl aB _).drew id (fun _ _=>id),((hk.any).trans' K1 (fun _ _ h=>h) (fun _ _ e=>.inr e)).trans' K2 (fun _ _ h=>h) (fun _ _ e=>.inl e)⟩
def vI(w:World)(Ao base p:Nat)(v:Value)(l:List UInt8)(x low high:Int)(at_ n:Nat)(fa:Int)(e:Ending)(w':World):Prop:=
 if low≤x/\x≤high then CH (FS w Ao base p v l x (at_+n) fa) e w' else FR 5 at_ (aA aB w) e w'
theorem J9(w:World)(base p:Nat)(v:Value)(l:List UInt8)(at_:Nat)(fa:Int)(h:Rdr w base p v l at_ 0 fa)(An Ar Al Ah Ao:Nat)(n:Nat)(low high:Int)(h1:1≤n)(h7:n≤6)(hn:at_+n≤l.length)
 (hb:uD w p An Ar Al Ah Ao n low high) (x:Nat) (hx:beN ((l.drop at_).take n)=x) :
 Calls Tryz.prog 252 #[.pointer (some ⟨An,0,none⟩),.pointer (some ⟨Ar,0,none⟩),.pointer (some ⟨Al,0,none⟩),.pointer (some ⟨Ah,0,none⟩),.pointer (some ⟨Ao,0,none⟩)] w
  (vI w Ao base p v l x low high at_ n fa):=by
 obtain⟨cn,cr,cl,ch,co,cfo⟩:=hb.cells;have C:=O (EL w base p v l at_ 0 fa h n h1 hn);have hm:=h.max;have HH:=O h;have HB:=O hb;have HX:=O hx;clear h hb hx;have hn0:decide ((n:Int)<1)=false:=by simp;omega
 have hn1:decide ((7:Int)<n)=false:=by simp;omega
 go_in;go_wp2_with fail;refine C.out.mono ?_;rintro e w1 ⟨bv,rfl,hrd,hk1⟩;have hlen:((l.drop at_).take n).length=n:=by simp;omega
 obtain⟨bs,hbs⟩:∃bs,(l.drop at_).take n=bs:=⟨_,rfl⟩
 rw[hbs] at hrd hlen;have HX2:=O (show beN bs=x by rw[←hbs];exact HX.out);have HBS:=O hbs;clear hbs
 obtain⟨g,o,cp,hcp,rfl,hcells⟩:∃g o cp,n≤cp/\bv=.slice (some ⟨g,o,none⟩) n cp/\∀k,(hk:k<bs.length)->w1.cell? ⟨g,o+k,none⟩=some (.int .u8 (bs[k].toNat:Int)):=by
  obtain⟨h0,a,cap,rfl,h2,h3,h4,h5⟩:=hrd;obtain⟨g,o,rfl,hc⟩:=h5 (by simp[hlen];omega);exact⟨g,o,cap,h2,rfl,fun k hk=>hc k _ (by simp[hk,vb])⟩
 have HC:=O hcells;have HL:=O hlen;have HB1:=O (HB.out.keep hk1);have HH1:=O (HH.out.keep hk1 id (fun _ _=>id));have HK1:=O hk1;clear hrd hcells hlen hk1 cn cr cl ch co cfo;go_wp2_with fail
 go_loop [5,24] (fun x i=>∃k:Nat,k≤n/\i=.int .i64 k/\x=.int .i64 (beN (bs.take k):Int)) (fun _ i=>n-(intOf i).toNat)
 case atStart=>exact⟨0,by omega,rfl,rfl⟩
 case round =>
  obtain⟨k,hk,rfl,rfl⟩:=hrel
  by_cases hkn:k<n
  ·have hkl:k<bs.length:=by rw[HL.out];exact hkn
   have c0:=HC.out k hkl;have hx:=CL (bs.take k) (by simp;omega);have hs:=sI (bs.take k) bs[k];have hc8:=bs[k].toNat_lt;rw[←List.take_succ_eq_append_getElem hkl] at hs;obtain⟨c,hc⟩:∃c,bs[k].toNat=c:=⟨_,rfl⟩
   rw[hc] at c0 hs hc8;obtain⟨y,hX⟩:∃y,beN (bs.take k)=y:=⟨_,rfl⟩
   rw[hX] at hs hx ⊢;have HS:=O hs;clear hs hX hc;have hk0:(0:Int)≤(k:Int):=by omega
   have hk1:(k:Int)<(n:Int):=by omega
   have hor:=EO y c hx hc8;go_wp2
   go_round
   case rel=>exact⟨k+1,by omega,by go_num,by rw[HS.out];simp⟩
   case measure=>simp[intOf];omega
  ·obtain rfl:k=n:=by omega
   have hx:=CL bs (by rw[HL.out];exact h7);rw[List.take_of_length_le (by rw[HL.out];exact Nat.le_refl _)];rw[HX2.out] at hx ⊢;obtain⟨cn,cr,cl,ch,co,cfo⟩:=HB1.out.cells;obtain⟨c0,c1,c2,c3,c4,cf⟩:=HH1.out.cells;have e1:IntKind.i64.wrap ((at_:Int)+(k:Int))=(at_:Int)+(k:Int):=by rw[IntWalk.i64_in _ (by omega)]
   by_cases hl:low≤x
   ·have hl1:decide ((x:Int)<low)=false:=by simpa using hl
    by_cases hh:x≤high
    ·have hh1:decide (high<(x:Int))=false:=by simpa using hh
     have HQ:=O (J8 HK1.out HH1.out HB1.out x k hn);go_wp2_with fail
     go_region
     all_goals go_wp2_with fail
     all_goals
      go_end0
      unfold vI;rw[if_pos ⟨hl,hh⟩];exact⟨rfl,HQ.out⟩
    ·have hh1:decide (high<(x:Int))=true:=by simpa using hh
     go_wp2_with fail;refine⟨rfl,?_⟩;unfold vI;rw[if_neg (by omega)];exact⟨rfl,HK1.out⟩
   ·have hl1:decide ((x:Int)<low)=true:=by simpa using hl
    go_wp2_with fail;refine⟨rfl,?_⟩;unfold vI;rw[if_neg (by omega)];exact⟨rfl,HK1.out⟩
theorem Ni(w:World)(x y z u v:Obj):(((((w.alloc x).alloc y).alloc z).alloc u).alloc v).heap[w.heap.size]?=some x/\(((((w.alloc x).alloc y).alloc z).alloc u).alloc v).heap[w.heap.size+1]?=some y /\
 (((((w.alloc x).alloc y).alloc z).alloc u).alloc v).heap[w.heap.size+2]?=some z/\(((((w.alloc x).alloc y).alloc z).alloc u).alloc v).heap[w.heap.size+3]?=some u/\(((((w.alloc x).alloc y).alloc z).alloc u).alloc v).heap[w.heap.size+4]?=some v:=by
 obtain⟨h1,h2,h3⟩:=Ic w x y z;obtain⟨h4,h5⟩:=Ib (((w.alloc x).alloc y).alloc z) u v;have e:(((w.alloc x).alloc y).alloc z).heap.size=w.heap.size+3:=by simp
 have old:∀{k:Nat}{o:Obj},(((w.alloc x).alloc y).alloc z).heap[k]?=some o->(((((w.alloc x).alloc y).alloc z).alloc u).alloc v).heap[k]?=some o:=by
  intro k o h;have hl:=lt_of_block h;rw[heap_alloc_old _ _ (by simp at hl ⊢;omega),heap_alloc_old _ _ hl];exact h
 rw[e] at h4 h5;exact⟨old h1,old h2,old h3,h4,h5⟩
def Ka(w:World)(base p:Nat)(v:Value)(l:List UInt8)(x low high:Int)(at_ n:Nat)(fa:Int)(e:Ending)(w':World):Prop:=
 aA (fun k=>k=p) w w'/\if low≤x/\x≤high then e=.returned (.int .i64 x)/\Rdr w' base p v l (at_+n) 0 fa else e=.returned (.int .i64 0)/\Rdr w' base p v l at_ 5 at_
def qU(w:World)(p:Nat)(n low high:Int):World:=
 ((((w.alloc (.cells #[.pointer (some ⟨p,0,none⟩)] 307)).alloc (.cells #[.int .i64 n] 3)).alloc (.cells #[.int .i64 low] 3)).alloc (.cells #[.int .i64 high] 3)).alloc (.cells #[.int .i64 0] 3)
theorem Id(w:World)(p:Nat)(n low high:Int):aA aB w (qU w p n low high):=(((((aA.refl _ _).alloc _).alloc _).alloc _).alloc _).alloc _
theorem Nj(w:World)(p:Nat)(n low high:Int)(hp:p<w.heap.size):uD (qU w p n low high) p (w.heap.size+1) w.heap.size (w.heap.size+2) (w.heap.size+3) (w.heap.size+4) n low high:=by
 obtain⟨b0,b1,b2,b3,b4⟩:=Ni w (.cells #[.pointer (some ⟨p,0,none⟩)] 307) (.cells #[.int .i64 n] 3) (.cells #[.int .i64 low] 3) (.cells #[.int .i64 high] 3) (.cells #[.int .i64 0] 3);exact⟨b1,b0,b2,b3,b4,by omega,by omega,by omega,by omega,by omega⟩
theorem nU(w:World)(base p:Nat)(v:Value)(l:List UInt8)(at_:Nat)(fa:Int)(h:Rdr w base p v l at_ 0 fa)(n:Nat)(low high:Int)(h1:1≤n)(h6:n≤6)(hn:at_+n≤l.length)(x:Nat)(hx:beN ((l.drop at_).take n)=x) :
 Calls Tryz.prog 226 #[.pointer (some ⟨p,0,none⟩),.int .i64 n,.int .i64 low,.int .i64 high] w (Ka w base p v l x low high at_ n fa):=by
 have hmf:∀(fn:Fn) (first cap:Array Value) (w:World),(Instr.makeFunc fn first cap).run Tryz.prog w=.ok (.func fn first cap) w:=fun _ _ _ _=>rfl
 have hplt:=lt_of_block h.blk;have hb:=Nj w p n low high hplt;have K1:=Id w p n low high;have hR:=(h.keep K1 id (fun _ _=>id))
 have hK:=nT (qU w p n low high) p;have c1:=J9 (mI (qU w p n low high) p) base p v l at_ fa (hR.keep hK id (fun _ _=>id)) _ _ _ _ _ n low high h1 h6 hn (hb.keep hK) x hx;have HH:=O h;have HX:=O hx
 by_cases hin:low≤(x:Int)/\(x:Int)≤high
 ·have c2:Calls Tryz.prog 252 #[.pointer (some ⟨w.heap.size+1,0,none⟩),.pointer (some ⟨w.heap.size,0,none⟩),.pointer (some ⟨w.heap.size+2,0,none⟩),.pointer (some ⟨w.heap.size+3,0,none⟩),.pointer (some ⟨w.heap.size+4,0,none⟩)]
   (mI (qU w p n low high) p) (CH (FS (mI (qU w p n low high) p) (w.heap.size+4) base p v l x (at_+n) fa)):=c1.mono fun e w' hq=>by unfold vI at hq;rwa [if_pos hin] at hq
  have C:=O (CI (qU w p n low high) base p v l at_ fa hR 252 _ (fun _=>rfl) _ c2);have HK:=O (K1.trans hK);clear h hx hb K1 hR hK c1 c2;go_in;go_wp2_with fail;refine C.out.mono ?_;rintro e w2 ⟨rfl,hb,hrd,hk⟩;clear C;have co:=aC (i:=0) (v:=.int .i64 x) hb rfl;have HR:=O hrd;have HK2:=O hk;clear hb hrd hk;go_wp2;go_ret;refine⟨HK.out.trans' HK2.out (fun _ _ h=>h.elim) (fun i hi e=>?_),?_⟩
  ·rcases e with e|e
   ·exact e
   ·omega
  ·rw[if_pos hin];exact⟨rfl,HR.out⟩
 ·have c2:Calls Tryz.prog 252 #[.pointer (some ⟨w.heap.size+1,0,none⟩),.pointer (some ⟨w.heap.size,0,none⟩),.pointer (some ⟨w.heap.size+2,0,none⟩),.pointer (some ⟨w.heap.size+3,0,none⟩),.pointer (some ⟨w.heap.size+4,0,none⟩)]
   (mI (qU w p n low high) p) (FR 5 at_ (aA aB (mI (qU w p n low high) p))):=c1.mono fun e w' hq=>by unfold vI at hq;rwa [if_neg hin] at hq
  have C:=O (Ia (qU w p n low high) base p v l at_ fa hR 252 _ (fun _=>rfl) _ _ c2);have HB:=O hb;have HK:=O K1;clear h hx hb K1 hR hK c1 c2;go_in;go_wp2_with fail;refine C.out.mono ?_;rintro e w2 ⟨rfl,hrd,hk⟩;clear C;have co:=aC (i:=0) (v:=.int .i64 0) (hk.blk HB.out.o (by omega)) rfl;have HR:=O hrd;have HK2:=O hk;clear hrd hk;go_wp2;go_ret;refine⟨HK.out.trans' HK2.out (fun _ _ h=>h.elim) (fun i hi e=>e),?_⟩;rw[if_neg hin];exact⟨rfl,HR.out⟩
theorem Ie(w:World):(zeroValue 182).run Tryz.prog w=.ok (.agg #[.int .i64 0,.int .i64 0]) w:=by kernel_rfl
theorem If(w:World)(base p:Nat)(v:Value)(l:List UInt8)(at_:Nat)(fe fa:Int)(h:Rdr w base p v l at_ fe fa) :
 Calls Tryz.prog 227 #[.pointer (some ⟨p,0,none⟩)] w (fun e w'=>e=.returned (.agg #[.int .i64 fe,.int .i64 fa])/\aA aB w w'):=by
 have K:aA aB w (w.alloc (.cells #[.int .i64 0,.int .i64 0] 182)):=(aA.refl _ _).alloc _;have h2:=h.keep K id (fun _ _=>id);have C:=O (uC _ base p v l at_ fe fa h2);have HH:=O h2;have HK:=O K;have hblk:=lt_of_block h.blk;clear h h2 K;obtain⟨vs,hvs⟩:∃vs:List Value,vs=[.int .i64 fe,.int .i64 fa]:=⟨_,rfl⟩
 have hvl:vs.length=2:=by rw[hvs];rfl
 have hvo:∀u∈vs,u.oneCell'=true:=by rw[hvs];simp[Value.oneCell']
 have hra:(w.alloc (.cells #[.int .i64 0,.int .i64 0] 182)).rangeAt p 3 vs:=by
  obtain⟨-,-,-,c3,c4,-⟩:=HH.out.cells;intro j u hj;rw[hvs] at hj
  match j,hj with
  | 0,hj=>cases hj;exact c3
  | 1,hj=>cases hj;exact c4
 have HVS:=O hvs;have HRA:=O hra;clear hvs hra;go_in
 go_wp2_with (first
  | (refine aR rfl 182 rfl _ Ie #[.int .i64 0,.int .i64 0] rfl ?_))
 refine C.out.mono ?_;rintro e w1 ⟨rfl,rfl⟩
 go_wp2_with (first
  | ((with_reducible show WL (some 9) (.load 182 (.tmp 8)));refine wpList_load_mid rfl 182 (.tmp 8) rfl p 3 rfl vs _ HRA.out Tryz.underlying182 rfl (by rw[hvl];exact lD) ?_)
  | ((with_reducible show WL none (.store 182 (.tmp 2) (.tmp 9)));refine aP rfl 182 (.tmp 2) (.tmp 9) rfl w.heap.size 0 vs rfl rfl _ _ (heap_alloc_new _ _) (by rw[hvl];decide) (by rw[hvl];exact lD) hvo ?_;intro w2 hb2 hk2;have HB2:=O hb2;have HK2:=O hk2;clear hb2 hk2))
 refine bodyPost_ret (results_cell_row rfl _ _ w.heap.size _ _ _ _ rfl HB2.out Tryz.underlying182 rfl (by rw[fJ];exact lD)) rfl ⟨?_,?_⟩
 ·rw[aI _ _ (by rw[hvl];rfl),HVS.out]
 ·exact HK.out.trans' HK2.out (fun _ _ h=>h) (fun i hi e=>by omega)
end
end Go.Proofs.YtiinnfhjpaeffaaGreat
