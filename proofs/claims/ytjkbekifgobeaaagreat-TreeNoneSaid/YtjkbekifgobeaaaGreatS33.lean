/- A part of the proof. Conditions: those told. -/
import Derived.Test.YtjkbekifgobeaaaGreatS1
import Derived.Test.YtjkbekifgobeaaaGreatS32
namespace Go.Proofs.YtjkbekifgobeaaaGreat
set_option maxHeartbeats 64000000
set_option maxRecDepth 100000
set_option linter.unusedVariables false
section
open Go.RowKit Go.Maps Go.ChangeMaps
structure lU(w W0:World)(B:Nat->Prop)(c b4 b5 b6 b10 b12 l:Nat)(S:Kor)(t:Tr)(f g:Int)(pv:Value)(vs:Nat->Value)(k:Nat)(ch:Bool)(wr:World)(K:Nat->Tr)(T:Kor)(B':Nat->Prop)(vs':Nat->Value):Prop where
 eq:iL (cS l) (4 ^ l) S t f g k=(some (K,ch),T)
 ki:KI wr c T B'
 new:bR wr B' vs' (fun i=>(K i).ptr)
 old:bR wr B' vs (fun i=>(t.kid i).ptr)
 pt:aH wr B' pv t.ptr
 cl:cJ wr B' b4 b5 c
 h12:wr.heap[b12]?=some (.cells (cH ((l+1:Nat):Int) vs' (fun i=>(K i).ptr)).toArray 123 (0,0))
 h6:wr.heap[b6]?=some (.cells (aK pv t.ptr).toArray 26 (0,0))
 h10:wr.heap[b10]?=some (.cells aI.toArray 26 (0,0))
 sub:∀i,B' i->B i\/W0.heap.size≤i
 clo:Cl w wr B B'
 off:∀q,q<4->∀i,(vs' q).ownBlock=some i->i≠b6/\i≠b10/\i≠b12
 keep:aA (fun i=>B i\/i=b12) W0 wr
theorem lU.loc{w W0:World}{B:Nat->Prop}{c b4 b5 b6 b10 b12 l:Nat}{S:Kor}{t:Tr}{f g:Int}{pv:Value}{vs:Nat->Value}{k:Nat}{ch:Bool}{wr:World}{K:Nat->Tr}{T:Kor}{B':Nat->Prop}{vs':Nat->Value}
 (h:lU w W0 B c b4 b5 b6 b10 b12 l S t f g pv vs k ch wr K T B' vs') (kw:aA aB w W0) (hB:∀i,B i->i<w.heap.size) (g6:w.heap.size≤b6/\b6<W0.heap.size) (g10:w.heap.size≤b10/\b10<W0.heap.size) (g12:w.heap.size≤b12/\b12<W0.heap.size) (n1:b12≠b10) (n2:b12≠b6) (n3:b10≠b6) :
 Loc B B' w wr [(b12,(cH ((l+1:Nat):Int) vs' (fun i=>(K i).ptr)).toArray,123),(b10,aI.toArray,26),(b6,(aK pv t.ptr).toArray,26)]:=by
 refine⟨kw.trans' h.keep (fun _ _ h=>h.elim) (fun i hi e=>e.elim id fun e=>by omega),fun x hx=>?_,?_,fun x hx=>?_,fun x hx hb=>?_⟩
 ·simp only[List.mem_cons,List.not_mem_nil,or_false] at hx
  rcases hx with rfl|rfl|rfl
  ·exact g12.1
  ·exact g10.1
  ·exact g6.1
 ·simp[n1,n2,n3]
 ·simp only[List.mem_cons,List.not_mem_nil,or_false] at hx
  rcases hx with rfl|rfl|rfl
  ·exact h.h12
  ·exact h.h10
  ·exact h.h6
 ·simp only[List.mem_cons,List.not_mem_nil,or_false] at hx
  have:=h.sub _ hb;rcases hx with rfl|rfl|rfl
  ·exact this.elim (fun e=>by have:=hB _ e;simp only at this;omega) (fun e=>by simp only at e;omega)
  ·exact this.elim (fun e=>by have:=hB _ e;simp only at this;omega) (fun e=>by simp only at e;omega)
  ·exact this.elim (fun e=>by have:=hB _ e;simp only at this;omega) (fun e=>by simp only at e;omega)
theorem lU.step{w W0:World}{B:Nat->Prop}{c b4 b5 b6 b10 b12 l:Nat}{S:Kor}{t:Tr}{f g:Int}{pv:Value}{vs:Nat->Value}{k:Nat}{ch:Bool}{wr:World}{K:Nat->Tr}{T:Kor}{B':Nat->Prop}{vs':Nat->Value}
 (h:lU w W0 B c b4 b5 b6 b10 b12 l S t f g pv vs k ch wr K T B' vs'){w8 w9:World}{u:Tr}{U:Kor}{B2:Nat->Prop}{v:Value}(e:cS l T (t.kid k) (f-k*4 ^ l) (g-k*4 ^ l)=(some u,U))
 (ki:KI w8 c U B2) (pt:aH w8 B2 v u.ptr) (sub:∀i,B2 i->B' i\/wr.heap.size≤i) (clo:Cl wr w8 B' B2) (kx:aA B' wr w8) (ks:aA (fun i=>i=b12) w8 w9)
 (h12:w9.heap[b12]?=some (.cells (cH ((l+1:Nat):Int) (fD vs' k v) (fD (fun i=>(K i).ptr) k u.ptr)).toArray 123 (0,0)))
 (hv:v=vs k\/gF wr v) (hvs:∀q,q<4->∀i,(vs q).ownBlock=some i->i≠b6/\i≠b10/\i≠b12) (hk:k<4) (hpv:∀i,pv.ownBlock=some i->i≠b12) (h4:b4≠b12/\b5≠b12) (hB:∀i,B i->i<w.heap.size)
 (g6:w.heap.size≤b6/\b6<W0.heap.size) (g10:w.heap.size≤b10/\b10<W0.heap.size) (g12:w.heap.size≤b12/\b12<W0.heap.size) (n1:b12≠b10) (n2:b12≠b6) :
 lU w W0 B c b4 b5 b6 b10 b12 l S t f g pv vs (k+1) (ch || !(t.kid k).ptr.eqB u.ptr) w9 (eK K k u) U B2 (fD vs' k v):=by
 have hsz:=h.keep.size;have hno:∀i,B' i->i≠b6/\i≠b10/\i≠b12:=fun i hi=>(h.sub i hi).elim (fun e=>by have:=hB i e;omega) fun e=>by omega
 have hno2:∀i,B2 i->i≠b6/\i≠b10/\i≠b12:=fun i hi=>(sub i hi).elim (hno i) fun e=>by omega
 have hvn:∀i,v.ownBlock=some i->i≠b6/\i≠b10/\i≠b12:=fun i hi=>by
  rcases hv with rfl|hv
  ·exact hvs k hk i hi
  ·have:=hv i hi;omega
 have k9:aA (fun i=>B' i\/i=b12) wr w9:=kx.trans' ks (fun _ _ h=>.inl h) (fun i _ e=>.inr e)
 refine⟨?_,ki.keepT ks fun i e hb=>(hno2 i hb).2.2 e,fun q hq=>?_,fun q hq=>(h.old q hq).grow (T:=fun i=>i=b12) k9 (fun i hi=>(hvs q hq i hi).2.2) sub,h.pt.grow (T:=fun i=>i=b12) k9 hpv sub,?_,by rw[←Cp];exact h12,
  k9.blk h.h6 (fun e=>e.elim (fun e=>(hno _ e).1 rfl) (fun e=>n2 e.symm)),k9.blk h.h10 (fun e=>e.elim (fun e=>(hno _ e).2.1 rfl) (fun e=>n1 e.symm)),fun i hi=>(sub i hi).elim (h.sub i) fun e=>.inr (by omega),
  (h.clo.trans clo).onT ks fun i hi=>(hno2 i hi).2.2,fun q hq i hi=>?_,h.keep.trans' k9 (fun _ _ h=>h) (fun i hi e=>e.elim (fun e=>(h.sub i e).imp id fun e=>by omega) .inr)⟩
 ·unfold iL
  rw[h.eq];simp only[];rw[e]
 ·show aH w9 B2 (fD vs' k v q) (eK K k u q).ptr
  by_cases e:q=k
  ·subst e;rw[lN,jO];exact pt.keepT ks fun i hi=>(hvn i hi).2.2
  ·rw[lO _ _ e,jP _ _ e];exact(h.new q hq).grow (T:=fun i=>i=b12) k9 (fun i hi=>(h.off q hq i hi).2.2) sub
 ·have o4:=h.cl.o4;have o5:=h.cl.o5
  have m:∀{i},Off wr B' i->¬(B2 i)/\i<w9.heap.size:=fun {i} o=>⟨fun e=>(sub i e).elim o.1 fun e=>by have:=o.2;omega,by have:=o.2;have:=k9.size;omega⟩
  exact⟨k9.blk h.cl.c (fun e=>e.elim o4.1 h4.1),h.cl.y.imp fun T h2=>k9.blk h2 (fun e=>e.elim o5.1 h4.2),m o4,m o5⟩
 ·by_cases e:q=k
  ·subst e;rw[lN] at hi;exact hvn i hi
  ·rw[lO _ _ e] at hi;exact h.off q hq i hi
theorem xO{cut:Kor->Tr->Int->Int->Option Tr×Kor}{W f g:Int}{S U:Kor}{t:Tr}:∀{i j:Nat},iL cut W S t f g j=(none,U)->j≤i->iL cut W S t f g i=(none,U)
 | 0,j,h,hj=>by
   obtain rfl:j=0:=by omega
   exact h
 | i+1,j,h,hj=>by
   by_cases e:j=i+1
   ·subst e;exact h
   ·unfold iL
    rw[xO (i:=i) h (by omega)]
theorem lU.fail{w W0:World}{B:Nat->Prop}{c b4 b5 b6 b10 b12 l:Nat}{S:Kor}{t:Tr}{f g:Int}{pv:Value}{vs:Nat->Value}{k:Nat}{ch:Bool}{wr:World}{K:Nat->Tr}{T:Kor}{B':Nat->Prop}{vs':Nat->Value}
 (h:lU w W0 B c b4 b5 b6 b10 b12 l S t f g pv vs k ch wr K T B' vs') (hk:k<4){U:Kor}(e:cS l T (t.kid k) (f-k*4 ^ l) (g-k*4 ^ l)=(none,U)):iL (cS l) (4 ^ l) S t f g 4=(none,U):=by
 refine xO (j:=k+1) ?_ (by omega);unfold iL;rw[h.eq];simp only[];rw[e]
theorem lU.kids{w W0:World}{B:Nat->Prop}{c b4 b5 b6 b10 b12 l:Nat}{S:Kor}{t:Tr}{f g:Int}{pv:Value}{vs:Nat->Value}{k:Nat}{ch:Bool}{wr:World}{K:Nat->Tr}{T:Kor}{B':Nat->Prop}{vs':Nat->Value}
 (h:lU w W0 B c b4 b5 b6 b10 b12 l S t f g pv vs k ch wr K T B' vs') (hl:l≤2) (hb:S.Bd) (ht:Tr.Ok S (l+1) t) (hk:k≤4):Beh S T/\∀i,i<4->Tr.Ok T l (K i):=by
 obtain⟨h1,h2⟩:=yI (C:=fun _ _ _=>True) hb ht (fun hb ht h=>tO (by omega) hb ht h) k hk h.eq;exact⟨h1,(h2 K ch rfl).1⟩
def Ld(l:Nat):Prop:=∀(w:World) (c:Nat) (S:Kor) (B:Nat->Prop),KI w c S B->∀(b4 b5:Nat) (pv:Value) (t:Tr) (f g:Int),(-1000≤f/\f≤1000)->(-1000≤g/\g≤1000)->Tr.Ok S l t->aH w B pv t.ptr->cJ w B b4 b5 c ->
 Calls Tryz.prog 54 #[.agg (aK pv t.ptr).toArray,.int .i64 (l:Int),.int .i64 f,.int .i64 g,.pointer (some ⟨b4,0,none⟩),.pointer (some ⟨b5,0,none⟩)] w (bC w c B pv (cS l S t f g).1 (cS l S t f g).2)
theorem GV{l:Nat}(hl2:l≤2)(IH:Ld l){w:World}{c:Nat}{S:Kor}{B:Nat->Prop}(hK:KI w c S B){b4 b5:Nat}(pv:Value)(t:Tr)(f g:Int)(hf:-1000≤f/\f≤1000)(hg:-1000≤g/\g≤1000)(ht:Tr.Ok S (l+1) t)(hp:aH w B pv t.ptr)(hc:cJ w B b4 b5 c)(hh:t.isHole=false)(he:¬min g (4 ^ (l+1))≤max f 0)(hw:¬min g (4 ^ (l+1))-max f 0=4 ^ (l+1)):Calls Tryz.prog 54 #[.agg (aK pv t.ptr).toArray,.int .i64 ((l+1:Nat):Int),.int .i64 f,.int .i64 g,.pointer (some ⟨b4,0,none⟩),.pointer (some ⟨b5,0,none⟩)] w (bC w c B pv (cS (l+1) S t f g).1 (cS (l+1) S t f g).2):=by
 have HT:=H' ht;have HC:=H' hc;have HIH:=H' IH;have HBLT:=H' (fun i (e:B i)=>hK.lt e);have HBD:=H' hK.bd;have HC45:=H' (And.intro hc.o4.2 hc.o5.2);have HPLT:=H' (fun i hi=>(hp.off i hi).2.lt);have HHE:=H' ht.hole_eq;rw[hh] at HHE;have HPT:=H' hp;have HK:=H' hK;obtain⟨p,hpe⟩:∃p,t.ptr=p:=⟨_,rfl⟩
 have HPE:=H' hpe;rw[hpe] at HPT hp HHE ⊢;obtain⟨pc,HPC,hpc,HOP⟩:=nmPt hp.pt;rw[HPC.out];have hzp:(aK (.slice none 0 0) zPt).length=35:=rfl;have hzb:=gG;obtain⟨zp,hzpe⟩:∃l,aK (.slice none 0 0) zPt=l:=⟨_,rfl⟩
 have HOZP:Hid (∀u∈zp,u.oneCell'=true):=H' (by rw[←hzpe];exact bT zPt);have HZPE:=H' hzpe;rw[hzpe] at hzp hzb;have HZB:=H' hzb;clear hzpe hzb;have HL:=H' (Loc.nil aB aB w);obtain⟨m,hm⟩:∃m:Nat,4 ^ (l+1)=m:=⟨_,rfl⟩
 have HM:=H' hm;have hl:l+1≤3:=by omega
 have hm64:m≤64/\1≤m:=by
  have:l=0\/l=1\/l=2:=by omega
  rcases this with rfl|rfl|rfl<;>omega
 have hll:0≤((l+1:Nat):Int):=by omega
 have em:(4:Int) ^ (l+1)=(m:Int):=by rw[←hm];exact_mod_cast rfl
 have HCT:Hid (cS (l+1) S t f g=match iL (cS l) (4 ^ l) S t (max f 0) (min g (m:Int)) 4 with
  | (none,T)=>(none,T)
  | (some (k,ch),T)=>if ch then T.lay (l+1) k else (some t,T)):=H' (by
  show (if t.isHole || decide (min g (4 ^ (l+1))≤max f 0) then (some t,S) else if min g (4 ^ (l+1))-max f 0=4 ^ (l+1) then (some .hole,S) else _)=_;rw[hh,decide_eq_false he,if_neg (by decide),if_neg hw,em];rfl)
 rw[em] at he hw;have he3:decide (max f 0 ≥ min g (m:Int))=false:=decide_eq_false he;clear hp hpe hK ht hc hm em hh IH;go_enter Tryz.func54,Tryz.ntmps54
 go_wp2_with (first
  | ((with_reducible show WL (some 6) (.box 26 _));refine bx 26 (.tmp 0) (pc.toArray) ?_))
 intro b6 w1 hbs hk hb;replace HL:=H' (HL.out.new (fun _ h=>h.elim) hbs hk hb);replace HPT:=H' (aH.keep0 HPT.out hk);replace HK:=H' (HK.out.keep0 hk);replace HC:=H' (cJ.keep0 HC.out hk);clear hbs hk hb
 go_wp2_with (first
  | ((with_reducible show WL (some 10) (.alloc 26));refine al 26 (.agg aI.toArray) (aI.toArray) aX ?_))
 intro b10 w2 hbs hk hb;replace HL:=H' (HL.out.new (fun _ h=>h.elim) hbs hk hb);replace HPT:=H' (aH.keep0 HPT.out hk);replace HK:=H' (HK.out.keep0 hk);replace HC:=H' (cJ.keep0 HC.out hk);clear hbs hk hb;go_wp2_with fail;refine((by rw[←HM.out];exact iB w2 (l+1) hl:Calls _ _ _ w2 (aM w2 (.int .i64 (m:Int))))).mono ?_;rintro e w3 ⟨rfl,hk⟩;replace HL:=H' (HL.out.keeps hk);replace HPT:=H' (aH.keep0 HPT.out hk);replace HK:=H' (HK.out.keep0 hk);replace HC:=H' (cJ.keep0 HC.out hk);clear hk
 go_wp2_with (first
  | ((with_reducible show WL (some 27) (.load 26 _));refine wpList_load_mid rfl 26 (.tmp 6) rfl b6 0 rfl pc _ (aC (HL.out.b 1)) aJ rfl (by rw[hpc];exact aE) ?_))
 refine((by rw[←HPC.out];exact cE w3 pv p HPT.out.pt:Calls _ _ _ w3 (aZ w3 p.hole))).mono ?_;rintro e w4 ⟨rfl,hk⟩;replace HL:=H' (HL.out.keeps hk);replace HPT:=H' (aH.keep0 HPT.out hk);replace HK:=H' (HK.out.keep0 hk);replace HC:=H' (cJ.keep0 HC.out hk);clear hk;rw[HHE.out];go_wp2_with fail;refine((by rw[←HM.out];exact iB w4 (l+1) hl:Calls _ _ _ w4 (aM w4 (.int .i64 (m:Int))))).mono ?_;rintro e w5 ⟨rfl,hk⟩;replace HL:=H' (HL.out.keeps hk);replace HPT:=H' (aH.keep0 HPT.out hk);replace HK:=H' (HK.out.keep0 hk);replace HC:=H' (cJ.keep0 HC.out hk);clear hk;have c1:w5.cell? ⟨b4,0,none⟩=some (.pointer (some ⟨c,0,none⟩)):=(aD (i:=0) HC.out.c rfl)
 go_wp2_with (first
  | ((with_reducible show WL (some 45) (.load 26 _));refine wpList_load_mid rfl 26 (.tmp 6) rfl b6 0 rfl pc _ (aC (HL.out.b 1)) aJ rfl (by rw[hpc];exact aE) ?_))
 clear c1;have HLW:=H' HL.out.keep.size;have HLB:=H' (And.intro (HL.out.lt 0).2 (HL.out.lt 1).2);refine((by rw[←HPC.out,←HPE.out];exact pE HK.out hl2 pv t HT.out (by rw[HPE.out];exact HPT.out.pt):Calls _ _ _ w5 (iC w5 B l t))).mono ?_;rintro e w6 ⟨vs,rfl,hvs,hnew,hk⟩;have HNN:=H' hvs;have HNW:=H' hnew;have hnn:=dG ((l+1:Nat):Int) vs hvs.nv;have HOF0:=dU ((l+1:Nat):Int) hvs.nv;obtain⟨nn,hnne⟩:∃x,cH ((l+1:Nat):Int) vs (fun i=>(t.kid i).ptr)=x:=⟨_,rfl⟩
 have HOF:Hid (∀u∈nn,u.oneCell'=true):=H' (by rw[←hnne];exact HOF0);have HNF:=H' hnne;rw[hnne] at hnn ⊢;obtain⟨tc,htce⟩:∃x,qE vs (fun i=>(t.kid i).ptr)=x:=⟨_,rfl⟩
 have HNT:Hid (nn=.int .i64 ((l+1:Nat):Int)::tc):=H' (by rw[←hnne,←htce];rfl);have HTC:=H' htce;have hnt:tc.length=140:=by have h:=hnn;rw[HNT.out,List.length_cons] at h;omega
 have HNL:=H' (fun q (hq:q<4) i hi=>((hvs q hq).off i hi).2.lt);clear HOF0 hnne hvs hnew htce;replace HL:=H' (HL.out.keeps hk);replace HPT:=H' (aH.keep0 HPT.out hk);replace HK:=H' (HK.out.keep0 hk);replace HC:=H' (cJ.keep0 HC.out hk);clear hk
 go_wp2_with (first
  | ((with_reducible show WL (some 12) (.alloc 123));refine al 123 (.agg eB.toArray) (eB.toArray) kU ?_))
 intro b12 w7 hbs hk0 hb0_
 go_wp2_with (first
  | ((with_reducible show WL _ (.store 123 (.tmp 12) (.tmp 48)));refine sta 123 (.tmp 12) (.tmp 48) b12 0 nn hb0_ (by first|decide|(rw[List.size_toArray,hnn];exact Nat.le_refl _)|simp[hnn,cN]) (by rw[hnn];exact eC) HOF.out ?_))
 intro w8 hk hb;rw[aL _ _ (by first|rfl|(rw[List.size_toArray,hnn];rfl)|simp[hnn,cN])] at hb;replace hk:=hk0.trans' hk (U:=aB) (fun _ _ h=>h) (fun i hi e=>by omega);have HNb12:=H' (show w6.heap.size≤b12 from Nat.le_of_eq hbs);replace HL:=H' (HL.out.new (fun _ h=>h.elim) hbs hk hb);replace HPT:=H' (aH.keep0 HPT.out hk);replace HK:=H' (HK.out.keep0 hk);replace HC:=H' (cJ.keep0 HC.out hk);replace HNN:=H' (bR.keep0 HNN.out hk);clear hbs hk hb hk0 hb0_
 go_wp2_with (first
  | ((with_reducible show WL (some 55) (.load 121 _));refine wpList_load_mid rfl 121 (.tmp 54) rfl b12 1 rfl tc _ (by have h:=aC (HL.out.b 0);rw[HNT.out] at h;exact rI h) Tryz.underlying121 rfl (by rw[hnt];exact Jk) ?_))
 have HVO:=H' (show ∀q,q<4->∀i,(vs q).ownBlock=some i->i≠b6/\i≠b10/\i≠b12 from fun q hq i hi=>by (have:=HNW.out q hq i hi;have:=HNL.out q hq i hi;have:=HLB.out;have:=HNb12.out;omega));have HND:=H' (show b12≠b10/\b12≠b6/\b10≠b6 from⟨bK HL.out.nd (i:=1) rfl 0 (by decide) rfl,bK HL.out.nd (i:=2) rfl 0 (by decide) rfl,bK HL.out.nd (i:=2) rfl 1 (by decide) rfl⟩);have HST:Hid (∃K T B' vs',lU w w8 B c b4 b5 b6 b10 b12 l S t (max f 0) (min g (m:Int)) pv vs 0 false w8 K T B' vs'):=H' ⟨t.kid,S,B,vs,rfl,HK.out,HNN.out,HNN.out,by rw[HPE.out];exact HPT.out,HC.out,by (have h:=HL.out.b 0;rw[←HNF.out] at h;exact h),by (have h:=HL.out.b 2;rw[←HPC.out,←HPE.out] at h;exact h),HL.out.b 1,fun _ h=>.inl h,Cl.refl _ _ _ HL.out.keep,HVO.out,aA.refl _ _⟩;have HG:=H' (And.intro (HL.out.lt 0) (And.intro (HL.out.lt 1) (HL.out.lt 2)));have HKW:=H' HL.out.keep;have HPO:=H' (fun i hi=>(HPT.out.off i hi).2);have HPL:=H' HPLT.out;clear HL HK HPT HC HNN
 go_loopw [14,56] (fun ch i wr=>∃(k:Nat) (cb:Bool),k≤4/\ch=.bool cb/\i=.int .i64 (k:Int)/\Hid (∃K T B' vs',lU w w8 B c b4 b5 b6 b10 b12 l S t (max f 0) (min g (m:Int)) pv vs k cb wr K T B' vs')) (fun _ i _=>4-(intOf i).toNat)
 case atStart=>exact⟨0,false,by omega,rfl,rfl,HST⟩
 case round =>
  obtain⟨k,cb,hk,rfl,rfl,HCI⟩:=hrel;obtain⟨K,T,B',vs',hci⟩:=HCI.out
  by_cases hk8:k<4
  ·have HKI:=H' hci.ki;have HQV:=H' (hci.old k hk8);have HCL:=H' hci.cl;have HCX:=H' hci
   have HL:=H' (hci.loc HKW.out HBLT.out HG.out.2.2 HG.out.2.1 HG.out.1 HND.out.1 HND.out.2.1 HND.out.2.2);have HX:=H' (aA.refl aB wr);obtain⟨W,hW⟩:∃W:Nat,4 ^ l=W:=⟨_,rfl⟩
   have hW16:W≤16:=by
    have:l=0\/l=1\/l=2:=by omega
    rcases this with rfl|rfl|rfl<;>omega
   have HW:=H' hW;obtain⟨kw,hkw⟩:∃q:Nat,k*W=q:=⟨_,rfl⟩
   have hkw48:kw≤48:=by rw[←hkw];exact Nat.le_trans (Nat.mul_le_mul (by omega:k≤3) hW16) (by decide)
   have hkwi:(k:Int)*(W:Int)=(kw:Int):=by rw[←hkw];push_cast;rfl
   have HKWI:Hid ((k:Int)*(4:Int) ^ l=(kw:Int)):=H' (by rw[←hkwi,←hW];push_cast;rfl);have hqc:=aO (v:=vs k) HQV.out.pt.sum;have HOQ0:=bF HQV.out.pt;have hex:=Dx hci.old.nv hk8;obtain⟨qc,hqce⟩:∃x,aK (vs k) ((t.kid k).ptr)=x:=⟨_,rfl⟩
   have HOQ:Hid (∀u∈qc,u.oneCell'=true):=H' (by rw[←hqce];exact HOQ0);have HQC:=H' hqce;rw[hqce] at hqc;rw[HTC.out,hqce] at hex;have HEX:=H' hex;obtain⟨⟨r,U⟩,hrU⟩:∃q,cS l T (t.kid k) (max f 0-(kw:Int)) (min g (m:Int)-(kw:Int))=q:=⟨_,rfl⟩
   have HRU:=H' hrU;have HTK:=H' ((HT.out.kid hk8).ext (hci.kids hl2 HBD.out HT.out hk).1.ext);have hk0:(0:Int)≤(k:Int):=by omega
   have hk1:(k:Int)<4:=by omega
   have hHM:=HM.out;have HB2:=H' (And.intro hci.sub hci.keep.size);clear hqce HOQ0 hci hex hW hkw hrU
   go_wp2_with (first
    | ((with_reducible show WL (some 59) (.index _ _ _));refine idx 121 26 4 35 k _ .i64 _ (.tmp 55) (.tmp 56) Tryz.underlying121 hk8 aJ rfl sM ?_;rw[HEX.out])
    | ((with_reducible show WL (some 16) (.alloc 26));refine al 26 (.agg aI.toArray) (aI.toArray) aX ?_))
   intro b16 wa hbs hk0 hb0_
   go_wp2_with (first
    | ((with_reducible show WL _ (.store 26 (.tmp 16) (.tmp 59)));refine sta 26 (.tmp 16) (.tmp 59) b16 0 qc hb0_ (by first|decide|(rw[List.size_toArray,hqc];exact Nat.le_refl _)|simp[hqc,aF]) (by rw[hqc];exact aE) HOQ.out ?_))
   intro wb hk hb;rw[aL _ _ (by first|rfl|(rw[List.size_toArray,hqc];rfl)|simp[hqc,aF])] at hb;replace hk:=hk0.trans' hk (U:=aB) (fun _ _ h=>h) (fun i hi e=>by omega);have HNb16:=H' (show wr.heap.size≤b16 from Nat.le_of_eq hbs);replace HL:=H' (HL.out.new (fun k h=>HKI.out.lt h) hbs hk hb);replace HKI:=H' (HKI.out.keep0 hk);replace HQV:=H' (aH.keep0 HQV.out hk);replace HCL:=H' (cJ.keep0 HCL.out hk);replace HX:=H' (HX.out.trans hk);clear hbs hk hb hk0 hb0_;go_wp2_with fail;refine((by rw[←HW.out];exact iB wb l (by omega):Calls _ _ _ wb (aM wb (.int .i64 (W:Int))))).mono ?_;rintro e wc ⟨rfl,hk⟩;replace HL:=H' (HL.out.keeps hk);replace HKI:=H' (HKI.out.keep0 hk);replace HQV:=H' (aH.keep0 HQV.out hk);replace HCL:=H' (cJ.keep0 HCL.out hk);replace HX:=H' (HX.out.trans hk);clear hk;have c1:wc.cell? ⟨b5,0,none⟩=some (.func (.func 54) #[] #[.pointer (some ⟨b4,0,none⟩),.pointer (some ⟨b5,0,none⟩)]):=(by obtain⟨T9,h9⟩:=HCL.out.y;exact aD (i:=0) h9 rfl)
   go_wp2_with (first
    | ((with_reducible show WL (some 67) (.load 26 _));refine wpList_load_mid rfl 26 (.tmp 16) rfl b16 0 rfl qc _ (aC (HL.out.b 0)) aJ rfl (by rw[hqc];exact aE) ?_))
   clear c1;refine((by have h:=HIH.out wc c T B' HKI.out b4 b5 (vs k) (t.kid k) (max f 0-(kw:Int)) (min g (m:Int)-(kw:Int)) (by omega) (by omega) HTK.out HQV.out HCL.out;rw[HRU.out,HQC.out] at h;exact h:Calls _ _ _ wc (bC wc c B' (vs k) r U))).mono ?_;rintro e wd ⟨v,B2,hm1,hpv,hki,hbb2,hcl,hnw,hk⟩;have HPV:=H' hpv;have HKI2:=H' hki;have HBB:=H' (show ∀i,B2 i->B' i\/wr.heap.size≤i from fun i hi=>(hbb2 i hi).imp id fun h=>Nat.le_trans HX.out.size h);have HNW:=H' (hnw.imp id fun h=>h.from HX.out.size);have HCL2:=H' ((Cl.refl wr wc B' HX.out).trans hcl);replace HX:=H' (HX.out.any.trans hk);have HPVL:=H' (fun i hi=>(hpv.off i hi).2.lt);replace HQV:=H' (HQV.out.keep hk hbb2);replace HL:=H' (HL.out.turn hk (fun i hi e=>(HB2.out.1 i e).elim id fun e=>by have:=HKW.out.size;omega) (fun i hi hb=>(hbb2 i hb).elim id fun e=>by omega));have hrc:=aO (v:=v) hpv.pt.sum;have HOR0:=bF hpv.pt;obtain⟨rc,hrce⟩:∃x,aK v (eI r)=x:=⟨_,rfl⟩
   have HOR:Hid (∀u∈rc,u.oneCell'=true):=H' (by rw[←hrce];exact HOR0);have HRC:=H' hrce;rw[hrce] at hrc hm1;subst hm1;clear hrce HOR0 hpv hki hbb2 hcl hnw hk HKI HCL;rcases r with _|u
   ·go_wp2_with (first
     | ((with_reducible show WL (some 18) (.alloc 26));refine al 26 (.agg aI.toArray) (aI.toArray) aX ?_))
    intro b18 we hbs hk0 hb0_
    go_wp2_with (first
     | ((with_reducible show WL _ (.store 26 (.tmp 18) (.tmp 77)));refine sta 26 (.tmp 18) (.tmp 77) b18 0 rc hb0_ (by first|decide|(rw[List.size_toArray,hrc];exact Nat.le_refl _)|simp[hrc,aF]) (by rw[hrc];exact aE) HOR.out ?_))
    intro wf hk hb;rw[aL _ _ (by first|rfl|(rw[List.size_toArray,hrc];rfl)|simp[hrc,aF])] at hb;replace hk:=hk0.trans' hk (U:=aB) (fun _ _ h=>h) (fun i hi e=>by omega);have HNb18:=H' (show wd.heap.size≤b18 from Nat.le_of_eq hbs);replace HL:=H' (HL.out.new (fun k h=>HKI2.out.lt h) hbs hk hb);replace HQV:=H' (aH.keep0 HQV.out hk);replace HKI2:=H' (HKI2.out.keep0 hk);replace HPV:=H' (aH.keep0 HPV.out hk);replace HX:=H' (HX.out.trans (aA.any hk));replace HCL2:=H' (Cl.onT HCL2.out hk fun _ _=>id);clear hbs hk hb hk0 hb0_
    go_wp2_with (first
     | ((with_reducible show WL (some 81) (.build _ _));refine bld 26 #[] [] (.agg zp.toArray) HZB.out ?_)
     | ((with_reducible show WL _ (.store 26 _ _));refine sta 26 (.tmp 10) (.tmp 81) b10 0 zp (HL.out.b 3) (by rw[List.size_toArray,aF,hzp];exact Nat.le_refl _) (by rw[hzp];exact aE) HOZP.out ?_))
    intro w9 hk hb;rw[aL _ _ (by rw[List.size_toArray,aF,hzp])] at hb;have HB10:=H' hb;have e0:cS (l+1) S t f g=(none,U):=by rw[HCT.out,HCX.out.fail (k:=k) hk8 (by rw[HKWI.out];exact HRU.out)]
    have HP:Hid (bC w c B pv (cS (l+1) S t f g).1 (cS (l+1) S t f g).2 (.returned (.tuple #[.agg zp.toArray,.int .i64 15])) w9):=H' (by
     rw[e0,←HZPE.out];have hg:=HG.out;have hz:=HB2.out;have nb:∀i,B2 i->i≠b10:=fun i hi e=>(HBB.out i hi).elim (fun h=>(hz.1 i h).elim (fun h=>by have:=HBLT.out i h;omega) fun h=>by omega) fun h=>by omega
     refine⟨_,B2,rfl,aH.hole _ _,HKI2.out.keepT hk fun i e hb=>nb i hb e,fun i hi=>(HBB.out i hi).elim (fun h=>(hz.1 i h).imp id fun h=>by omega) fun h=>.inr (by omega),(HCX.out.clo.trans HCL2.out).onT hk nb,.inr (gF.nil w),?_⟩;exact((HL.out.keep).trans' hk (fun _ _ h=>h) (fun i hi e=>by omega)))
    clear hk hb HL HKI2 HPV HQV HX HCL2 HCX e0;go_wp2_with fail;refine bodyPost_ret (aY rfl _ _ b10 _ _ _ _ rfl HB10.out aJ rfl (by rw[List.size_toArray,hzp];exact aE)) rfl ?_;exact HP.out
   ·go_wp2_with (first
     | ((with_reducible show WL (some 18) (.alloc 26));refine al 26 (.agg aI.toArray) (aI.toArray) aX ?_))
    intro b18 we hbs hk0 hb0_
    go_wp2_with (first
     | ((with_reducible show WL _ (.store 26 (.tmp 18) (.tmp 77)));refine sta 26 (.tmp 18) (.tmp 77) b18 0 rc hb0_ (by first|decide|(rw[List.size_toArray,hrc];exact Nat.le_refl _)|simp[hrc,aF]) (by rw[hrc];exact aE) HOR.out ?_))
    intro wf hk hb;rw[aL _ _ (by first|rfl|(rw[List.size_toArray,hrc];rfl)|simp[hrc,aF])] at hb;replace hk:=hk0.trans' hk (U:=aB) (fun _ _ h=>h) (fun i hi e=>by omega);have HNb18:=H' (show wd.heap.size≤b18 from Nat.le_of_eq hbs);replace HL:=H' (HL.out.new (fun k h=>HKI2.out.lt h) hbs hk hb);replace HQV:=H' (aH.keep0 HQV.out hk);replace HKI2:=H' (HKI2.out.keep0 hk);replace HPV:=H' (aH.keep0 HPV.out hk);replace HX:=H' (HX.out.trans (aA.any hk));replace HCL2:=H' (Cl.onT HCL2.out hk fun _ _=>id);clear hbs hk hb hk0 hb0_
    cases cb with
     | true =>
       go_wp2_with (first
        | ((with_reducible show WL (some 91) (.load 26 _));refine wpList_load_mid rfl 26 (.tmp 18) rfl b18 0 rfl rc _ (aC (HL.out.b 0)) aJ rfl (by rw[hrc];exact aE) ?_)
        | ((with_reducible show WL _ (.store 26 (.tmp 93) (.tmp 91)));refine sta 26 (.tmp 93) (.tmp 91) b12 (1+k*35) rc (HL.out.b 2) (by rw[List.size_toArray,dG _ _ HCX.out.new.nv,hrc];omega) (by rw[hrc];exact aE) HOR.out ?_))
       intro w9 hk hb;rw[←HRC.out,show eI (some u)=u.ptr from rfl,Cj HCX.out.new.nv _ hk8 (show u.ptr.sum.length=32 from HPV.out.pt.sum)] at hb
       have HNX:Hid (∃K T B' vs',lU w w8 B c b4 b5 b6 b10 b12 l S t (max f 0) (min g (m:Int)) pv vs (k+1) true w9 K T B' vs'):=H' ⟨eK K k u,U,B2,fD vs' k v,by
        have h:=HCX.out.step (by rw[HKWI.out];exact HRU.out) HKI2.out HPV.out HBB.out HCL2.out HX.out hk hb HNW.out HVO.out hk8 (fun i hi=>by have:=HPLT.out i hi;have:=HG.out;omega) (by have:=HC45.out;have:=HG.out;omega) HBLT.out HG.out.2.2 HG.out.2.1 HG.out.1 HND.out.1 HND.out.2.1;rw[show (true || !(t.kid k).ptr.eqB u.ptr)=true from by rw[Bool.true_or]] at h;exact h⟩
       clear hk hb HL HKI2 HPV HQV HX HCL2 HCX HBB HNW HRU HB2;go_wp2_with fail
       go_roundw
       case rel=>exact⟨k+1,true,by omega,rfl,by go_num,HNX⟩
       case measure=>simp[intOf];omega
     | false =>
       obtain⟨eb,heb⟩:∃e,(t.kid k).ptr.eqB u.ptr=e:=⟨_,rfl⟩
       have HEB:=H' heb;clear heb
       go_wp2_with (first
        | ((with_reducible show WL (some 85) (.load 26 _));refine aT (by rfl) 26 (.tmp 16) rfl b16 0 rfl qc _ (aC (HL.out.b 1)) aJ rfl (by rw[hqc];exact aE) ?_)
        | ((with_reducible show WL (some 86) (.load 26 _));refine aT (by rfl) 26 (.tmp 18) rfl b18 0 rfl rc _ (aC (HL.out.b 0)) aJ rfl (by rw[hrc];exact aE) ?_))
       refine((by rw[←HQC.out,←HRC.out];exact nJ wf (vs k) v (t.kid k).ptr u.ptr HQV.out.pt HPV.out.pt:Calls _ _ _ wf (aZ wf ((t.kid k).ptr.eqB u.ptr)))).mono ?_;rintro e wg ⟨rfl,hk⟩;replace HL:=H' (HL.out.keeps hk);replace HQV:=H' (aH.keep0 HQV.out hk);replace HKI2:=H' (HKI2.out.keep0 hk);replace HPV:=H' (aH.keep0 HPV.out hk);replace HX:=H' (HX.out.trans (aA.any hk));replace HCL2:=H' (Cl.onT HCL2.out hk fun _ _=>id);clear hk;rw[HEB.out]
       go_wp2_with (first
        | ((with_reducible show WL (some 91) (.load 26 _));refine wpList_load_mid rfl 26 (.tmp 18) rfl b18 0 rfl rc _ (aC (HL.out.b 0)) aJ rfl (by rw[hrc];exact aE) ?_)
        | ((with_reducible show WL _ (.store 26 (.tmp 93) (.tmp 91)));refine sta 26 (.tmp 93) (.tmp 91) b12 (1+k*35) rc (HL.out.b 2) (by rw[List.size_toArray,dG _ _ HCX.out.new.nv,hrc];omega) (by rw[hrc];exact aE) HOR.out ?_))
       intro w9 hk hb;rw[←HRC.out,show eI (some u)=u.ptr from rfl,Cj HCX.out.new.nv _ hk8 (show u.ptr.sum.length=32 from HPV.out.pt.sum)] at hb
       have HNX:Hid (∃K T B' vs',lU w w8 B c b4 b5 b6 b10 b12 l S t (max f 0) (min g (m:Int)) pv vs (k+1) (!eb) w9 K T B' vs'):=H' ⟨eK K k u,U,B2,fD vs' k v,by
        have h:=HCX.out.step (by rw[HKWI.out];exact HRU.out) HKI2.out HPV.out HBB.out HCL2.out HX.out hk hb HNW.out HVO.out hk8 (fun i hi=>by have:=HPLT.out i hi;have:=HG.out;omega) (by have:=HC45.out;have:=HG.out;omega) HBLT.out HG.out.2.2 HG.out.2.1 HG.out.1 HND.out.1 HND.out.2.1;rw[show (false || !(t.kid k).ptr.eqB u.ptr)=(!eb) from by rw[HEB.out,Bool.false_or]] at h;exact h⟩
       clear hk hb HL HKI2 HPV HQV HX HCL2 HCX HBB HNW HRU HB2;go_wp2_with fail
       go_roundw
       case rel=>exact⟨k+1,(!eb),by omega,rfl,by go_num,HNX⟩
       case measure=>simp[intOf];omega
  ·obtain rfl:k=4:=by omega
   have HH6:=H' (show wr.heap[b6]?=some (.cells pc.toArray 26 (0,0)) from by have h:=hci.h6;rw[HPE.out,HPC.out] at h;exact h);have H10:=H' hci.h10;have HCX:=H' hci;clear hci HCI hk8;cases cb with
   | true =>
     have HKI:=H' HCX.out.ki;have HNV:=H' HCX.out.new;have HCL:=H' HCX.out.cl;have HKD:=H' (HCX.out.kids hl2 HBD.out HT.out (by omega)).2;have hmc:=dG ((l+1:Nat):Int) vs' HNV.out.nv;have HL0:=H' (HCX.out.loc HKW.out HBLT.out HG.out.2.2 HG.out.2.1 HG.out.1 HND.out.1 HND.out.2.1 HND.out.2.2);obtain⟨mc,hmce⟩:∃x,cH ((l+1:Nat):Int) vs' (fun i=>(K i).ptr)=x:=⟨_,rfl⟩
     have HMC:=H' hmce;have HL:Hid (Loc B B' w wr [(b12,mc.toArray,123),(b10,aI.toArray,26),(b6,(aK pv t.ptr).toArray,26)]):=H' (by rw[←hmce];exact HL0.out);rw[hmce] at hmc;obtain⟨⟨r,U⟩,hrU⟩:∃q,T.lay (l+1) K=q:=⟨_,rfl⟩
     have HRU:=H' hrU;clear hmce HL0 hrU;have c1:wr.cell? ⟨b4,0,none⟩=some (.pointer (some ⟨c,0,none⟩)):=(aD (i:=0) HCL.out.c rfl)
     go_wp2_with (first
      | ((with_reducible show WL (some 99) (.load 123 _));refine wpList_load_mid rfl 123 (.tmp 12) rfl b12 0 rfl mc _ (aC (HL.out.b 0)) Tryz.underlying123 rfl (by rw[hmc];exact eC) ?_))
     clear c1;refine((by rw[←HMC.out];have h:=Ck HKI.out hl2 K HKD.out vs' HNV.out;rw[HRU.out] at h;exact h:Calls _ _ _ wr (bC wr c B' (.slice none 0 0) r U))).mono ?_;rintro e wa ⟨v,B2,hm1,hpv,hki,hbb2,hcl,hnw,hk⟩;have HPV:=H' hpv;have HKI2:=H' hki;have HBB:=H' hbb2;have HNW:=H' hnw;have HCL2:=H' hcl;have HPVL:=H' (show ∀i,v.ownBlock=some i->i≠b10 from fun i hi e=>hnw.elim (fun h=>by rw[h] at hi;cases hi) fun h=>by have:=h i hi;have:=HG.out;have:=HCX.out.keep.size;omega);replace HL:=H' (HL.out.turn hk (fun i hi e=>(HCX.out.sub i e).elim id fun e=>by have:=HKW.out.size;omega) (fun i hi hb=>(hbb2 i hb).elim id fun e=>by omega));have hrc:=aO (v:=v) hpv.pt.sum;have HOR0:=bF hpv.pt;obtain⟨rc,hrce⟩:∃x,aK v (eI r)=x:=⟨_,rfl⟩
     have HOR:Hid (∀u∈rc,u.oneCell'=true):=H' (by rw[←hrce];exact HOR0);have HRC:=H' hrce;obtain⟨er,here⟩:∃x,gI r=x:=⟨_,rfl⟩
     have HER:=H' here;rw[hrce] at hrc hm1;rw[here] at hm1;subst hm1;clear hrce here HOR0 hpv hki hbb2 hcl hnw hk HKI HCL HNV
     go_wp2_with (first
      | ((with_reducible show WL _ (.store 26 _ _));refine sta 26 (.tmp 10) (.tmp 101) b10 0 rc (HL.out.b 1) (by rw[List.size_toArray,aF,hrc];exact Nat.le_refl _) (by rw[hrc];exact aE) HOR.out ?_))
     intro w9 hk hb;rw[aL _ _ (by rw[List.size_toArray,aF,hrc])] at hb;have HB10:=H' hb;have e0:cS (l+1) S t f g=(r,U):=by rw[HCT.out,HCX.out.eq];exact HRU.out
     have HP:Hid (bC w c B pv (cS (l+1) S t f g).1 (cS (l+1) S t f g).2 (.returned (.tuple #[.agg rc.toArray,.int .i64 er])) w9):=H' (by
      rw[e0,←HRC.out,←HER.out];have hg:=HG.out;have hz:=HCX.out.keep.size;have hw:=HKW.out.size;have sub:∀i,B2 i->B i\/w8.heap.size≤i:=fun i hi=>(HBB.out i hi).elim (HCX.out.sub i) fun h=>.inr (by omega)
      have nb:∀i,B2 i->i≠b10:=fun i hi e=>(sub i hi).elim (fun h=>by have:=HBLT.out i h;omega) fun h=>by omega
      refine⟨v,B2,rfl,HPV.out.keepT hk HPVL.out,HKI2.out.keepT hk fun i e hb=>nb i hb e,fun i hi=>(sub i hi).imp id fun h=>by omega,(HCX.out.clo.trans HCL2.out).onT hk nb,.inr (HNW.out.elim (fun e=>by rw[e];exact gF.nil w) fun h=>h.from (by omega)),?_⟩;exact((HL.out.keep).trans' hk (fun _ _ h=>h) (fun i hi e=>by omega)))
     clear hk hb HL HKI2 HPV HCL2 HCX e0 HBB;go_wp2_with fail;refine bodyPost_ret (aY rfl _ _ b10 _ _ _ _ rfl HB10.out aJ rfl (by rw[List.size_toArray,hrc];exact aE)) rfl ?_;exact HP.out
   | false =>
     go_wp2_with (first
      | ((with_reducible show WL (some 97) (.load 26 _));refine wpList_load_mid rfl 26 (.tmp 6) rfl b6 0 rfl pc _ (aC HH6.out) aJ rfl (by rw[hpc];exact aE) ?_)
      | ((with_reducible show WL _ (.store 26 _ _));refine sta 26 (.tmp 10) (.tmp 97) b10 0 pc H10.out (by rw[List.size_toArray,aF,hpc];exact Nat.le_refl _) (by rw[hpc];exact aE) HOP.out ?_))
     intro w9 hk hb;rw[aL _ _ (by rw[List.size_toArray,aF,hpc])] at hb;have HB10:=H' hb;have e0:cS (l+1) S t f g=(some t,T):=by rw[HCT.out,HCX.out.eq];rfl
     have HP:Hid (bC w c B pv (cS (l+1) S t f g).1 (cS (l+1) S t f g).2 (.returned (.tuple #[.agg pc.toArray,.int .i64 0])) w9):=H' (by
      rw[e0,←HPC.out,←HPE.out];have hg:=HG.out;have nb:∀i,B' i->i≠b10:=fun i hi e=>(HCX.out.sub i hi).elim (fun h=>by have:=HBLT.out i h;omega) fun h=>by omega
      refine⟨pv,B',rfl,HCX.out.pt.keepT hk fun i hi e=>by (have:=HPLT.out i hi;omega),HCX.out.ki.keepT hk fun i e hb=>nb i hb e,fun i hi=>(HCX.out.sub i hi).imp id fun h=>by omega,HCX.out.clo.onT hk nb,.inl rfl,?_⟩;exact((HKW.out.trans' HCX.out.keep (fun _ _ h=>h.elim) (fun i hi e=>e.elim id fun e=>by omega)).trans' hk (fun _ _ h=>h) (fun i hi e=>by omega))
      )
     clear hk hb HH6 H10 HCX e0;go_wp2_with fail;refine bodyPost_ret (aY rfl _ _ b10 _ _ _ _ rfl HB10.out aJ rfl (by rw[List.size_toArray,hpc];exact aE)) rfl ?_;exact HP.out
theorem DF:∀l,l≤3->Ld l
 | 0,hl=>fun w c S B hK b4 b5 pv t f g hf hg ht hp hc=>by
   have e1:(4:Int) ^ 0=1:=rfl
   by_cases h:(t.isHole || decide (min g 1≤max f 0))=true
   ·rw[show cS 0 S t f g=(some t,S) from by unfold cS;rw[if_pos h]]
    rw[Bool.or_eq_true,decide_eq_true_eq] at h;exact Ay hK pv t 0 hl f g hf hg ht hp hc (by rw[e1];exact h)
   ·rw[show cS 0 S t f g=(some .hole,S) from by unfold cS;rw[if_neg h]]
    rw[Bool.or_eq_true,not_or,decide_eq_true_eq] at h;exact Az hK pv t 0 hl f g hf hg ht hp hc (by simpa using h.1) (by rw[e1];exact h.2) (by rw[e1];omega)
 | l+1,hl=>fun w c S B hK b4 b5 pv t f g hf hg ht hp hc=>by
   by_cases h:(t.isHole || decide (min g (4 ^ (l+1))≤max f 0))=true
   ·rw[show cS (l+1) S t f g=(some t,S) from by unfold cS;rw[if_pos h]]
    rw[Bool.or_eq_true,decide_eq_true_eq] at h;exact Ay hK pv t (l+1) hl f g hf hg ht hp hc h
   ·by_cases hw:min g (4 ^ (l+1))-max f 0=4 ^ (l+1)
    ·rw[show cS (l+1) S t f g=(some .hole,S) from by unfold cS;rw[if_neg h,if_pos hw]]
     rw[Bool.or_eq_true,not_or,decide_eq_true_eq] at h;exact Az hK pv t (l+1) hl f g hf hg ht hp hc (by simpa using h.1) h.2 hw
    ·rw[Bool.or_eq_true,not_or,decide_eq_true_eq] at h
     exact GV (by omega) (DF l (by omega)) hK pv t f g hf hg ht hp hc (by simpa using h.1) h.2 hw
theorem LC:Hid (∀w,(zeroValue 127).run Tryz.prog w=.ok .nilFunc w):=H' fun w=>by kernel_rfl
theorem Cv{w:World}{c:Nat}{S:Kor}{B:Nat->Prop}(hK:KI w c S B)(pv:Value)(t:Tr)(ht:Tr.Ok S 3 t)(hp:aH w B pv t.ptr)(f g:Nat)(hfg:f≤g)(hg:g≤64):Calls Tryz.prog 15 #[.pointer (some ⟨c,0,none⟩),.agg (aK pv t.ptr).toArray,.int .i64 (f:Int),.int .i64 (g:Int)] w (bC w c B (.slice none 0 0) (cS 3 S t f g).1 (cS 3 S t f g).2):=by
 have HT:=H' ht;have HBLT:=H' (fun i (e:B i)=>hK.lt e);have HBD:=H' hK.bd;have HPT:=H' hp;have HK:=H' hK;have HPL:=H' (fun i (hi:pv.ownBlock=some i)=>(hp.off i hi).2.lt);have hf0:¬((f:Int)<0):=by omega
 have hf1:¬((f:Int) > (g:Int)):=by omega
 have hf2:¬((g:Int) > 64):=by omega
 obtain⟨p,hpe⟩:∃p,t.ptr=p:=⟨_,rfl⟩
 have HPE:=H' hpe;rw[hpe] at HPT hp ⊢;obtain⟨pc,HPC,hpc,HOP⟩:=nmPt hp.pt;rw[HPC.out];have hzp:(aK (.slice none 0 0) zPt).length=35:=rfl;have hzb:=gG;obtain⟨zp,hzpe⟩:∃l,aK (.slice none 0 0) zPt=l:=⟨_,rfl⟩
 have HOZP:Hid (∀u∈zp,u.oneCell'=true):=H' (by rw[←hzpe];exact bT zPt);have HZPE:=H' hzpe;rw[hzpe] at hzp hzb;have HZB:=H' hzb;clear hzpe hzb;have HL:=H' (Loc.nil aB aB w);obtain⟨⟨r,T⟩,hrT⟩:∃q,cS 3 S t f g=q:=⟨_,rfl⟩
 have HRT:=H' hrT;rw[hrT];clear hp hpe hK ht hrT;have HPT0:=HPT;have HK0:=HK;go_enter Tryz.func15,Tryz.ntmps15
 go_wp2_with (first
  | ((with_reducible show WL (some 4) (.box 36 _));refine bx 36 (.tmp 0) (#[.pointer (some ⟨c,0,none⟩)]) ?_))
 intro b4 w1 hbs hk hb;replace HL:=H' (HL.out.new (fun _ h=>h.elim) hbs hk hb);replace HPT:=H' (aH.keep0 HPT.out hk);replace HK:=H' (HK.out.keep0 hk);clear hbs hk hb
 go_wp2_with (first
  | ((with_reducible show WL (some 5) (.box 26 _));refine bx 26 (.tmp 1) (pc.toArray) ?_))
 intro b5 w2 hbs hk hb;replace HL:=H' (HL.out.new (fun _ h=>h.elim) hbs hk hb);replace HPT:=H' (aH.keep0 HPT.out hk);replace HK:=H' (HK.out.keep0 hk);clear hbs hk hb
 go_wp2_with (first
  | ((with_reducible show WL (some 8) (.alloc 26));refine al 26 (.agg aI.toArray) (aI.toArray) aX ?_))
 intro b8 w3 hbs hk hb;replace HL:=H' (HL.out.new (fun _ h=>h.elim) hbs hk hb);replace HPT:=H' (aH.keep0 HPT.out hk);replace HK:=H' (HK.out.keep0 hk);clear hbs hk hb;have c1:w3.cell? ⟨b4,0,none⟩=some (.pointer (some ⟨c,0,none⟩)):=(aD (i:=0) (HL.out.b 2) rfl)
 go_wp2_with (first
  | ((with_reducible show WL (some 15) (.load 26 _));refine wpList_load_mid rfl 26 (.tmp 5) rfl b5 0 rfl pc _ (aC (HL.out.b 1)) aJ rfl (by rw[hpc];exact aE) ?_))
 clear c1;refine((by rw[←HPC.out];exact fS HK.out pv p HPT.out.pt (by rw[←HPE.out];exact HT.out.root):Calls _ _ _ w3 (aM w3 (.int .i64 0)))).mono ?_;rintro e w4 ⟨rfl,hk⟩;replace HL:=H' (HL.out.keeps hk);replace HPT:=H' (aH.keep0 HPT.out hk);replace HK:=H' (HK.out.keep0 hk);clear hk
 go_wp2_with (first
  | ((with_reducible show WL (some 11) (.alloc 127));refine al 127 (.nilFunc) (#[.nilFunc]) LC ?_))
 intro b11 w5 hbs hk hb;replace HL:=H' (HL.out.new (fun _ h=>h.elim) hbs hk hb);replace HPT:=H' (aH.keep0 HPT.out hk);replace HK:=H' (HK.out.keep0 hk);clear hbs hk hb
 go_wp2_with (first
  | ((with_reducible show WL _ (.store 127 (.tmp 11) (.tmp 33)));refine sta 127 (.tmp 11) (.tmp 33) b11 0 ([.func (.func 54) #[] #[.pointer (some ⟨b4,0,none⟩),.pointer (some ⟨b11,0,none⟩)]]) (HL.out.b 0) (by simp) (by kernel_rfl) (by intro v hv;simp only[List.mem_cons,List.not_mem_nil,or_false] at hv;subst hv;rfl) ?_))
 intro w6 hk hb;replace hb:w6.heap[b11]?=some (.cells #[.func (.func 54) #[] #[.pointer (some ⟨b4,0,none⟩),.pointer (some ⟨b11,0,none⟩)]] 127 (0,0)):=hb;replace HL:=H' (HL.out.set 0 hk hb);replace HPT:=H' (aH.keep0 HPT0.out HL.out.keep);replace HK:=H' (HK0.out.keep0 HL.out.keep);clear hk hb;have HCU:=H' (cJ.mk (HL.out.b 3) ⟨_,HL.out.b 0⟩ ⟨fun e=>by have:=HBLT.out _ e;have:=(HL.out.lt 3).1;omega,(HL.out.lt 3).2⟩ ⟨fun e=>by have:=HBLT.out _ e;have:=(HL.out.lt 0).1;omega,(HL.out.lt 0).2⟩:cJ w6 B b4 b11 c);have HG:=H' (And.intro (HL.out.lt 0) (And.intro (HL.out.lt 1) (And.intro (HL.out.lt 2) (HL.out.lt 3))));have c1:w6.cell? ⟨b11,0,none⟩=some (.func (.func 54) #[] #[.pointer (some ⟨b4,0,none⟩),.pointer (some ⟨b11,0,none⟩)]):=(aD (i:=0) (HL.out.b 0) rfl)
 go_wp2_with (first
  | ((with_reducible show WL (some 36) (.load 26 _));refine wpList_load_mid rfl 26 (.tmp 5) rfl b5 0 rfl pc _ (aC (HL.out.b 2)) aJ rfl (by rw[hpc];exact aE) ?_))
 clear c1;refine((by rw[←HPC.out,←HPE.out];have h:=DF 3 (Nat.le_refl _) w6 c S B HK.out b4 b11 pv t f g (by omega) (by omega) HT.out (by rw[HPE.out];exact HPT.out) HCU.out;rw[HRT.out] at h;exact h:Calls _ _ _ w6 (bC w6 c B pv r T))).mono ?_;rintro e w7 ⟨v,B2,hm1,hpv,hki,hbb2,hcl,hnw,hk⟩;have HPV:=H' hpv;have HKI2:=H' hki;have HBB:=H' (show ∀i,B2 i->B i\/w.heap.size≤i from fun i hi=>(hbb2 i hi).imp id fun h=>Nat.le_trans HL.out.keep.size h);have HCL2:=H' ((Cl.refl w w6 B HL.out.keep).trans hcl);have HPVN:=H' (show ∀i,v.ownBlock=some i->i≠b8 from fun i hi e=>hnw.elim (fun h=>by rw[h] at hi;have:=HPL.out i hi;have:=HG.out;omega) fun h=>by have:=h i hi;have:=HG.out;omega);replace HL:=H' ((HL.out.wide HBLT.out).turn hk (fun _ _ h=>h) (fun i hi hb=>(hbb2 i hb).elim id fun e=>by omega));have hrc:=aO (v:=v) hpv.pt.sum;have HOR0:=bF hpv.pt;obtain⟨rc,hrce⟩:∃x,aK v (eI r)=x:=⟨_,rfl⟩
 have HOR:Hid (∀u∈rc,u.oneCell'=true):=H' (by rw[←hrce];exact HOR0);have HRC:=H' hrce;rw[hrce] at hrc hm1;subst hm1;clear hrce HOR0 hpv hki hbb2 hcl hnw hk HK HPT HCU;rcases r with _|u
 ·go_wp2_with (first
   | ((with_reducible show WL (some 12) (.alloc 26));refine al 26 (.agg aI.toArray) (aI.toArray) aX ?_))
  intro b12 w8 hbs hk0 hb0_
  go_wp2_with (first
   | ((with_reducible show WL _ (.store 26 (.tmp 12) (.tmp 40)));refine sta 26 (.tmp 12) (.tmp 40) b12 0 rc hb0_ (by first|decide|(rw[List.size_toArray,hrc];exact Nat.le_refl _)|simp[hrc,aF]) (by rw[hrc];exact aE) HOR.out ?_))
  intro w9 hk hb;rw[aL _ _ (by first|rfl|(rw[List.size_toArray,hrc];rfl)|simp[hrc,aF])] at hb;replace hk:=hk0.trans' hk (U:=aB) (fun _ _ h=>h) (fun i hi e=>by omega);replace HL:=H' (HL.out.new (fun k h=>HKI2.out.lt h) hbs hk hb);replace HKI2:=H' (HKI2.out.keep0 hk);replace HPV:=H' (aH.keep0 HPV.out hk);replace HCL2:=H' (Cl.onT HCL2.out hk fun _ _=>id);clear hbs hk hb hk0 hb0_
  go_wp2_with (first
   | ((with_reducible show WL (some 44) (.build _ _));refine bld 26 #[] [] (.agg zp.toArray) HZB.out ?_)
   | ((with_reducible show WL _ (.store 26 _ _));refine sta 26 (.tmp 8) (.tmp 44) b8 0 zp (HL.out.b 2) (by rw[List.size_toArray,aF,hzp];exact Nat.le_refl _) (by rw[hzp];exact aE) HOZP.out ?_))
  intro w9 hk hb;rw[aL _ _ (by rw[List.size_toArray,aF,hzp])] at hb;have HB8:=H' hb
  have HP:Hid (bC w c B (.slice none 0 0) none T (.returned (.tuple #[.agg zp.toArray,.int .i64 15])) w9):=H' (by
   rw[←HZPE.out];have hg:=HG.out;have nb:∀i,B2 i->i≠b8:=fun i hi e=>HL.out.ap _ (List.mem_of_getElem? (i:=2) rfl) (e▸hi)
   exact⟨_,B2,rfl,aH.hole _ _,HKI2.out.keepT hk fun i e hb=>nb i hb e,HBB.out,HCL2.out.onT hk nb,.inl rfl,(HL.out.keep).trans' hk (fun _ _ h=>h) (fun i hi e=>by omega)⟩)
  clear hk hb HL HKI2 HPV HCL2;go_wp2_with fail;refine bodyPost_ret (aY rfl _ _ b8 _ _ _ _ rfl HB8.out aJ rfl (by rw[List.size_toArray,hzp];exact aE)) rfl ?_;exact HP.out
 ·go_wp2_with (first
   | ((with_reducible show WL (some 12) (.alloc 26));refine al 26 (.agg aI.toArray) (aI.toArray) aX ?_))
  intro b12 w8 hbs hk0 hb0_
  go_wp2_with (first
   | ((with_reducible show WL _ (.store 26 (.tmp 12) (.tmp 40)));refine sta 26 (.tmp 12) (.tmp 40) b12 0 rc hb0_ (by first|decide|(rw[List.size_toArray,hrc];exact Nat.le_refl _)|simp[hrc,aF]) (by rw[hrc];exact aE) HOR.out ?_))
  intro w9 hk hb;rw[aL _ _ (by first|rfl|(rw[List.size_toArray,hrc];rfl)|simp[hrc,aF])] at hb;replace hk:=hk0.trans' hk (U:=aB) (fun _ _ h=>h) (fun i hi e=>by omega);replace HL:=H' (HL.out.new (fun k h=>HKI2.out.lt h) hbs hk hb);replace HKI2:=H' (HKI2.out.keep0 hk);replace HPV:=H' (aH.keep0 HPV.out hk);replace HCL2:=H' (Cl.onT HCL2.out hk fun _ _=>id);clear hbs hk hb hk0 hb0_;have HADL:=H' (show u.ptr.addrs.length≤65536 from by have:=(iA (Tr.Ok.may3 (show Tr.Ok T 3 u from((tO (Nat.le_refl 3) HBD.out HT.out HRT.out).2 u rfl).1))).1;omega)
  go_wp2_with (first
   | ((with_reducible show WL (some 46) (.load 26 _));refine wpList_load_mid rfl 26 (.tmp 12) rfl b12 0 rfl rc _ (aC (HL.out.b 0)) aJ rfl (by rw[hrc];exact aE) ?_))
  have HLS:=H' HL.out.keep.size;go_wp2_with fail;refine((by rw[←HRC.out];exact vR (fun i e=>HKI2.out.lt e) v u.ptr HPV.out.pt HADL.out:Calls _ _ _ w9 (qF w9 B2 u.ptr))).mono ?_;rintro e wa ⟨ov,rfl,hov,hovn,hk⟩;have HOV:=H' hov;have HON2:=H' (hovn.from HLS.out);have HOFF:=H' (show ∀i,ov.ownBlock=some i->i≠b8 from fun i hi e=>by have:=hovn i hi;have:=(HL.out.lt 2).2;omega);obtain⟨oc,HOCE,hoc,HOOC⟩:=nmPt hov.pt;rw[HOCE.out];clear hov hovn;replace HL:=H' (HL.out.keeps hk);replace HKI2:=H' (HKI2.out.keep0 hk);replace HPV:=H' (aH.keep0 HPV.out hk);replace HCL2:=H' (Cl.onT HCL2.out hk fun _ _=>id);clear hk
  go_wp2_with (first
   | ((with_reducible show WL _ (.store 26 _ _));refine sta 26 (.tmp 8) (.tmp 47) b8 0 oc (HL.out.b 2) (by rw[List.size_toArray,aF,hoc];exact Nat.le_refl _) (by rw[hoc];exact aE) HOOC.out ?_))
  intro w9 hk hb;rw[aL _ _ (by rw[List.size_toArray,aF,hoc])] at hb;have HB8:=H' hb
  have HP:Hid (bC w c B (.slice none 0 0) (some u) T (.returned (.tuple #[.agg oc.toArray,.int .i64 0])) w9):=H' (by
   rw[←HOCE.out];have hg:=HG.out;have nb:∀i,B2 i->i≠b8:=fun i hi e=>HL.out.ap _ (List.mem_of_getElem? (i:=2) rfl) (e▸hi)
   exact⟨ov,B2,rfl,HOV.out.keepT hk HOFF.out,HKI2.out.keepT hk fun i e hb=>nb i hb e,HBB.out,HCL2.out.onT hk nb,.inr HON2.out,(HL.out.keep).trans' hk (fun _ _ h=>h) (fun i hi e=>by omega)⟩)
  clear hk hb HL HKI2 HPV HCL2 HOV;go_wp2_with fail;refine bodyPost_ret (aY rfl _ _ b8 _ _ _ _ rfl HB8.out aJ rfl (by rw[List.size_toArray,hoc];exact aE)) rfl ?_;exact HP.out
theorem C8(w:World):Calls Tryz.prog 12 #[] w (A4 w):=by
 have hzp:(aK (.slice none 0 0) zPt).length=35:=rfl;have hzb:=gG;obtain⟨zp,hzpe⟩:∃l,aK (.slice none 0 0) zPt=l:=⟨_,rfl⟩
 have HOZP:Hid (∀u∈zp,u.oneCell'=true):=H' (by rw[←hzpe];exact bT zPt);have HZPE:=H' hzpe;rw[hzpe] at hzp hzb;have HZB:=H' hzb;clear hzpe hzb;have HL:=H' (Loc.nil aB aB w);go_enter Tryz.func12,Tryz.ntmps12;go_wp2_with fail;refine(xM w 40 (by omega)).mono ?_;rintro e w1 ⟨c,M,B,rfl,hki,hB,hk⟩;have HK:=H' hki;have HBN:=H' hB;have HKW:=H' hk;replace HL:=H' (Loc.nil B B w1);clear hki hB hk;obtain⟨u,S1,hset,hr1,hu⟩:=xF (t:=.hole) (n:=5) (b:=sec 1) (N:=31) (Kor.room_new 40 M 0) (xK (b:=0) (by decide)) (by rw[Tr.blk_hole];exact xK (a:=0) (by decide));have hso:=yQ HK.out.bd (Tr.ok_hole _ 3) (by omega) (dN 1) hset;have HUO:=H' (hso.2 u rfl).1;have HUB:=H' (lR.set lR.hole (hso.2 u rfl).2);have HMN:Hid (((u.many 3:Nat):Int)=1):=H' (by rw[HUB.out.many HUO.out];rfl);have HU5:Hid (decide (u.blk 3 5=sec 1)=true):=H' (decide_eq_true (HUB.out 5 (by omega)));have HU6:Hid (decide (u.blk 3 6=sec 0)=true):=H' (decide_eq_true (HUB.out 6 (by omega)));have HTOP:=H' (HUO.out.top hu);have HTX:Hid (S1.txg=0):=H' hso.1.txg;have HSET:=H' hset;clear hso hset hr1 hu
 go_wp2_with (first
  | ((with_reducible show WL (some 11) (.build _ _));refine bld 26 #[] [] (.agg zp.toArray) HZB.out ?_))
 refine((fO w1 1:Calls _ _ _ w1 (fZ w1 1))).mono ?_;rintro e w2 ⟨v_,rfl,ho,hk⟩;obtain⟨roa,roc,rfl,-,-⟩:=(Rd.of_owns ho).form;have Hro:=H' ho;have HroO:=H' (lS ho (fun i e=>HK.out.lt e));clear ho;replace HL:=H' (HL.out.keeps hk);replace HK:=H' (HK.out.keep0 hk);clear hk
 go_wp2_with (first
  | ((with_reducible show WL (some 11) (.build _ _));refine bld 26 #[] [] (.agg zp.toArray) HZB.out ?_))
 refine((by rw[←HZPE.out];have h:=gR HK.out (.slice none 0 0) .hole (Tr.ok_hole _ 3) (aH.hole _ _) 5 (by omega) (.slice roa 256 roc) (sec 1) (dN 1) (Rd.of_owns Hro.out) HroO.out;rw[HSET.out] at h;exact h:Calls _ _ _ w2 (bC w2 c B (.slice none 0 0) (some u) S1))).mono ?_;rintro e w3 ⟨v,B2,hm1,hpv,hki,hbb2,hcl,hnw,hk⟩;have HPV:=H' hpv;have HK2:=H' hki;have HBB:=H' hbb2;have HBS:=H' HL.out.keep.size;replace HL:=H' (HL.out.turn hk (fun _ _ h=>h) (fun i hi hb=>(hbb2 i hb).elim id fun e=>by omega));replace HPV:Hid (aH w3 B2 v u.ptr):=HPV;subst hm1;rw[show eI (some u)=u.ptr from rfl,show gI (some u)=0 from rfl];obtain⟨rc,HRC,hrc,HORC⟩:=nmPt HPV.out.pt;rw[HRC.out];clear hpv hki hbb2 hcl hnw hk HK Hro
 go_wp2_with (first
  | ((with_reducible show WL (some 11) (.build _ _));refine bld 26 #[] [] (.agg zp.toArray) HZB.out ?_)
  | ((with_reducible show WL (some 2) (.alloc 26));refine al 26 (.agg aI.toArray) (aI.toArray) aX ?_))
 intro b2 w4 hbs hk0 hb0_
 go_wp2_with (first
  | ((with_reducible show WL (some 11) (.build _ _));refine bld 26 #[] [] (.agg zp.toArray) HZB.out ?_)
  | ((with_reducible show WL _ (.store 26 (.tmp 2) (.tmp 14)));refine sta 26 (.tmp 2) (.tmp 14) b2 0 rc hb0_ (by first|decide|(rw[List.size_toArray,hrc];exact Nat.le_refl _)|simp[hrc,aF]) (by rw[hrc];exact aE) HORC.out ?_))
 intro w5 hk hb;rw[aL _ _ (by first|rfl|(rw[List.size_toArray,hrc];rfl)|simp[hrc,aF])] at hb;replace hk:=hk0.trans' hk (U:=aB) (fun _ _ h=>h) (fun i hi e=>by omega);replace HL:=H' (HL.out.new (fun k h=>HK2.out.lt h) hbs hk hb);replace HPV:=H' (aH.keep0 HPV.out hk);replace HK2:=H' (HK2.out.keep0 hk);clear hbs hk hb hk0 hb0_
 go_wp2_with (first
  | ((with_reducible show WL (some 18) (.load 26 _));refine wpList_load_mid rfl 26 (.tmp 2) rfl b2 0 rfl rc _ (aC (HL.out.b 0)) aJ rfl (by rw[hrc];exact aE) ?_))
 refine((by rw[←HRC.out];exact GH HK2.out v u HUO.out HPV.out:Calls _ _ _ w5 (Au w5 u))).mono ?_;rintro e w6 ⟨rfl,hk⟩;replace HL:=H' (HL.out.keeps hk);replace HPV:=H' (aH.keep0 HPV.out hk);replace HK2:=H' (HK2.out.keep0 hk);clear hk;rw[HMN.out];go_wp2_with fail;obtain⟨S,hS0⟩:∃S:World->Prop,S=fun w'=>aA aB w6.drew w':=⟨_,rfl⟩
 have HSE:=H' (show ∀w',S w'->aA aB w6.drew w' from fun w' h=>by rw[hS0] at h;exact h);have HSI:=H' (show ∀w',aA aB w6.drew w'->S w' from fun w' h=>by rw[hS0];exact h);have hS:S w6.drew:=by rw[hS0];exact aA.refl _ _
 have hkd:=(aA.refl aB w6).drew;clear hS0;refine wp_region_held (S:=S) (by kernel_rfl) ?_;change wpAnyH _ _ _ _ _ _ _ _ w6.drew;generalize w6.drew=w7 at HSE HSI hS hkd ⊢;replace HL:=H' (HL.out.keeps hkd);replace HPV:=H' (aH.keep0 HPV.out hkd);replace HK2:=H' (HK2.out.keep0 hkd);clear hkd;have HLs:=HL;have HPVs:=HPV;have HK2s:=HK2;refine tna 0 (.int .i64 0) rfl hS ?_;refine tnb 1 (.bool true) rfl hS ?_;refine tna 2 (.bool true) rfl hS ?_;refine tnb 3 (.pointer (some ⟨b2,2,none⟩)) rfl hS ?_;refine tnd 4 (.int .i64 3) rfl (.inl ⟨by rfl,fun w' hw'=>by have c:World.cell? w' ⟨b2,2,none⟩=some (.int .i64 3):=(aD (i:=2) ((HSE.out w' hw').blk (HLs.out.b 0) id) (by rw[←HRC.out];show some (Value.int .i64 u.ptr.level)=_;rw[HTOP.out.1]));go_simp⟩) hS ?_;refine tnb 5 (.bool true) rfl hS ?_;refine tna 6 (.bool true) rfl hS ?_;refine tna 7 (.bool true) rfl hS ?_;refine tnb 8 (.pointer (some ⟨b2,1,none⟩)) rfl hS ?_;refine tnd 9 (.int .i64 1) rfl (.inl ⟨by rfl,fun w' hw'=>by have c:World.cell? w' ⟨b2,1,none⟩=some (.int .i64 1):=(aD (i:=1) ((HSE.out w' hw').blk (HLs.out.b 0) id) (by rw[←HRC.out];show some (Value.int .i64 u.ptr.birth)=_;rw[show u.ptr.birth=1 from by have:=HTOP.out.2;have:=HTX.out;omega]));go_simp⟩) hS ?_;refine tnb 10 (.bool true) rfl hS ?_;refine tna 11 (.bool true) rfl hS ?_;refine tna 12 (.bool true) rfl hS ?_;refine tna 13 (.int .i64 0) rfl hS ?_;refine tnb 14 (.bool true) rfl hS ?_;refine tna 15 (.bool true) rfl hS ?_;refine tna 16 (.bool true) rfl hS ?_;refine tna 17 (.int .i64 1) rfl hS ?_;refine tnb 18 (.bool true) rfl hS ?_;refine tna 19 (.bool true) rfl hS ?_;refine tna 20 (.bool true) rfl hS ?_;refine tna 21 (.pointer (some ⟨c,0,none⟩)) rfl hS ?_;refine tnd 22 (.agg rc.toArray) rfl (yieldsIf_load_mid (by rfl) 26 (.tmp 2) rfl b2 0 rfl rc _ (fun w' h=>aC ((HSE.out w' h).blk (HLs.out.b 0) id)) aJ rfl (by rw[hrc];exact aE)) hS ?_;refine aG (k:=23) rfl (by kernel_rfl) ?_;go_wp2_with fail;refine((fO w7 1:Calls _ _ _ w7 (fZ w7 1))).mono ?_;rintro e w8 ⟨v_,rfl,ho,hk⟩;obtain⟨rpa,rpc,rfl,-,-⟩:=(Rd.of_owns ho).form;have Hrp:=H' ho;clear ho;have hS1:=HSI.out _ ((HSE.out _ hS).trans hk);replace HL:=H' (HL.out.keeps hk);replace HPV:=H' (aH.keep0 HPV.out hk);replace HK2:=H' (HK2.out.keep0 hk);clear hS hk;go_wp2_with fail;refine⟨hS1,?_⟩;refine aG (k:=24) rfl (by kernel_rfl) ?_;go_wp2_with fail;refine((by rw[←HRC.out];have h:=tI HK2.out v u HUO.out HPV.out 5 (by omega) (.slice rpa 256 rpc) (sec 1) (dN 1) (Rd.of_owns Hrp.out);rw[HU5.out] at h;exact h:Calls _ _ _ w8 (aZ w8 true))).mono ?_;rintro e w9 ⟨rfl,hk⟩;have hS2:=HSI.out _ ((HSE.out _ hS1).trans hk);replace HL:=H' (HL.out.keeps hk);replace HPV:=H' (aH.keep0 HPV.out hk);replace HK2:=H' (HK2.out.keep0 hk);replace Hrp:=H' (hk.owns Hrp.out fun _ _=>id);clear hS1 hk;go_wp2_with fail;refine⟨hS2,?_⟩;refine tna 25 (.bool true) rfl hS2 ?_;refine tna 26 (.bool true) rfl hS2 ?_;refine tna 27 (.pointer (some ⟨c,0,none⟩)) rfl hS2 ?_;refine tnd 28 (.agg rc.toArray) rfl (yieldsIf_load_mid (by rfl) 26 (.tmp 2) rfl b2 0 rfl rc _ (fun w' h=>aC ((HSE.out w' h).blk (HLs.out.b 0) id)) aJ rfl (by rw[hrc];exact aE)) hS2 ?_;refine aG (k:=29) rfl (by kernel_rfl) ?_;go_wp2_with fail;refine((fO w9 0:Calls _ _ _ w9 (fZ w9 0))).mono ?_;rintro e wa ⟨v_,rfl,ho,hk⟩;obtain⟨rqa,rqc,rfl,-,-⟩:=(Rd.of_owns ho).form;have Hrq:=H' ho;clear ho;have hS3:=HSI.out _ ((HSE.out _ hS2).trans hk);replace HL:=H' (HL.out.keeps hk);replace HPV:=H' (aH.keep0 HPV.out hk);replace HK2:=H' (HK2.out.keep0 hk);replace Hrp:=H' (hk.owns Hrp.out fun _ _=>id);clear hS2 hk;go_wp2_with fail;refine⟨hS3,?_⟩;refine aG (k:=30) rfl (by kernel_rfl) ?_;go_wp2_with fail;refine((by rw[←HRC.out];have h:=tI HK2.out v u HUO.out HPV.out 6 (by omega) (.slice rqa 256 rqc) (sec 0) (dN 0) (Rd.of_owns Hrq.out);rw[HU6.out] at h;exact h:Calls _ _ _ wa (aZ wa true))).mono ?_;rintro e wb ⟨rfl,hk⟩;have hS4:=HSI.out _ ((HSE.out _ hS3).trans hk);replace HL:=H' (HL.out.keeps hk);replace HPV:=H' (aH.keep0 HPV.out hk);replace HK2:=H' (HK2.out.keep0 hk);replace Hrp:=H' (hk.owns Hrp.out fun _ _=>id);replace Hrq:=H' (hk.owns Hrq.out fun _ _=>id);clear hS3 hk;go_wp2_with fail;refine⟨hS4,?_⟩;refine tna 31 (.bool true) rfl hS4 ?_;refine tna 32 (.bool true) rfl hS4 ?_;refine wpAnyH_done (by kernel_rfl) ?_ _;clear hS4 HSE HSI HLs HPVs HK2s;have HP:Hid (A4 w (.returned (.bool true)) wb):=H' ⟨rfl,HKW.out.trans' HL.out.keep (fun _ _ h=>h.elim) (fun i hi e=>by have:=HBN.out i e;omega)⟩;clear HL HK2 HPV;go_wp2_with fail;go_ret;exact HP.out
theorem Ja{w:World}{c:Nat}{S:Kor}{B:Nat->Prop}(hK:KI w c S B)(pv:Value)(t:Tr)(ht:Tr.Ok S 3 t)(hp:aH w B pv t.ptr)(n:Int):Calls Tryz.prog 14 #[.pointer (some ⟨c,0,none⟩),.agg (aK pv t.ptr).toArray,.int .i64 n,.slice none 0 0] w (aM w (.tuple #[.agg (aK (.slice none 0 0) zPt).toArray,.int .i64 2])):=by
 have HT:=H' ht;have HPT:=H' hp;have HK:=H' hK;obtain⟨p,hpe⟩:∃p,t.ptr=p:=⟨_,rfl⟩
 have HPE:=H' hpe;rw[hpe] at HPT hp ⊢;obtain⟨pc,HPC,hpc,HOP⟩:=nmPt hp.pt;rw[HPC.out];have hzp:(aK (.slice none 0 0) zPt).length=35:=rfl;have hzb:=gG;obtain⟨zp,hzpe⟩:∃l,aK (.slice none 0 0) zPt=l:=⟨_,rfl⟩
 have HOZP:Hid (∀u∈zp,u.oneCell'=true):=H' (by rw[←hzpe];exact bT zPt);have HZPE:=H' hzpe;rw[hzpe] at hzp hzb;have HZB:=H' hzb;clear hzpe hzb;have HL:=H' (Loc.nil aB aB w);clear hp hpe hK ht;have HPT0:=HPT;have HK0:=HK;go_enter Tryz.func14,Tryz.ntmps14
 go_wp2_with (first
  | ((with_reducible show WL (some 28) (.build _ _));refine bld 26 #[] [] (.agg zp.toArray) HZB.out ?_)
  | ((with_reducible show WL (some 4) (.box 36 _));refine bx 36 (.tmp 0) (#[.pointer (some ⟨c,0,none⟩)]) ?_))
 intro b4 w1 hbs hk hb;replace HL:=H' (HL.out.new (fun _ h=>h.elim) hbs hk hb);replace HPT:=H' (aH.keep0 HPT.out hk);replace HK:=H' (HK.out.keep0 hk);clear hbs hk hb
 go_wp2_with (first
  | ((with_reducible show WL (some 28) (.build _ _));refine bld 26 #[] [] (.agg zp.toArray) HZB.out ?_)
  | ((with_reducible show WL (some 5) (.box 26 _));refine bx 26 (.tmp 1) (pc.toArray) ?_))
 intro b5 w2 hbs hk hb;replace HL:=H' (HL.out.new (fun _ h=>h.elim) hbs hk hb);replace HPT:=H' (aH.keep0 HPT.out hk);replace HK:=H' (HK.out.keep0 hk);clear hbs hk hb
 go_wp2_with (first
  | ((with_reducible show WL (some 28) (.build _ _));refine bld 26 #[] [] (.agg zp.toArray) HZB.out ?_)
  | ((with_reducible show WL (some 8) (.alloc 26));refine al 26 (.agg aI.toArray) (aI.toArray) aX ?_))
 intro b8 w3 hbs hk hb;replace HL:=H' (HL.out.new (fun _ h=>h.elim) hbs hk hb);replace HPT:=H' (aH.keep0 HPT.out hk);replace HK:=H' (HK.out.keep0 hk);clear hbs hk hb
 go_wp2_with (first
  | ((with_reducible show WL (some 28) (.build _ _));refine bld 26 #[] [] (.agg zp.toArray) HZB.out ?_)
  | ((with_reducible show WL (some 9) (.alloc 46));refine al 46 (.int .i64 0) (#[.int .i64 0]) iT ?_))
 intro b9 w4 hbs hk hb;replace HL:=H' (HL.out.new (fun _ h=>h.elim) hbs hk hb);replace HPT:=H' (aH.keep0 HPT.out hk);replace HK:=H' (HK.out.keep0 hk);clear hbs hk hb;have c1:w4.cell? ⟨b4,0,none⟩=some (.pointer (some ⟨c,0,none⟩)):=(aD (i:=0) (HL.out.b 3) rfl)
 go_wp2_with (first
  | ((with_reducible show WL (some 17) (.load 26 _));refine wpList_load_mid rfl 26 (.tmp 5) rfl b5 0 rfl pc _ (aC (HL.out.b 2)) aJ rfl (by rw[hpc];exact aE) ?_)
  | ((with_reducible show WL (some 28) (.build _ _));refine bld 26 #[] [] (.agg zp.toArray) HZB.out ?_))
 clear c1;refine((by rw[←HPC.out];exact fS HK.out pv p HPT.out.pt (by rw[←HPE.out];exact HT.out.root):Calls _ _ _ w4 (aM w4 (.int .i64 0)))).mono ?_;rintro e w5 ⟨rfl,hk⟩;replace HL:=H' (HL.out.keeps hk);replace HPT:=H' (aH.keep0 HPT.out hk);replace HK:=H' (HK.out.keep0 hk);clear hk
 go_wp2_with (first
  | ((with_reducible show WL (some 28) (.build _ _));refine bld 26 #[] [] (.agg zp.toArray) HZB.out ?_)
  | ((with_reducible show WL (some 10) (.alloc 46));refine al 46 (.int .i64 0) (#[.int .i64 0]) iT ?_))
 intro b10 w6 hbs hk0 hb0_
 go_wp2_with (first
  | ((with_reducible show WL (some 28) (.build _ _));refine bld 26 #[] [] (.agg zp.toArray) HZB.out ?_)
  | ((with_reducible show WL _ (.store 46 (.tmp 10) (.tmp 18)));refine sta 46 (.tmp 10) (.tmp 18) b10 0 ([.int .i64 0]) hb0_ (by first|decide|(rw[List.size_toArray,rfl];exact Nat.le_refl _)|simp[]) (by kernel_rfl) (by intro v hv;simp only[List.mem_cons,List.not_mem_nil,or_false] at hv;subst hv;rfl) ?_))
 intro w7 hk hb;replace hb:w7.heap[b10]?=some (.cells #[.int .i64 0] 46 (0,0)):=hb;replace hk:=hk0.trans' hk (U:=aB) (fun _ _ h=>h) (fun i hi e=>by omega);replace HL:=H' (HL.out.new (fun _ h=>h.elim) hbs hk hb);replace HPT:=H' (aH.keep0 HPT.out hk);replace HK:=H' (HK.out.keep0 hk);clear hbs hk hb hk0 hb0_;have c1:w7.cell? ⟨b10,0,none⟩=some (.int .i64 0):=(aD (i:=0) (HL.out.b 0) rfl)
 go_wp2_with (first
  | ((with_reducible show WL (some 28) (.build _ _));refine bld 26 #[] [] (.agg zp.toArray) HZB.out ?_)
  | ((with_reducible show WL _ (.store 26 (.tmp 8) (.tmp 28)));refine sta 26 (.tmp 8) (.tmp 28) b8 0 zp (HL.out.b 2) (by first|decide|(rw[hzp];exact Nat.le_refl _)|simp[hzp,aF]) (by rw[hzp];exact aE) HOZP.out ?_))
 clear c1;intro w8 hk hb;rw[aL _ _ (by first|rfl|simp[hzp,aF])] at hb;replace HL:=H' (HL.out.set 2 hk hb);replace HPT:=H' (aH.keep0 HPT0.out HL.out.keep);replace HK:=H' (HK0.out.keep0 HL.out.keep);clear hk hb
 go_wp2_with (first
  | ((with_reducible show WL (some 28) (.build _ _));refine bld 26 #[] [] (.agg zp.toArray) HZB.out ?_)
  | ((with_reducible show WL _ (.store 46 (.tmp 9) (.const (.int .i64 2))));refine sta 46 (.tmp 9) (.const (.int .i64 2)) b9 0 ([.int .i64 2]) (HL.out.b 1) (by simp) (by kernel_rfl) (by intro v hv;simp only[List.mem_cons,List.not_mem_nil,or_false] at hv;subst hv;rfl) ?_))
 intro w9 hk hb;replace hb:w9.heap[b9]?=some (.cells #[.int .i64 2] 46 (0,0)):=hb;replace HL:=H' (HL.out.set 1 hk hb);replace HPT:=H' (aH.keep0 HPT0.out HL.out.keep);replace HK:=H' (HK0.out.keep0 HL.out.keep);clear hk hb;have HP:Hid (aM w (.tuple #[.agg zp.toArray,.int .i64 2]) (.returned (.tuple #[.agg zp.toArray,.int .i64 2])) w9):=H' ⟨rfl,HL.out.keep⟩;have HB8:=H' (HL.out.b 2);have c9:w9.cell? ⟨b9,0,none⟩=some (.int .i64 2):=aD (i:=0) (HL.out.b 1) rfl;clear HL HK HPT;go_wp2_with fail;refine bodyPost_ret (eR rfl _ _ b8 _ _ _ _ rfl HB8.out aJ rfl (by rw[List.size_toArray,hzp];exact aE) ⟨b9,0,none⟩ (.int .i64 2) rfl (by go_simp)) rfl ?_;have hp:=HP.out;rw[←HZPE.out] at hp ⊢;exact hp
theorem EY{w:World}{c:Nat}{S:Kor}{B:Nat->Prop}(hK:KI w c S B)(pv:Value)(t:Tr)(ht:Tr.Ok S 3 t)(hp:aH w B pv t.ptr)(f g:Int)(hf:0≤f)(hg:g<f):Calls Tryz.prog 15 #[.pointer (some ⟨c,0,none⟩),.agg (aK pv t.ptr).toArray,.int .i64 f,.int .i64 g] w (aM w (.tuple #[.agg (aK (.slice none 0 0) zPt).toArray,.int .i64 5])):=by
 have HT:=H' ht;have HPT:=H' hp;have HK:=H' hK;obtain⟨p,hpe⟩:∃p,t.ptr=p:=⟨_,rfl⟩
 have HPE:=H' hpe;rw[hpe] at HPT hp ⊢;obtain⟨pc,HPC,hpc,HOP⟩:=nmPt hp.pt;rw[HPC.out];have hzp:(aK (.slice none 0 0) zPt).length=35:=rfl;have hzb:=gG;obtain⟨zp,hzpe⟩:∃l,aK (.slice none 0 0) zPt=l:=⟨_,rfl⟩
 have HOZP:Hid (∀u∈zp,u.oneCell'=true):=H' (by rw[←hzpe];exact bT zPt);have HZPE:=H' hzpe;rw[hzpe] at hzp hzb;have HZB:=H' hzb;clear hzpe hzb;have HL:=H' (Loc.nil aB aB w);clear hp hpe hK ht;have h0:¬f<0:=by omega
 have HPT0:=HPT;have HK0:=HK;go_enter Tryz.func15,Tryz.ntmps15
 go_wp2_with (first
  | ((with_reducible show WL (some 32) (.build _ _));refine bld 26 #[] [] (.agg zp.toArray) HZB.out ?_)
  | ((with_reducible show WL (some 4) (.box 36 _));refine bx 36 (.tmp 0) (#[.pointer (some ⟨c,0,none⟩)]) ?_))
 intro b4 w1 hbs hk hb;replace HL:=H' (HL.out.new (fun _ h=>h.elim) hbs hk hb);replace HPT:=H' (aH.keep0 HPT.out hk);replace HK:=H' (HK.out.keep0 hk);clear hbs hk hb
 go_wp2_with (first
  | ((with_reducible show WL (some 32) (.build _ _));refine bld 26 #[] [] (.agg zp.toArray) HZB.out ?_)
  | ((with_reducible show WL (some 5) (.box 26 _));refine bx 26 (.tmp 1) (pc.toArray) ?_))
 intro b5 w2 hbs hk hb;replace HL:=H' (HL.out.new (fun _ h=>h.elim) hbs hk hb);replace HPT:=H' (aH.keep0 HPT.out hk);replace HK:=H' (HK.out.keep0 hk);clear hbs hk hb
 go_wp2_with (first
  | ((with_reducible show WL (some 32) (.build _ _));refine bld 26 #[] [] (.agg zp.toArray) HZB.out ?_)
  | ((with_reducible show WL (some 8) (.alloc 26));refine al 26 (.agg aI.toArray) (aI.toArray) aX ?_))
 intro b8 w3 hbs hk hb;replace HL:=H' (HL.out.new (fun _ h=>h.elim) hbs hk hb);replace HPT:=H' (aH.keep0 HPT.out hk);replace HK:=H' (HK.out.keep0 hk);clear hbs hk hb;have c1:w3.cell? ⟨b4,0,none⟩=some (.pointer (some ⟨c,0,none⟩)):=(aD (i:=0) (HL.out.b 2) rfl)
 go_wp2_with (first
  | ((with_reducible show WL (some 15) (.load 26 _));refine wpList_load_mid rfl 26 (.tmp 5) rfl b5 0 rfl pc _ (aC (HL.out.b 1)) aJ rfl (by rw[hpc];exact aE) ?_)
  | ((with_reducible show WL (some 32) (.build _ _));refine bld 26 #[] [] (.agg zp.toArray) HZB.out ?_))
 clear c1;refine((by rw[←HPC.out];exact fS HK.out pv p HPT.out.pt (by rw[←HPE.out];exact HT.out.root):Calls _ _ _ w3 (aM w3 (.int .i64 0)))).mono ?_;rintro e w4 ⟨rfl,hk⟩;replace HL:=H' (HL.out.keeps hk);replace HPT:=H' (aH.keep0 HPT.out hk);replace HK:=H' (HK.out.keep0 hk);clear hk
 go_wp2_with (first
  | ((with_reducible show WL (some 32) (.build _ _));refine bld 26 #[] [] (.agg zp.toArray) HZB.out ?_)
  | ((with_reducible show WL _ (.store 26 (.tmp 8) (.tmp 32)));refine sta 26 (.tmp 8) (.tmp 32) b8 0 zp (HL.out.b 0) (by first|decide|(rw[hzp];exact Nat.le_refl _)|simp[hzp,aF]) (by rw[hzp];exact aE) HOZP.out ?_))
 intro w5 hk hb;rw[aL _ _ (by first|rfl|simp[hzp,aF])] at hb;replace HL:=H' (HL.out.set 0 hk hb);replace HPT:=H' (aH.keep0 HPT0.out HL.out.keep);replace HK:=H' (HK0.out.keep0 HL.out.keep);clear hk hb;have HP:Hid (aM w (.tuple #[.agg zp.toArray,.int .i64 5]) (.returned (.tuple #[.agg zp.toArray,.int .i64 5])) w5):=H' ⟨rfl,HL.out.keep⟩;have HB8:=H' (HL.out.b 0);clear HL HK HPT;go_wp2_with fail;refine bodyPost_ret (aY rfl _ _ b8 _ _ _ _ rfl HB8.out aJ rfl (by rw[List.size_toArray,hzp];exact aE)) rfl ?_;have hp:=HP.out;rw[←HZPE.out] at hp ⊢;exact hp
end
end Go.Proofs.YtjkbekifgobeaaaGreat
