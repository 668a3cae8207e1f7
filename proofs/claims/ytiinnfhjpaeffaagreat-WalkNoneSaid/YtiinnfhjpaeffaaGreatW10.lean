import Derived.Test.YtiinnfhjpaeffaaGreatW1
import Derived.Test.YtiinnfhjpaeffaaGreatW9
import Derived.Conc.LoneSelectN
namespace Go.Proofs.YtiinnfhjpaeffaaGreat
set_option maxHeartbeats 64000000
set_option maxRecDepth 100000
set_option linter.unusedVariables false
section
open Go.RowKit Go.Maps Go.ChangeMaps
open Go.Conc (run_len_chan)
def AP(w:World)(b D Z:Nat)(L:List Ad)(e:Ending)(w':World):Prop:=
 e=.returned (.tuple #[])/\∃c:Nat->Option Nat,bK w' b c D L/\(∀d,d<D->∃g,c d=some g/\w.heap.size≤g/\fE w' g Z (aY L d Z))/\(∀d e g,d<D->e<D->c d=some g->c e=some g->d=e)/\aA (fun k=>k=b) w w'
structure sB(w:World)(b D Z:Nat)(L:List Ad)(c:Nat->Option Nat)(i:Nat)(w':World):Prop where
 words:bK w' b c D L
 chans:∀d,d<i->∃g,c d=some g/\w.heap.size≤g/\fE w' g Z (aY L d Z)
 inj:∀d e g,d<i->e<i->c d=some g->c e=some g->d=e
 keep:aA (fun k=>k=b) w w'
theorem sB.next{w w' w'':World}{b D Z i g:Nat}{L:List Ad}{c:Nat->Option Nat}(h:sB w b D Z L c i w')(hb:b<w.heap.size)(hw:bK w'' b (fun e=>if e=i then some g else c e) D L)(hch:fE w'' g Z (aY L i Z))(hg:w'.heap.size≤g)(k:aA (fun k=>k=b) w' w'') :
 sB w b D Z L (fun e=>if e=i then some g else c e) (i+1) w'':=by
 have hs:=h.keep.size;refine⟨hw,fun d hd=>?_,fun d e q hd he hq hq'=>?_,h.keep.trans k⟩
 ·by_cases e:d=i
  ·subst e
   exact⟨g,if_pos rfl,by omega,hch⟩
  ·obtain⟨q,h1,h2,h3⟩:=h.chans d (by omega)
   exact⟨q,by rw[←h1];exact if_neg e,h2,h3.keep k (fun e=>by omega)⟩
 ·have hlt:∀d q,d<i->c d=some q->q<w'.heap.size:=fun d q hd hc=>by
   obtain⟨q',h1,-,h3⟩:=h.chans d hd;rw[hc] at h1;cases h1
   exact h3.lt
  by_cases e1:d=i<;>by_cases e2:e=i
  ·omega
  ·simp only[e1,e2,if_true,if_false] at hq hq'
   cases hq
   have:=hlt e g (by omega) hq';omega
  ·simp only[e1,e2,if_true,if_false] at hq hq'
   cases hq'
   have:=hlt d g (by omega) hq;omega
  ·simp only[e1,e2,if_false] at hq hq'
   exact h.inj d e q (by omega) (by omega) hq hq'
theorem Hh(w:World)(a b D Z:Nat)(c:Nat->Option Nat)(L:List Ad)(ht:gI w a (Z:Int) (some ⟨b,0,none⟩) D)(hw:bK w b c D L)(hD:D≤8)(hZ5:5≤Z)(hZ:Z≤4096):Calls Tryz.prog 180 #[.pointer (some ⟨a,0,none⟩)] w (AP w b D Z L):=by
 have hblt:=hw.lt
 have hab:a≠b:=by
  intro e;subst e;obtain⟨cs,h1,-⟩:=hw.row;unfold gI at ht;rw[ht] at h1;cases h1
 have HT:=O ht;have HW:=O hw;have hc1:=ht.c1;have hc0:=ht.c0;clear ht hw;go_in;go_wp2_with fail
 go_loopw [8] (fun i wr=>∃(k:Nat) (c':Nat->Option Nat),k≤D/\i=.int .i64 k/\Hid (sB w b D Z L c' k wr)) (fun i _=>D-(intOf i).toNat)
 case atStart=>exact⟨0,c,Nat.zero_le _,rfl,O ⟨HW.out,fun d h=>absurd h (Nat.not_lt_zero _),fun d e q h=>absurd h (Nat.not_lt_zero _),aA.refl _ _⟩⟩
 case round =>
 obtain⟨k,c',hk,rfl,HI⟩:=hrel;clear hc0 hc1;have hc1:=(HT.out.keep HI.out.keep hab).c1;have hc0:=(HT.out.keep HI.out.keep hab).c0
 by_cases hlt:k<D
 ·have hki:(k:Int)<(D:Int):=by omega
  have hk0:(0:Int)≤(k:Int):=by omega
  have HC:=O (fun wx (kk:aA aB wr wx)=>Hf wx b D c' L (HI.out.words.keep kk id) k Z hlt hZ5 hZ);go_wp2_with fail
  go_still_tail 10,(by kernel_rfl)
  go_wp2_with fail;refine(HC.out _ (aA.refl aB _).drew).mono ?_;rintro e w5 ⟨rfl,g,h1,h2,h3,h4⟩;have HI2:=O (HI.out.next hblt h1 h2 h3 ((aA.refl (fun k=>k=b) wr).drew.trans h4));clear h1 h2 h3 h4 HC;go_wp2
  go_roundw
  case rel=>exact⟨k+1,_,by omega,by go_num,HI2⟩
  case measure=>simp[intOf];omega
 ·obtain rfl:D=k:=by omega
  have hpost:AP w b D Z L (.returned (.tuple #[])) wr:=⟨rfl,c',HI.out.words,HI.out.chans,HI.out.inj,HI.out.keep⟩
  have HPO:=O hpost;clear hpost;go_wp2_with fail
  go_end0
  exact HPO.out
theorem D6(w:World)(lo a b D Z:Nat)(c:Nat->Option Nat)(L:List Ad)(h:dM w lo a b c D Z L):Calls Tryz.prog 220 #[.pointer (some ⟨a,0,none⟩)] w (NU w (bX L D Z)):=by
 have HL:=O h;have hbd:=h.bd;have hD0:D≠0:=by omega
 have HN:=Cq w a D Z _ h.top;rw[decide_eq_false hD0] at HN;have HN:=O HN;clear h hD0;go_in;go_wp2_with fail;refine HN.out.mono ?_;rintro e w1 ⟨rfl,rfl⟩;clear HN;have hc1:=HL.out.top.c1;go_wp2_with fail
 go_loopw [3,12] (fun t i wr=>∃(k:Nat) (pa:Option Addr) (pc:Nat),k≤D/\t=.slice pa k pc/\i=.int .i64 k/\Hid (wr.ownsRow w.heap.size 3 1 (.slice pa k pc) k ((bX L k Z).map fun x=>.int .i64 x))/\Hid (aA aB w wr)) (fun _ i _=>D-(intOf i).toNat)
 case atStart=>exact⟨0,none,0,Nat.zero_le _,rfl,rfl,O (World.ownsRow_nil _ _ _ _),O (aA.refl _ _)⟩
 case round =>
 obtain⟨k,pa,pc,hk,rfl,rfl,HO,HK⟩:=hrel;clear hc1;have hc1:=HK.out.cell HL.out.top.c1 id
 by_cases hlt:k<D
 ·have hki:(k:Int)<(D:Int):=by omega
  have hk0:(0:Int)≤(k:Int):=by omega
  obtain⟨gc,hgc,hch⟩:=HL.out.chans k hlt;have hcc:=HK.out.cell (HL.out.words.chan hlt) id;rw[hgc] at hcc;obtain⟨sn,rn,hg⟩:=hch.keep HK.out id;have hlen:=fun ty=>run_len_chan (P:=Tryz.prog) 251 ty Tryz.underlying251 hg
  have hszb:(((aY L k Z).map fun x=>Value.int .i64 x).toArray).size=(aY L k Z).length:=by rw[List.size_toArray,List.length_map]
  rw[hszb] at hlen;obtain⟨q,hq⟩:∃q,(aY L k Z).length=q:=⟨_,rfl⟩
  rw[hq] at hlen;have HFN:Hid (bX L (k+1) Z=bX L k Z++[(q:Int)]):=O (by unfold bX;rw[List.range_succ,List.map_append,←hq];rfl);have HGB:=O hg;obtain⟨w8,hw8,hk8,hb8,hs8⟩:=aT wr #[.int .i64 (q:Int)] 3;have HR8:Hid (Rd w8 1 (.slice (some ⟨wr.heap.size,0,none⟩) 1 1) 1 [.int .i64 (q:Int)]):=O (eE (n:=1) (size:=1) (vs:=[.int .i64 (q:Int)]) hb8 rfl (by unfold maxLen;omega));have HO8:=O (hk8.owns HO.out fun _ _=>id);have HK8:=O (HK.out.trans hk8);have hsz8:w.heap.size≤w8.heap.size:=HK8.out.size;clear hk8 hb8 hs8 hg hszb hq hch hgc;obtain⟨oo,hoo⟩:∃oo,k*65=oo:=⟨_,rfl⟩
  rw[hoo] at hcc
  go_wp2_with (first
   | (at_builtin;try rw[hw8]
      refine aN rfl (.tmp 15) (.tmp 25) 42 rfl w.heap.size 3 (.int .i64 0) 1 8 Tryz.underlying42 EH rfl (by decide) (.slice pa k pc) k ((bX L k Z).map fun x=>.int .i64 x) rfl HO8.out (.slice (some ⟨wr.heap.size,0,none⟩) 1 1) 1 [.int .i64 (q:Int)] rfl HR8.out (Cr [(q:Int)]) (by unfold maxLen;omega) (by omega) hsz8 ?_;intro v' w5 ho5 hk5 hn5 hb5;obtain⟨va,vc,rfl,-,-⟩:=(Rd.of_owns ho5).form;have HO5:Hid (w5.ownsRow w.heap.size 3 1 (.slice va (k+1) vc) (k+1) ((bX L (k+1) Z).map fun x=>.int .i64 x)):=O (by rw[HFN.out,List.map_append];exact ho5);have HK5:=O (HK8.out.trans' hk5 (U:=aB) (fun _ _ h=>h) (fun i hi e=>by have:=bJ HO8.out e;omega));clear ho5 hk5 hn5 hb5 hw8))
  go_roundw
  case rel=>exact⟨k+1,va,vc,by omega,rfl,by go_num,HO5,HK5⟩
  case measure=>simp[intOf];omega
 ·obtain rfl:D=k:=by omega
  go_wp2;go_ret;exact⟨_,rfl,by rw[jG];exact HO.out,HK.out⟩
end
section
open Go.RowKit Go.Maps Go.ChangeMaps
def bB(L:List Ad)(Z:Nat)(l:List Nat):List Ad:=l.map fun(d:Nat)=>(⟨(d:Int),(aY L d Z).headD 0⟩:Ad)
theorem D9(L:List Ad)(Z:Nat)(l:List Nat)(d:Nat):bB L Z (l++[d])=bB L Z l++[(⟨(d:Int),(aY L d Z).headD 0⟩:Ad)]:=by unfold bB;rw[List.map_append];rfl
theorem lK(L:List Ad)(Z:Nat)(l:List Nat):(bB L Z l).length=l.length:=by simp[bB]
theorem tU{L M:List Ad}{Z d:Nat}:∀{l:List Nat},d ∉ l->aY (M++bB L Z l) d Z=aY M d Z:=by
 intro l hd;refine pH fun s _ _=>?_
 unfold dR;rw[decide_eq_decide,List.mem_append];refine⟨fun h=>h.elim id fun h=>?_,.inl⟩;unfold bB at h;obtain⟨e,he,h2⟩:=List.mem_map.1 h;injection h2 with h3 _
 have:e=d:=by omega
 subst this;exact absurd he hd
theorem dM.take{w w1 w2:World}{lo a b D Z:Nat}{c:Nat->Option Nat}{M:List Ad}(h:dM w lo a b c D Z M){d g:Nat}{x:Int}{r:List Int}(hd:d<D)(hc:c d=some g)(hf:aY M d Z=x::r)
 (h1:fE w1 g Z r) (k1:aA (fun k=>k=g) w w1) (h2:bK w2 b c D (M++[⟨(d:Int),x⟩])) (k2:aA (fun k=>k=b) w1 w2):dM w2 lo a b c D Z (M++[⟨(d:Int),x⟩]):=by
 obtain⟨t,rfl,ht1,ht2,ht3,ht4,ht5⟩:=nA hf
 have hga:g≠a:=by
  rintro rfl;obtain⟨s,rr,h3⟩:=h1;obtain⟨g',h4,h5⟩:=h.chans d hd;rw[hc] at h4;cases h4
  obtain⟨s',r',h6⟩:=h5;have:=h.top;unfold gI at this;rw[h6] at this;cases this
 have hba:b≠a:=by
  rintro rfl;obtain⟨cs,h3,-⟩:=h.words.row;have:=h.top;unfold gI at this;rw[h3] at this;cases this
 have hgb:∀e q,e<D->c e=some q->q≠b:=by
  rintro e q he hq rfl;obtain⟨g',h4,h5⟩:=h.chans e he;rw[hq] at h4;cases h4
  obtain⟨s',r',h6⟩:=h5;obtain⟨cs,h3,-⟩:=h.words.row;rw[h6] at h3;cases h3
 refine⟨(h.top.keep k1 (fun e=>hga e.symm)).keep k2 (fun e=>hba e.symm),h2,fun e he=>?_,h.inj,h.bd,h.lo⟩
 by_cases hed:e=d
 ·subst hed
  exact⟨g,hc,by rw[ht5];exact h1.keep k2 (hgb e g he hc)⟩
 ·obtain⟨q,h4,h5⟩:=h.chans e he
  refine⟨q,h4,?_⟩;rw[Ck hed];exact(h5.keep k1 (fun e2=>hed (h.inj e d q he hd h4 (by rw[hc,e2])))).keep k2 (hgb e q he h4)
theorem M6{w:World}{v:Value}{l:List Nat}(h:Rd w 1 v l.length (nV l)){k x:Nat}(hk:l[k]?=some x):∃g o cap,v=.slice (some ⟨g,o,none⟩) l.length cap/\w.cell? ⟨g,o+k,none⟩=some (.int .i64 (x:Int)):=by
 obtain⟨h0,a,cap,rfl,h1,h2,h3,h4⟩:=h;have hlt:=(List.getElem?_eq_some_iff.1 hk).1;obtain⟨g,o,rfl,hc⟩:=h4 (by unfold nV;rw[List.length_map];omega);exact⟨g,o,cap,rfl,hc k _ (by unfold nV;rw[List.getElem?_map,hk];rfl)⟩
def iE(w:World)(lo a b:Nat)(c:Nat->Option Nat)(D Z:Nat)(L:List Ad)(th:List Bool)(cp:Int)(e:Ending)(w':World):Prop:=
 if jH (bX L D Z) th cp then
  match bV (bX L D Z) th cp.toNat with
  | none=>e=.returned (.tuple #[.slice none 0 0,.int .i64 15])/\aA aB w w'
  | some l=>∃v,e=.returned (.tuple #[v,.int .i64 0])/\dM w' lo a b c D Z (L++bB L Z l)/\w'.ownsRow w.heap.size 82 2 v l.length (aQ (bB L Z l))/\aA (Own a b c D) w w'
 else e=.returned (.tuple #[.slice none 0 0,.int .i64 2])/\aA aB w w'
theorem Ct(w:World)(lo a b D Z:Nat)(c:Nat->Option Nat)(L:List Ad)(h:dM w lo a b c D Z L)(vt:Value)(th:List Bool)(cp:Int)(ht:Rd w 1 vt th.length (th.map Value.bool)) :
 Calls Tryz.prog 182 #[.pointer (some ⟨a,0,none⟩),vt,.int .i64 cp] w (iE w lo a b c D Z L th cp):=by
 have HL:=O h;have HT:=O ht;obtain⟨ta,tc,rfl,-,-⟩:=ht.form;have hbd:=h.bd;have hD0:D≠0:=by omega
 have HN:=Cq w a D Z _ h.top;rw[decide_eq_false hD0] at HN;have HN:=O HN;obtain⟨fr,hfr⟩:∃fr,bX L D Z=fr:=⟨_,rfl⟩
 have HFL:Hid (fr.length=D):=O (by rw[←hfr];exact jG L D Z);have HF:=D6 w lo a b D Z c L h;rw[hfr] at HF;have HF:=O HF;obtain⟨bb,hbb⟩:∃b,jH fr th cp=b:=⟨_,rfl⟩
 obtain⟨o,ho⟩:∃o,bV fr th cp.toNat=o:=⟨_,rfl⟩
 have HBB:=O hbb;have HO:=O ho;have HFR:=O hfr;have HC:=O (fun wx v (k:aA aB w wx) (hr:Rd wx 1 v fr.length (fr.map fun x=>.int .i64 x))=>D8 wx v _ fr th cp hr (ht.keep k fun _ _=>id));clear h ht hD0 hbb ho hfr;go_in;go_wp2_with fail;refine HN.out.mono ?_;rintro e w1 ⟨rfl,rfl⟩;clear HN;go_wp2_with fail;refine HF.out.mono ?_;rintro e w2 ⟨v,rfl,hov,hk2⟩;have HRF:=O (Rd.of_owns hov);have HK2:=O hk2;obtain⟨fa,fc,rfl,-,-⟩:=(Rd.of_owns hov).form;clear hov hk2 HF;rw[HFL.out];have HRFn:=HRF.out;rw[HFL.out] at HRFn;have HC2:=HC.out w2 _ HK2.out HRF.out;rw[HFL.out] at HC2;have HC2:=O HC2;clear HRFn HC;go_wp2_with fail;refine HC2.out.mono ?_;intro e w3 hpost;unfold nO at hpost;rw[HBB.out,HO.out] at hpost;clear HC2;cases bb
 ·rw[if_neg (by decide)] at hpost
  obtain⟨rfl,hk⟩:=hpost;have HK3:=O (HK2.out.trans hk);have HP:Hid (∀e,e=.returned (.tuple #[.slice none 0 0,.int .i64 2])->iE w lo a b c D Z L th cp e w3):=O (fun e he=>by unfold iE;rw[HFR.out,HBB.out,if_neg (by decide)];exact⟨he,HK3.out⟩);clear hk;go_wp2
  go_ret2
  exact HP.out _ rfl
 ·rw[if_pos rfl] at hpost
  cases o with
  | none =>
    obtain⟨rfl,hk⟩:=hpost;have HK3:=O (HK2.out.trans hk);have HP:Hid (∀e,e=.returned (.tuple #[.slice none 0 0,.int .i64 15])->iE w lo a b c D Z L th cp e w3):=O (fun e he=>by unfold iE;rw[HFR.out,HBB.out,if_pos rfl,HO.out];exact⟨he,HK3.out⟩);clear hk;go_wp2
    go_ret2
    exact HP.out _ rfl
  | some l =>
    obtain⟨v,rfl,hnr,hk⟩:=hpost;have hcs:=eZ HO.out;have HND:=O hcs.2.2.2.1
    have HIN:Hid (∀d∈l,d<D/\∃x r,aY L d Z=x::r):=O (fun d hd=>by
     have h1:=(hcs.2.2.2.2 d hd)
     rw[HFL.out] at h1;have h2:=h1.2;unfold eJ at h2;rw[Bool.and_eq_true,decide_eq_true_eq,←HFR.out,qD L h1.1] at h2;refine⟨h1.1,?_⟩;cases e:aY L d Z with
     | nil=>rw[e] at h2;simp at h2
     | cons x r=>exact⟨x,r,rfl⟩)
    have HK3:=O (HK2.out.trans hk);have hnr2:=hnr.of HK2.out;obtain⟨q,hq⟩:∃q,l.length=q:=⟨_,rfl⟩
    have hq8:q≤8:=by
     have h1:=hcs.2.1;have h2:=hcs.2.2.2.1;have h3:l.length≤(List.range D).length:=List.Nodup.length_le_of_subset h2 fun d hd=>List.mem_range.2 (HIN.out d hd).1
     rw[List.length_range] at h3;omega
    have HQ:=O hq;obtain⟨va,vc,rfl,-,-⟩:=hnr2.1.form;have HRL:=O hnr2.1;have HFB:=O hnr2.2
    have HVL:Hid (0<l.length->∀i,(Value.slice va l.length vc).ownBlock=some i->i<w3.heap.size):=O (fun h0 i hi=>by
     obtain⟨j,h1,h2⟩:=hnr2.1.lt (by unfold nV;rw[List.length_map];exact h0);rw[hi] at h1;cases h1
     exact h2)
    have HK33:Hid (aA (Own a b c D) w3 w3):=O (aA.refl _ _);have hw33:=HK3.out.size;rw[hq] at HRL HFB HVL;have HL3:=O (HL.out.keep0 HK3.out);have HOWN:Hid (∀k,Own a b c D k->k<w.heap.size):=O (fun k hk=>(HL.out.own_lt hk).2);clear hk hnr hnr2 hcs hq;rw[HQ.out];go_wp2_with fail
    go_loopw [10,30] (fun t i wr=>∃(k:Nat) (pa:Option Addr) (pc:Nat),k≤q/\t=.slice pa k pc/\i=.int .i64 k/\Hid (dM wr lo a b c D Z (L++bB L Z (l.take k)))/\Hid (wr.ownsRow w3.heap.size 82 2 (.slice pa k pc) k (aQ (bB L Z (l.take k))))/\Hid (aA (Own a b c D) w3 wr)/\Hid (Rd wr 1 (.slice va q vc) q (nV l))) (fun _ i _=>q-(intOf i).toNat)
    case atStart=>exact⟨0,none,0,Nat.zero_le _,rfl,rfl,O (by simpa [bB] using HL3.out),O (World.ownsRow_nil _ _ _ _),HK33,HRL⟩
    case round =>
    clear HL3 HRL;obtain⟨k,pa,pc,hk,rfl,rfl,HLD,HO2,HK,HRL⟩:=hrel
    by_cases hlt:k<q
    ·have hki:(k:Int)<(q:Int):=by omega
     have hk0:(0:Int)≤(k:Int):=by omega
     obtain⟨d,hd⟩:∃d,l[k]?=some d:=⟨l[k]'(by rw[HQ.out];exact hlt),List.getElem?_eq_getElem _⟩
     have hrd:=HRL.out;rw[←HQ.out] at hrd;obtain⟨p,o,cap,hv,hcx⟩:=M6 hrd hd;rw[HQ.out] at hv;have e1:va=some ⟨p,o,none⟩:=by cases hv;rfl
     subst e1;obtain⟨hdD,x,r,hf⟩:=HIN.out d (List.mem_of_getElem? hd);have hTK:l.take (k+1)=l.take k++[d]:=by rw[List.take_add_one,hd];rfl
     have hnk:d ∉ l.take k:=by
      intro hm;obtain⟨j,hj⟩:=List.getElem?_of_mem hm;have hjk:=(List.getElem?_eq_some_iff.1 hj).1;rw[List.length_take] at hjk;rw[List.getElem?_take,if_pos (by omega)] at hj;obtain⟨h1,h2⟩:=List.getElem?_eq_some_iff.1 hj;obtain⟨h3,h4⟩:=List.getElem?_eq_some_iff.1 hd;exact List.pairwise_iff_getElem.1 HND.out j k h1 h3 (by omega) (h2.trans h4.symm)
     have hTT:bB L Z (l.take (k+1))=bB L Z (l.take k)++[(⟨(d:Int),x⟩:Ad)]:=by rw[hTK,D9,hf];rfl
     obtain⟨t,rfl,ht1,ht5,ht2,ht3,ht4⟩:=nA hf;have hfm:aY (L++bB L Z (l.take k)) d Z=(t:Int)::r:=by rw[tU hnk];exact hf
     obtain⟨gc,hgc,hch⟩:=HLD.out.chans d hdD;rw[hfm] at hch;have HCN:=Hc wr b (d*65) gc Z (t:Int) r (by have h:=HLD.out.words.chan hdD;rw[hgc] at h;exact h) hch;have HTT:=O hTT;have HFM:=O hfm;have HCN:=O HCN;have hc1:=HLD.out.top.c1;have hdi:(d:Int)<(D:Int):=by omega
     have hd0:(0:Int)≤(d:Int):=by omega
     have HGC:=O hgc;have HZ:Hid (t<4096):=O (by have:=HL.out.bd;omega);have hgw:gc<w.heap.size:=HOWN.out gc (.inr (.inr ⟨d,hdD,hgc⟩));have hbw:b<w.heap.size:=HOWN.out b (.inr (.inl rfl))
     have HUT:Hid (dR (L++bB L Z (l.take k)) d t=false):=O (by
      have h1:(t:Int)∈aY (L++bB L Z (l.take k)) d Z:=by rw[hfm];exact List.mem_cons_self ..
      obtain⟨s,h2,-,-,h3⟩:=rY.1 h1;have:t=s:=by omega
      subst this;exact h3)
     clear hrd hv hd hf hTK hnk hTT hfm hch ht1 ht5 ht2 ht3 ht4 hgc;obtain⟨M,hM⟩:∃M,L++bB L Z (l.take k)=M:=⟨_,rfl⟩
     have HME:=O hM;rw[hM] at HLD HFM HUT;clear hM;obtain⟨dd,hdd⟩:∃dd,d*65=dd:=⟨_,rfl⟩
     rw[hdd] at HCN;go_wp2_with fail
     try rw[hdd]
     refine HCN.out.mono ?_;rintro e w5 ⟨rfl,hch5,hk5⟩
     have hwd5:=HLD.out.words.keep hk5 (fun e=>by
      obtain⟨s,rr,h3⟩:=hch5;obtain⟨cs,h4,-⟩:=HLD.out.words.row;obtain⟨g',h5,s',r',h6⟩:=HLD.out.chans d hdD;rw[HGC.out] at h5;cases h5
      rw[←e,h4] at h6;cases h6)
     have HTN:=O (AO w5 b D c M (M++[⟨(d:Int),(t:Int)⟩]) hwd5 d t hdD HZ.out (fun e s he hs=>by
      rw[oO]
      by_cases h1:e=d/\s=t
      ·obtain⟨rfl,rfl⟩:=h1
       rw[HUT.out];simp
      ·have:(decide (e=d) && decide (s=t))=false:=by
        rw[Bool.and_eq_false_iff,decide_eq_false_iff_not,decide_eq_false_iff_not]
        by_cases h2:e=d
        ·exact .inr fun h3=>h1 ⟨h2,h3⟩
        ·exact .inl h2
       rw[this];simp))
     have HCH5:=O hch5;have HK5:=O hk5
     have hag:a≠gc:=fun e=>by
      obtain⟨g',h5,s',r',h6⟩:=HLD.out.chans d hdD;rw[HGC.out] at h5;cases h5
      have h7:=HLD.out.top;unfold gI at h7;rw[e,h6] at h7;cases h7
     have hc1:=(HLD.out.top.keep hk5 hag).c1;rw[hdd] at HTN;clear hch5 hk5 hwd5 HCN hag;go_wp2_with fail
     try rw[hdd]
     refine HTN.out.mono ?_;rintro e w6 ⟨rfl,hwd6,hk6⟩;have HL6:=O (HLD.out.take hdD HGC.out HFM.out HCH5.out HK5.out hwd6 hk6);have HO6:=O (hk6.owns (HK5.out.owns HO2.out (fun i hi e=>by have:=bJ HO2.out hi;omega)) (fun i hi e=>by have:=bJ HO2.out hi;omega));have HK6:=O ((HK.out.trans' HK5.out (U:=Own a b c D) (fun _ _ h=>h) (fun i _ h=>.inr (.inr ⟨d,hdD,by rw[HGC.out,h]⟩))).trans' hk6 (U:=Own a b c D) (fun _ _ h=>h) (fun i _ h=>.inr (.inl h)));have HR6:=O ((HRL.out.keep HK5.out (fun i hi e=>by have:=HFB.out i hi;omega)).keep hk6 (fun i hi e=>by have:=HFB.out i hi;omega));clear hwd6 hk6 HTN HCH5 HK5 HLD HO2 HRL HK hc1;obtain⟨w8,hw8,hk8,hb8,hs8⟩:=aT w6 (aO ⟨(d:Int),(t:Int)⟩).toArray 82;have HRN:Hid (Rd w8 2 (.slice (some ⟨w6.heap.size,0,none⟩) 1 1) 1 (aO ⟨(d:Int),(t:Int)⟩)):=O (eE (n:=1) (size:=2) (vs:=aO ⟨(d:Int),(t:Int)⟩) hb8 rfl (by unfold maxLen;omega));have HO8:=O (hk8.owns HO6.out fun _ _=>id);have HK8:=O (HK6.out.trans' hk8 (U:=Own a b c D) (fun _ _ h=>h) (fun _ _ h=>h.elim));have HL8:=O (HL6.out.keep0 hk8);have HR8:=O (HR6.out.keep hk8 fun _ _=>id);have hsz8:w3.heap.size≤w8.heap.size:=HK8.out.size;have HAC:Hid (aQ (bB L Z (l.take (k+1)))=aQ (bB L Z (l.take k))++aO ⟨(d:Int),(t:Int)⟩):=O (by rw[HTT.out,mE,wA]);clear hk8 hb8 hs8 HO6 HK6 HL6 HR6
     go_wp2_with (first
      | ((with_reducible show WL _ (.buildSlice _ 1 _));refine cC rfl 23 82 (.tmp 57) rfl Tryz.underlying23 rC (by decide) (aO ⟨(d:Int),(t:Int)⟩) rfl (by decide) rfl ?_;rw[hw8])
      | (at_builtin;refine aN rfl (.tmp 54) (.tmp 58) 23 rfl w3.heap.size 82 eF 2 16 Tryz.underlying23 rC rfl (by decide) (.slice pa k pc) k (aQ (bB L Z (l.take k))) rfl HO8.out (.slice (some ⟨w6.heap.size,0,none⟩) 1 1) 1 (aO ⟨(d:Int),(t:Int)⟩) rfl HRN.out (bL _) (by unfold maxLen;omega) (by omega) hsz8 ?_
         intro v' w9 ho5 hk5 hn5 hb5;obtain⟨va9,vc9,rfl,-,-⟩:=(Rd.of_owns ho5).form;have HO5:Hid (w9.ownsRow w3.heap.size 82 2 (.slice va9 (k+1) vc9) (k+1) (aQ (bB L Z (l.take (k+1))))):=O (by rw[HAC.out];exact ho5);have HK9:=O (HK8.out.trans' hk5 (U:=Own a b c D) (fun _ _ h=>h) (fun i hi e=>by have:=bJ HO8.out e;omega));have HL9:=O (HL8.out.keep hk5 (fun i hi ho=>by have:=bJ HO8.out hi;have:=HOWN.out i ho;omega));have HR9:=O (HR8.out.keep hk5 (fun i hi e=>by have:=bJ HO8.out e;have:=HVL.out (by omega) i hi;omega));clear ho5 hk5 hn5 hb5 hw8))
     have HLF:Hid (dM w9 lo a b c D Z (L++bB L Z (l.take (k+1)))):=O (by rw[HTT.out,←List.append_assoc,HME.out];exact HL9.out)
     go_roundw
     case rel=>exact⟨k+1,va9,vc9,by omega,rfl,by go_num,HLF,HO5,HK9,HR9⟩
     case measure=>simp[intOf];omega
    ·obtain rfl:q=k:=by omega
     have htk:l.take q=l:=List.take_of_length_le (by rw[HQ.out];exact Nat.le_refl _);have hHL:=HLD.out;have hHO:=HO2.out;rw[htk] at hHL hHO;have HP:Hid (∀e,e=.returned (.tuple #[.slice pa q pc,.int .i64 0])->iE w lo a b c D Z L th cp e wr):=O (fun e he=>by unfold iE;rw[HFR.out,HBB.out,if_pos rfl,HO.out];exact⟨_,he,hHL,by rw[HQ.out];exact aV hHO hw33,HK3.out.trans' HK.out (U:=Own a b c D) (fun _ _ h=>h.elim) (fun _ _ h=>h)⟩);clear hHL hHO htk;go_wp2
     go_ret2
     exact HP.out _ rfl
theorem JO{l m:List Int}(h:l.length=m.length)(he:∀i,i<l.length->l.getD i 0=m.getD i 0):l=m:=by
 refine List.ext_getElem h fun i h1 h2=>?_
 have:=he i h1
 rwa [List.getD_eq_getElem?_getD,List.getD_eq_getElem?_getD,List.getElem?_eq_getElem h1,List.getElem?_eq_getElem h2] at this
theorem wD{M:List Ad}{D Z cp:Nat}{th:List Bool}{l:List Nat}(hc:bV (bX M D Z) th cp=some l){d:Nat}(hd:d∈l):d<D/\∃x r,aY M d Z=x::r:=by
 have h1:=(eZ hc).2.2.2.2 d hd;rw[jG] at h1;have h2:=h1.2;unfold eJ at h2;rw[Bool.and_eq_true,decide_eq_true_eq,qD M h1.1] at h2;refine⟨h1.1,?_⟩;cases e:aY M d Z with
 | nil=>rw[e] at h2;simp at h2
 | cons x r=>exact⟨x,r,rfl⟩
theorem yG{M:List Ad}{Z:Nat}{l:List Nat}{x:Ad}:x∈bB M Z l↔∃d∈l,x=⟨(d:Int),(aY M d Z).headD 0⟩:=by
 unfold bB;rw[List.mem_map];exact⟨fun ⟨d,h1,h2⟩=>⟨d,h1,h2.symm⟩,fun ⟨d,h1,h2⟩=>⟨d,h1,h2.symm⟩⟩
theorem Fz{M:List Ad}{Z d:Nat}{l:List Nat}{x:Int}{r:List Int}(hd:d∈l)(hf:aY M d Z=x::r):aY (M++bB M Z l) d Z=r:=by
 obtain⟨t,rfl,-,-,-,-,h5⟩:=nA hf;rw[←h5];refine pH fun s _ _=>?_
 unfold dR;rw[decide_eq_decide,List.mem_append,List.mem_append,yG,List.mem_singleton];refine or_congr Iff.rfl ⟨?_,fun h=>⟨d,hd,by rw[h,hf];rfl⟩⟩;rintro⟨e,he,h⟩;have e1:d=e:=by have:=congrArg Ad.dev h;simp only at this;omega
 subst e1;rw[h,hf];rfl
theorem wF{M:List Ad}{D Z cp:Nat}{th:List Bool}{l:List Nat}(hc:bV (bX M D Z) th cp=some l):bX (M++bB M Z l) D Z=mB (bX M D Z) l:=by
 have hcs:=eZ hc;refine JO (by rw[Ju,jG,jG]) fun d hd=>?_
 rw[jG] at hd;rw[Jv l _ hcs.2.2.2.1 (fun i hi=>(hcs.2.2.2.2 i hi).1),qD _ hd,qD _ hd]
 by_cases h:d∈l
 ·obtain⟨-,x,r,hf⟩:=wD hc h
  rw[if_pos h,Fz h hf,hf];simp
 ·rw[if_neg h,tU h]
  omega
theorem FA{th:List Bool}{cp:Nat}{fr:List Int}{n:Nat}(h:oL th cp fr (n+1)):∃l,bV fr th cp=some l/\oL th cp (mB fr l) n:=by
 cases h with
 | more h1 h2=>exact⟨_,h1,h2⟩
theorem Hl(L:List Ad)(D Z:Nat):rU (bX L D Z)≤D*Z:=by
 unfold rU bX
 induction D with
 | zero=>simp
 | succ D ih =>
   rw[List.range_succ,List.map_append,List.map_append,List.sum_append,Nat.succ_mul];have:=rZ L D Z;simp only[List.map_cons,List.map_nil,List.sum_cons,List.sum_nil,Int.toNat_natCast];omega
theorem Cu{L:List Ad}{D Z:Nat}{th:List Bool}{cp:Nat}(hb:2≤D/\D≤8/\8≤Z/\Z≤4096)(ht:th.length=D)(h1:1≤cp)(h3:cp≤3):jH (bX L D Z) th (cp:Int)=true:=by
 unfold jH tS;rw[jG];simp only[Bool.and_eq_true,decide_eq_true_eq,List.all_eq_true];refine⟨⟨⟨⟨⟨by omega,by omega⟩,ht⟩,by omega⟩,by omega⟩,fun x hx=>?_⟩;unfold bX at hx;obtain⟨d,-,rfl⟩:=List.mem_map.1 hx;have:=rZ L d Z;exact⟨by omega,by omega⟩
theorem AQ{M:List Ad}{D Z cp:Nat}{th:List Bool}{l:List Nat}(hb:2≤D/\D≤8/\8≤Z/\Z≤4096)(hc:bV (bX M D Z) th cp=some l){x:Ad}(hx:x∈bB M Z l):eV x (D:Int) (Z:Int)=true/\x ∉ M/\∃d t:Nat,x=⟨(d:Int),(t:Int)⟩/\d∈l/\∀s,5≤s->s<t->dR M d s=true:=by
 obtain⟨d,hd,rfl⟩:=yG.1 hx;obtain⟨h1,y,r,hf⟩:=wD hc hd;obtain⟨t,rfl,h2,h3,h4,h5,-⟩:=nA hf;rw[hf];show eV ⟨(d:Int),(t:Int)⟩ _ _=true/\(⟨(d:Int),(t:Int)⟩:Ad) ∉ M/\_;exact⟨LM hb h1 h3 h2,of_decide_eq_false h4,d,t,rfl,hd,h5⟩
theorem Ea{M:List Ad}{D Z cp:Nat}{th:List Bool}{l:List Nat}(hc:bV (bX M D Z) th cp=some l):(bB M Z l).Nodup:=by
 unfold bB;rw[List.Nodup,List.pairwise_map];refine List.Pairwise.imp ?_ (eZ hc).2.2.2.1;intro d e hde h;have:=congrArg Ad.dev h;simp only at this;omega
def iT:Value:=.agg (Array.replicate 64 (.int .u64 0)++#[.chan none])
theorem KY:(Tryz.prog.info? 253).map (fun i=>(i.zero,i.size,i.bytes))=some (some iT,65,520):=by kernel_rfl
theorem zH{w:World}{ops:Array Oper}{rest:List Oper}{o:Oper}{a:Act}{Q:Exit->Act->World->Prop}(hg:o.guard=none)(l c:Operand)(hop:o.op=Op.makeSlice 246 l c)
 (n:Nat) (hl:a.eval l=.int .i64 (n:Int)) (hc:a.eval c=.int .i64 (n:Int)) (b3:n≤8)
 (hK:∀w',bK w' w.heap.size (fun _=>none) n []->aA aB w w'->wpList Tryz.prog ops Q rest (a.put o.dst (.slice (some ⟨w.heap.size,0,none⟩) n n)) w') :
 wpList Tryz.prog ops Q (o::rest) a w:=by
 have h:(Tryz.prog.info? 253).map (fun i=>(i.zero,i.size,i.bytes))=some (some iT,65,520):=KY;obtain⟨i,hi,hz⟩:=Option.map_eq_some_iff.1 h;injection hz with hz0 hz1
 injection hz1 with hz1 hz2
 refine wpList_make_full w hg l c 246 hop w.heap.size 253 i iT 65 Tryz.underlying246 hi hz0 hz1 .i64 .i64 n n n hl hc rfl rfl (by rw[hz2];omega) (by unfold maxLen;omega) (Nat.le_refl _) ?_;intro w' g1 g2;have hk:aA aB w w':=by have:=aA.of_grown g2;exact this.mono fun k _ h=>by cases h
 rcases g1.2 with⟨h1,-⟩|⟨g,cap,cur,h1,h2,h3,h4,h5,h6,h7⟩
 ·cases h1
 ·cases h1
  have hcur:cur=madeCells iT.cells (n*65):=by
   apply Array.toList_inj.1;rw[←h7,List.take_of_length_le (by rw[Array.length_toList,h6];exact Nat.le_refl _)]
  have hat:∀j,j<n*65->cur[j]?=some (iT.cells[j % 65]!):=fun j hj=>by
   rw[hcur];unfold madeCells;rw[Array.getElem?_map,Array.getElem?_range,if_pos hj];show some (iT.cells[j % iT.cells.size]!)=_;rw[show iT.cells.size=65 from by simp[iT,Value.cells]]
  refine hK w' ⟨cur,h3,h6,fun d hd k hk=>⟨0#64,?_,fun j hj=>?_⟩,fun d hd=>?_⟩ hk
  ·rw[hat _ (by omega),show (d*65+k) % 65=k by omega]
   have e:iT.cells[k]! = .int .u64 0:=by
    show (Array.replicate 64 (Value.int .u64 0)++#[Value.chan none])[k]! = _;rw[getElem!_pos _ _ (by simp;omega),Array.getElem_append_left (by simpa using hk),Array.getElem_replicate]
   rw[e];rfl
  ·simp[dR]
  ·rw[hat _ (by omega),show (d*65+64) % 65=64 by omega]
   rfl
def sX(D S:Int)(u:List Ad):Bool:=decide (2≤D) && decide (D≤8) && decide (8≤S) && decide (S≤4096) && u.all fun x=>eV x D S
def pB(w:World)(D S:Int)(u:List Ad)(e:Ending)(w':World):Prop:=
 if sX D S u then ∃a b c,e=.returned (.tuple #[.pointer (some ⟨a,0,none⟩),.int .i64 0])/\dM w' w.heap.size a b c D.toNat S.toNat u/\aA aB w w'
 else e=.returned (.tuple #[.pointer none,.int .i64 2])/\aA aB w w'
theorem Gw(w:World)(D S:Int)(v:Value)(l:List Ad)(hr:Rd w 2 v l.length (aQ l)):Calls Tryz.prog 121 #[.int .i64 D,.int .i64 S,v] w (pB w D S l):=by
 obtain⟨bb,hbb⟩:∃b,sX D S l=b:=⟨_,rfl⟩
 have HBB:=O hbb;have HPB:Hid (bb=false->∀w',aA aB w w'->∀e,e=.returned (.tuple #[.pointer none,.int .i64 2])->pB w D S l e w'):=O (fun h w' k e he=>by unfold pB;rw[hbb,h,if_neg (by decide)];exact⟨he,k⟩);have HPG:Hid (bb=true->∀w' a b c,dM w' w.heap.size a b c D.toNat S.toNat l->aA aB w w'->∀e,e=.returned (.tuple #[.pointer (some ⟨a,0,none⟩),.int .i64 0])->pB w D S l e w'):=O (fun h w' a b c hl k e he=>by unfold pB;rw[hbb,h,if_pos rfl];exact⟨a,b,c,he,hl,k⟩);have HK0:=O (aA.refl aB w);clear hbb;obtain⟨oa,ca,rfl,-,hmm⟩:=hr.form;have hmx_n:l.length≤maxLen:=by have h:=hr.2;obtain⟨a',cap',h1,h2,h3,-⟩:=h;omega
 unfold maxLen at hmx_n;clear hmm;have HR:=O hr;obtain⟨n,hn_n⟩:∃n,l.length=n:=⟨_,rfl⟩
 have HN:=O hn_n;rw[hn_n] at HR hmx_n
 try rw[hn_n]
 clear hr hn_n
 by_cases h1:2≤D
 ·by_cases h2:D≤8
  ·by_cases h3:8≤S
   ·by_cases h4:S≤4096
    ·obtain⟨d,rfl⟩:∃d:Nat,D=(d:Int):=⟨D.toNat,by omega⟩
     obtain⟨z,rfl⟩:∃z:Nat,S=(z:Int):=⟨S.toNat,by omega⟩
     have hbd:2≤d/\d≤8/\8≤z/\z≤4096:=by omega
     have hall:bb=l.all fun x=>eV x (d:Int) (z:Int):=by
      rw[←HBB.out];unfold sX;rw[decide_eq_true h1,decide_eq_true h2,decide_eq_true h3,decide_eq_true h4];rfl
     have HALL:=O hall;have i1:¬(d:Int)<2:=by omega
     have i2:¬8<(d:Int):=by omega
     have i3:¬(z:Int)<8:=by omega
     have i4:¬4096<(z:Int):=by omega
     have d1:decide ((d:Int)<2)=false:=decide_eq_false i1;have d2:decide (8<(d:Int))=false:=decide_eq_false i2;have d3:decide ((z:Int)<8)=false:=decide_eq_false i3;have d4:decide (4096<(z:Int))=false:=decide_eq_false i4;clear hall;go_in
     go_wp2_with (first
      | ((with_reducible show WL _ (.makeSlice _ _ _));refine zH rfl (.tmp 26) (.tmp 26) rfl d rfl rfl (by omega) ?_
         intro w1 hw1 hk1;obtain⟨w2,hw2,hk2,hb2,hs2⟩:=aT w1 #[.int .i64 (z:Int),.slice (some ⟨w.heap.size,0,none⟩) d d] 248;have HW1:=O (hw1.keep hk2 id);have HT1:Hid (gI w2 w1.heap.size (z:Int) (some ⟨w.heap.size,0,none⟩) d):=O hb2;have HK1:=O (hk1.trans hk2);have hbl:=hw1.lt;clear hw1 hk1 hk2 hb2 hs2))
     clear hw2;obtain⟨B,hB⟩:∃B,w.heap.size=B:=⟨_,rfl⟩
     obtain⟨A,hA⟩:∃A,w1.heap.size=A:=⟨_,rfl⟩
     have HBE:=O hB;rw[hB,hA] at HT1 hbl;rw[hB] at HW1 ⊢
     try rw[hA]
     have hAB:A≠B:=by omega
     clear hB hA
     go_loopw [32] (fun i wr=>∃k:Nat,k≤n/\i=.int .i64 k/\Hid (bK wr B (fun _=>none) d (l.take k))/\Hid (gI wr A (z:Int) (some ⟨B,0,none⟩) d)/\Hid (aA aB w wr)/\Hid (((l.take k).all fun x=>eV x (d:Int) (z:Int))=true)) (fun i _=>n-(intOf i).toNat)
     case atStart=>exact⟨0,Nat.zero_le _,rfl,HW1,HT1,HK1,O (by simp)⟩
     case round =>
     clear HW1 HT1 HK1;obtain⟨k,hk,rfl,HW,HT,HK,HA⟩:=hrel
     by_cases hlt:k<n
     ·have hki:(k:Int)<(n:Int):=by omega
      have hk0:(0:Int)≤(k:Int):=by omega
      have HRW:=O (HR.out.keep HK.out fun _ _=>id);have hbw:B<wr.heap.size:=HW.out.lt;obtain⟨x,h_x⟩:∃x,l[k]?=some x:=⟨l[k]'(by rw[HN.out];exact hlt),List.getElem?_eq_getElem _⟩
      have h_r:=HRW.out;rw[←HN.out] at h_r;obtain⟨gl,ol,cap',h_v,h_at⟩:=iX h_r h_x;have e1:oa=some ⟨gl,ol,none⟩:=by cases h_v;rfl
      subst e1;have HX:=O h_at;have HE:=O h_x;clear h_x h_r h_v h_at
      go_wp2_with (first
       | ((with_reducible show WL _ (.load 82 (.tmp 34)));refine wpList_load_mid rfl 82 (.tmp 34) rfl gl (ol+k*2) rfl (aO x) _ HX.out bS rfl bW ?_)
       | ((with_reducible show WL (some 10) (.alloc 82));refine aR rfl 82 rfl eF eC #[.int .i64 0,.int .i64 0] rfl ?_)
       | ((with_reducible show WL none (.store 82 (.tmp 10) (.tmp 35)));refine aP rfl 82 (.tmp 10) (.tmp 35) rfl wr.heap.size 0 (aO x) rfl rfl #[.int .i64 0,.int .i64 0] 82 (heap_alloc_new _ _) (Nat.le_refl _) bW (bL _) ?_
          intro w3 hb3 hk3;rw[aI _ _ (by rfl)] at hb3;have hk4:aA aB wr w3:=((aA.refl aB wr).alloc _).trans' hk3 (fun _ _ h=>h) (fun i hi e=>by omega);have HB3:=O hb3;have HK4:=O hk4;clear hb3 hk3 hk4)
       | ((with_reducible show WL _ (.load 82 (.tmp 10)));refine wpList_load_mid rfl 82 (.tmp 10) rfl wr.heap.size 0 rfl (aO x) _ (aD HB3.out) bS rfl bW ?_))
      have HK3:=O (HK.out.trans HK4.out);have HW3:=O (HW.out.keep HK4.out id);have HT3:=O (HT.out.keep HK4.out id);obtain⟨X,hX⟩:∃X,wr.heap.size=X:=⟨_,rfl⟩
      rw[hX] at HB3 hbw ⊢;have hwX:w.heap.size≤X:=by rw[←hX];exact HK.out.size
      clear hX HX HK4 HW HT HK;have HP:=Hg w3 A d (z:Int) _ HT3.out x;obtain⟨mb,hmb⟩:∃m,eV x (d:Int) (z:Int)=m:=⟨_,rfl⟩
      rw[hmb] at HP;have HMB:=O hmb;have HP:=O HP;clear hmb;refine HP.out.mono ?_;rintro e w4 ⟨rfl,hk4⟩;have HK4:=O (HK3.out.trans hk4);have HW4:=O (HW3.out.keep hk4 id);have HT4:=O (HT3.out.keep hk4 id);have HB4:=O (hk4.blk HB3.out id);clear hk4 HK3 HW3 HT3 HB3 HP;cases mb
      ·have hbf:bb=false:=by
        rw[HALL.out,List.all_eq_false];exact⟨x,List.mem_of_getElem? HE.out,by rw[HMB.out];decide⟩
       go_wp2
       go_ret2
       exact HPB.out hbf _ HK4.out _ rfl
      ·obtain⟨e,s,rfl,hd,h5,hs⟩:=Cp HMB.out
       have HA2:Hid (((l.take (k+1)).all fun x=>eV x (d:Int) (z:Int))=true):=O (by rw[List.take_add_one,HE.out,List.all_append,HA.out];simpa using HMB.out);have HU:=O (fun wx (kk:aA aB w4 wx)=>JI wx B d (fun _=>none) (l.take k) (HW4.out.keep kk id) e s hd (by omega));obtain⟨ub,hub⟩:∃u,dR (l.take k) e s=u:=⟨_,rfl⟩
       rw[hub] at HU;have HUB:=O hub;have hc1:=HT4.out.c1;have hx0:w4.cell? ⟨X,0,none⟩=some (.int .i64 (e:Int)):=aC HB4.out rfl;have hx1:w4.cell? ⟨X,1,none⟩=some (.int .i64 (s:Int)):=aC HB4.out rfl;have hdi:(e:Int)<(d:Int):=by omega
       have hd0:(0:Int)≤(e:Int):=by omega
       clear hub;go_wp2_with fail;obtain⟨S,hS0⟩:∃S:World->Prop,S=fun w'=>aA aB w4 w':=⟨_,rfl⟩
       have HSE:=O (show ∀w',S w'->aA aB w4 w' from fun w' h=>by rw[hS0] at h;exact h);have HSI:=O (show ∀w',aA aB w4 w'->S w' from fun w' h=>by rw[hS0];exact h);have hS:S w4.drew:=by rw[hS0];exact(aA.refl _ _).drew
       clear hS0;refine wp_region_held (S:=S) (by kernel_rfl) ?_;change wpAnyH _ _ _ _ _ _ _ _ w4.drew;generalize w4.drew=wq41 at hS ⊢;refine tka 0 (.pointer (some ⟨A,0,none⟩)) rfl hS ?_;simp only[Act.put,List.setIfInBounds_toArray,List.set_cons_zero,List.set_cons_succ,List.getElem_toArray,List.getElem_cons_zero];refine tnb 1 (.pointer (some ⟨A,0,none⟩)) rfl hS ?_;refine tnb 2 (.pointer (some ⟨A,1,none⟩)) rfl hS ?_;refine tnd 3 (.slice (some ⟨B,0,none⟩) d d) rfl (.inl ⟨by rfl,fun w' hw'=>by have c:=(HSE.out w' hw').cell hc1 id;go_simp⟩) hS ?_;refine tnb 4 (.pointer (some ⟨X,0,none⟩)) rfl hS ?_;refine tnd 5 (.int .i64 (e:Int)) rfl (.inl ⟨by rfl,fun w' hw'=>by have c:=(HSE.out w' hw').cell hx0 id;go_simp⟩) hS ?_;refine tnb 6 (.pointer (some ⟨B,e*65,none⟩)) rfl hS ?_;refine tnb 7 (.pointer (some ⟨X,1,none⟩)) rfl hS ?_;refine tnd 8 (.int .i64 (s:Int)) rfl (.inl ⟨by rfl,fun w' hw'=>by have c:=(HSE.out w' hw').cell hx1 id;go_simp⟩) hS ?_;refine wA9 9 ?_;go_wp2_with fail;refine(HU.out _ (HSE.out _ hS)).mono ?_;rintro e wq42 ⟨rfl,rfl⟩;have hk:=aA.refl aB wq41;have hS1:=HSI.out _ ((HSE.out _ hS).trans hk);clear hS hk;go_wp2_with fail;refine⟨hS1,?_⟩;cases ub
       ·refine tnb 10 (.bool true) rfl hS1 ?_
        refine tna 11 (.bool true) rfl hS1 ?_;refine wpAnyH_done (by kernel_rfl) ?_ _;have HKR:=O (HSE.out _ hS1);clear hS1 HSE HSI;have HK5:=O (HK4.out.trans HKR.out);have HW5:=O (HW4.out.keep HKR.out id);have HT5:=O (HT4.out.keep HKR.out id);have hc1:=HKR.out.cell hc1 id;have hx0:=HKR.out.cell hx0 id;have hx1:=HKR.out.cell hx1 id;clear HKR HU HK4 HW4 HT4 HB4;go_wp2_with fail
        have HC:=O (fun wx (kk:aA aB wq41 wx)=>AO wx B d (fun _=>none) (l.take k) (l.take k++[⟨(e:Int),(s:Int)⟩]) (HW5.out.keep kk id) e s hd (by omega) (fun e' t _ _=>by
         rw[oO]
         by_cases h1:e'=e/\t=s
         ·obtain⟨rfl,rfl⟩:=h1
          rw[HUB.out];simp
         ·have:(decide (e'=e) && decide (t=s))=false:=by
           rw[Bool.and_eq_false_iff,decide_eq_false_iff_not,decide_eq_false_iff_not]
           by_cases h2:e'=e
           ·exact .inr fun h3=>h1 ⟨h2,h3⟩
           ·exact .inl h2
          rw[this];simp))
        obtain⟨dd,hdd⟩:∃dd,e*65=dd:=⟨_,rfl⟩
        rw[hdd] at HC
        go_still_tail 9,(by kernel_rfl)
        go_wp2_with fail
        try rw[hdd]
        refine(HC.out _ (aA.refl aB _).drew).mono ?_;rintro e5 w6 ⟨rfl,hw6,hk6⟩;have HW6:Hid (bK w6 B (fun _=>none) d (l.take (k+1))):=O (by rw[List.take_add_one,HE.out];exact hw6);have hk7:=(aA.refl (fun j=>j=B) wq41).drew.trans hk6;have HT6:=O (HT5.out.keep hk7 hAB);have HK6:=O (HK5.out.trans' hk7 (U:=aB) (fun _ _ h=>h) (fun i hi e=>by have:=HBE.out;omega));clear hw6 hk6 hk7 HC;go_wp2
        go_roundw
        case rel=>exact⟨k+1,by omega,by go_num,HW6,HT6,HK6,HA2⟩
        case measure=>simp[intOf];omega
       ·refine tnb 10 (.bool false) rfl hS1 ?_
        refine tna 11 (.bool false) rfl hS1 ?_;refine wpAnyH_done (by kernel_rfl) ?_ _;have HKR:=O (HSE.out _ hS1);clear hS1 HSE HSI;have HK5:=O (HK4.out.trans HKR.out);have HT5:=O (HT4.out.keep HKR.out id)
        have HW5:Hid (bK _ B (fun _=>none) d (l.take (k+1))):=O ((HW4.out.keep HKR.out id).congr fun y=>by
         rw[List.take_add_one,HE.out];show y∈l.take k↔y∈l.take k++[_];rw[List.mem_append,List.mem_singleton];refine⟨.inl,fun h=>h.elim id fun h=>?_⟩;rw[h];exact of_decide_eq_true HUB.out)
        clear HKR HU;go_wp2
        go_roundw
        case rel=>exact⟨k+1,by omega,by go_num,HW5,HT5,HK5,HA2⟩
        case measure=>simp[intOf];omega
     ·obtain rfl:n=k:=by omega
      have hbt:bb=true:=by
       rw[HALL.out];have h:=HA.out
       rwa [List.take_of_length_le (by rw[HN.out];exact Nat.le_refl _)] at h
      have hw:=HW.out;rw[List.take_of_length_le (by rw[HN.out];exact Nat.le_refl _)] at hw;have hbw:B<wr.heap.size:=hw.lt;have HC:=O (Hh wr A B d z _ l HT.out hw hbd.2.1 (by omega) hbd.2.2.2);clear hw;go_wp2_with fail;refine HC.out.mono ?_;rintro e w6 ⟨rfl,c',g1,g2,g3,g4⟩;have hws:=HK.out.size;have hAw:w.heap.size≤A:=by have:=HBE.out;omega
      have HLD:Hid (dM w6 w.heap.size A B c' ((d:Int).toNat) ((z:Int).toNat) l):=O (by
       rw[Int.toNat_natCast,Int.toNat_natCast];refine⟨HT.out.keep g4 hAB,g1,fun d' hd=>?_,g3,hbd,hAw,by have:=HBE.out;omega,fun d' g hd hg=>?_⟩
       ·obtain⟨g,h5,-,h6⟩:=g2 d' hd
        exact⟨g,h5,h6⟩
       ·obtain⟨g',h5,h6,-⟩:=g2 d' hd
        rw[hg] at h5;cases h5
        omega)
      have HKF:=O (HK.out.trans' g4 (U:=aB) (fun _ _ h=>h) (fun i hi e=>by have:=HBE.out;omega));clear g1 g2 g3 g4 HC;go_wp2
      go_ret2
      exact HPG.out hbt _ _ _ _ HLD.out HKF.out _ rfl
    ·have hbf:bb=false:=by
      rw[←HBB.out];unfold sX;simp[h4]
     have i1:¬D<2:=by omega
     have i2:¬8<D:=by omega
     have i3:¬S<8:=by omega
     have i4:4096<S:=by omega
     have d1:decide (D<2)=false:=decide_eq_false i1;have d2:decide (8<D)=false:=decide_eq_false i2;have d3:decide (S<8)=false:=decide_eq_false i3;have d4:decide (4096<S)=true:=decide_eq_true i4;go_in;go_wp2
     go_ret2
     exact HPB.out hbf _ HK0.out _ rfl
   ·have hbf:bb=false:=by
     rw[←HBB.out];unfold sX;simp[h3]
    have i1:¬D<2:=by omega
    have i2:¬8<D:=by omega
    have i3:S<8:=by omega
    have d1:decide (D<2)=false:=decide_eq_false i1;have d2:decide (8<D)=false:=decide_eq_false i2;have d3:decide (S<8)=true:=decide_eq_true i3;go_in;go_wp2
    go_ret2
    exact HPB.out hbf _ HK0.out _ rfl
  ·have hbf:bb=false:=by
    rw[←HBB.out];unfold sX;simp[h2]
   have i1:¬D<2:=by omega
   have i2:8<D:=by omega
   have d1:decide (D<2)=false:=decide_eq_false i1;have d2:decide (8<D)=true:=decide_eq_true i2;go_in;go_wp2
   go_ret2
   exact HPB.out hbf _ HK0.out _ rfl
 ·have hbf:bb=false:=by
   rw[←HBB.out];unfold sX;simp[h1]
  have i1:D<2:=by omega
  have d1:decide (D<2)=true:=decide_eq_true i1;go_in;go_wp2
  go_ret2
  exact HPB.out hbf _ HK0.out _ rfl
end
end Go.Proofs.YtiinnfhjpaeffaaGreat
