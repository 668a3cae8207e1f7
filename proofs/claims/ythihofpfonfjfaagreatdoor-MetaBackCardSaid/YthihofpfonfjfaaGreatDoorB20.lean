/- A part of the proof. Conditions: those told. -/
import Derived.Test.YthihofpfonfjfaaGreatDoorB1
import Derived.Test.YthihofpfonfjfaaGreatDoorB19
import Derived.Conc.LoneSelectN
namespace Go.Proofs.YthihofpfonfjfaaGreatDoor
set_option maxHeartbeats 64000000
set_option maxRecDepth 100000
set_option linter.unusedVariables false
section
open Go.RowKit Go.Maps Go.ChangeMaps
open Go.Conc (run_len_chan)
def AQ(w:World)(b D Z:Nat)(L:List Ad)(e:Ending)(w':World):Prop:=
 e=.returned (.tuple #[])/\∃c:Nat->Option Nat,bF w' b c D L/\(∀d,d<D->∃g,c d=some g/\w.heap.size≤g/\fA w' g Z (aV L d Z))/\(∀d e g,d<D->e<D->c d=some g->c e=some g->d=e)/\aA (fun k=>k=b) w w'
structure rM(w:World)(b D Z:Nat)(L:List Ad)(c:Nat->Option Nat)(i:Nat)(w':World):Prop where
 words:bF w' b c D L
 chans:∀d,d<i->∃g,c d=some g/\w.heap.size≤g/\fA w' g Z (aV L d Z)
 inj:∀d e g,d<i->e<i->c d=some g->c e=some g->d=e
 keep:aA (fun k=>k=b) w w'
theorem rM.next{w w' w'':World}{b D Z i g:Nat}{L:List Ad}{c:Nat->Option Nat}(h:rM w b D Z L c i w')(hb:b<w.heap.size)(hw:bF w'' b (fun e=>if e=i then some g else c e) D L)(hch:fA w'' g Z (aV L i Z))(hg:w'.heap.size≤g)(k:aA (fun k=>k=b) w' w'') :
 rM w b D Z L (fun e=>if e=i then some g else c e) (i+1) w'':=by
 have hs:=h.keep.size;refine⟨hw,fun d hd=>?_,fun d e q hd he hq hq'=>?_,h.keep.trans k⟩
 ·by_cases e:d=i
  ·subst e
   exact⟨g,if_pos rfl,by omega,hch⟩
  ·obtain⟨q,h1,h2,h3⟩:=h.chans d (by omega)
   exact⟨q,by rw[←h1];exact if_neg e,h2,h3.keep k (fun e=>by omega)⟩
 ·have hlt:∀d q,d<i->c d=some q->q<w'.heap.size:=fun d q hd hc=>by
   obtain⟨q',h1,-,h3⟩:=h.chans d hd;rw[hc] at h1;cases h1
   exact h3.lt
  by_cases e1:d=i<;>by_cases e2:e=i
  ·omega
  ·simp only[e1,e2,if_true,if_false] at hq hq'
   cases hq
   have:=hlt e g (by omega) hq';omega
  ·simp only[e1,e2,if_true,if_false] at hq hq'
   cases hq'
   have:=hlt d g (by omega) hq;omega
  ·simp only[e1,e2,if_false] at hq hq'
   exact h.inj d e q (by omega) (by omega) hq hq'
theorem G7(w:World)(a b D Z:Nat)(c:Nat->Option Nat)(L:List Ad)(ht:gJ w a (Z:Int) (some ⟨b,0,none⟩) D)(hw:bF w b c D L)(hD:D≤8)(hZ5:5≤Z)(hZ:Z≤4096):Calls Tryz.prog 138 #[.pointer (some ⟨a,0,none⟩)] w (AQ w b D Z L):=by
 have hblt:=hw.lt
 have hab:a≠b:=by
  intro e;subst e;obtain⟨cs,h1,-⟩:=hw.row;unfold gJ at ht;rw[ht] at h1;cases h1
 have HT:=O ht;have HW:=O hw;have hc1:=ht.c1;have hc0:=ht.c0;clear ht hw;go_enter Tryz.func138,Tryz.ntmps138;go_wp2_with fail
 go_loopw [8] (fun i wr=>∃(k:Nat) (c':Nat->Option Nat),k≤D/\i=.int .i64 k/\Hid (rM w b D Z L c' k wr)) (fun i _=>D-(intOf i).toNat)
 case atStart=>exact⟨0,c,Nat.zero_le _,rfl,O ⟨HW.out,fun d h=>absurd h (Nat.not_lt_zero _),fun d e q h=>absurd h (Nat.not_lt_zero _),aA.refl _ _⟩⟩
 case round =>
 obtain⟨k,c',hk,rfl,HI⟩:=hrel;clear hc0 hc1;have hc1:=(HT.out.keep HI.out.keep hab).c1;have hc0:=(HT.out.keep HI.out.keep hab).c0
 by_cases hlt:k<D
 ·have hki:(k:Int)<(D:Int):=by omega
  have hk0:(0:Int)≤(k:Int):=by omega
  have HC:=O (fun wx (kk:aA aB wr wx)=>G5 wx b D c' L (HI.out.words.keep kk id) k Z hlt hZ5 hZ);go_wp2_with fail
  go_still_tail 10,(by kernel_rfl)
  go_wp2_with fail;refine(HC.out _ (aA.refl aB _).drew).mono ?_;rintro e w5 ⟨rfl,g,h1,h2,h3,h4⟩;have HI2:=O (HI.out.next hblt h1 h2 h3 ((aA.refl (fun k=>k=b) wr).drew.trans h4));clear h1 h2 h3 h4 HC;go_wp2_with fail
  go_roundw
  case rel=>exact⟨k+1,_,by omega,by go_num,HI2⟩
  case measure=>simp[intOf];omega
 ·obtain rfl:D=k:=by omega
  have hpost:AQ w b D Z L (.returned (.tuple #[])) wr:=⟨rfl,c',HI.out.words,HI.out.chans,HI.out.inj,HI.out.keep⟩
  have HPO:=O hpost;clear hpost;go_wp2_with fail
  go_end0
  exact HPO.out
theorem vK(w:World)(lo a b D Z:Nat)(c:Nat->Option Nat)(L:List Ad)(h:cP w lo a b c D Z L):Calls Tryz.prog 52 #[.pointer (some ⟨a,0,none⟩)] w (M3 w (bU L D Z)):=by
 have HL:=O h;have hbd:=h.bd;have hD0:D≠0:=by omega
 have HN:=wL w a D Z _ h.top;rw[decide_eq_false hD0] at HN;have HN:=O HN;clear h hD0;go_enter Tryz.func52,Tryz.ntmps52;go_wp2_with fail;refine HN.out.mono ?_;rintro e w1 ⟨rfl,rfl⟩;clear HN;have hc1:=HL.out.top.c1;go_wp2_with fail
 go_loopw [3,12] (fun t i wr=>∃(k:Nat) (pa:Option Addr) (pc:Nat),k≤D/\t=.slice pa k pc/\i=.int .i64 k/\Hid (wr.ownsRow w.heap.size 3 1 (.slice pa k pc) k ((bU L k Z).map fun x=>.int .i64 x))/\Hid (aA aB w wr)) (fun _ i _=>D-(intOf i).toNat)
 case atStart=>exact⟨0,none,0,Nat.zero_le _,rfl,rfl,O (World.ownsRow_nil _ _ _ _),O (aA.refl _ _)⟩
 case round =>
 obtain⟨k,pa,pc,hk,rfl,rfl,HO,HK⟩:=hrel;clear hc1;have hc1:=HK.out.cell HL.out.top.c1 id
 by_cases hlt:k<D
 ·have hki:(k:Int)<(D:Int):=by omega
  have hk0:(0:Int)≤(k:Int):=by omega
  obtain⟨gc,hgc,hch⟩:=HL.out.chans k hlt;have hcc:=HK.out.cell (HL.out.words.chan hlt) id;rw[hgc] at hcc;obtain⟨sn,rn,hg⟩:=hch.keep HK.out id;have hlen:=fun ty=>run_len_chan (P:=Tryz.prog) 148 ty Tryz.underlying148 hg
  have hszb:(((aV L k Z).map fun x=>Value.int .i64 x).toArray).size=(aV L k Z).length:=by rw[List.size_toArray,List.length_map]
  rw[hszb] at hlen;obtain⟨q,hq⟩:∃q,(aV L k Z).length=q:=⟨_,rfl⟩
  rw[hq] at hlen;have HFN:Hid (bU L (k+1) Z=bU L k Z++[(q:Int)]):=O (by unfold bU;rw[List.range_succ,List.map_append,←hq];rfl);have HGB:=O hg;obtain⟨w8,hw8,hk8,hb8,hs8⟩:=aU wr #[.int .i64 (q:Int)] 3;have HR8:Hid (Rd w8 1 (.slice (some ⟨wr.heap.size,0,none⟩) 1 1) 1 [.int .i64 (q:Int)]):=O (cG (n:=1) (size:=1) (vs:=[.int .i64 (q:Int)]) hb8 rfl (by unfold maxLen;omega));have HO8:=O (hk8.owns HO.out fun _ _=>id);have HK8:=O (HK.out.trans hk8);have hsz8:w.heap.size≤w8.heap.size:=HK8.out.size;clear hk8 hb8 hs8 hg hszb hq hch hgc;obtain⟨oo,hoo⟩:∃oo,k*65=oo:=⟨_,rfl⟩
  rw[hoo] at hcc
  go_wp2_with (first
   | (at_builtin;try rw[hw8]
      refine aI rfl (.tmp 15) (.tmp 25) 60 rfl w.heap.size 3 (.int .i64 0) 1 8 Tryz.underlying60 zY rfl (by decide) (.slice pa k pc) k ((bU L k Z).map fun x=>.int .i64 x) rfl HO8.out (.slice (some ⟨wr.heap.size,0,none⟩) 1 1) 1 [.int .i64 (q:Int)] rfl HR8.out (tM [(q:Int)]) (by unfold maxLen;omega) (by omega) hsz8 ?_;intro v' w5 ho5 hk5 hn5 hb5;obtain⟨va,vc,rfl,-,-⟩:=(Rd.of_owns ho5).form;have HO5:Hid (w5.ownsRow w.heap.size 3 1 (.slice va (k+1) vc) (k+1) ((bU L (k+1) Z).map fun x=>.int .i64 x)):=O (by rw[HFN.out,List.map_append];exact ho5);have HK5:=O (HK8.out.trans' hk5 (U:=aB) (fun _ _ h=>h) (fun i hi e=>by have:=bE HO8.out e;omega));clear ho5 hk5 hn5 hb5 hw8))
  go_roundw
  case rel=>exact⟨k+1,va,vc,by omega,rfl,by go_num,HO5,HK5⟩
  case measure=>simp[intOf];omega
 ·obtain rfl:D=k:=by omega
  go_wp2_with fail;go_ret;exact⟨_,rfl,by rw[jF];exact HO.out,HK.out⟩
end
section
open Go.RowKit Go.Maps Go.ChangeMaps
def bB(L:List Ad)(Z:Nat)(l:List Nat):List Ad:=l.map fun(d:Nat)=>(⟨(d:Int),(aV L d Z).headD 0⟩:Ad)
theorem DK(L:List Ad)(Z:Nat)(l:List Nat)(d:Nat):bB L Z (l++[d])=bB L Z l++[(⟨(d:Int),(aV L d Z).headD 0⟩:Ad)]:=by unfold bB;rw[List.map_append];rfl
theorem nZ(L:List Ad)(Z:Nat)(l:List Nat):(bB L Z l).length=l.length:=by simp[bB]
theorem tP{L M:List Ad}{Z d:Nat}:∀{l:List Nat},d ∉ l->aV (M++bB L Z l) d Z=aV M d Z:=by
 intro l hd;refine lE fun s _ _=>?_
 unfold dM;rw[decide_eq_decide,List.mem_append];refine⟨fun h=>h.elim id fun h=>?_,.inl⟩;unfold bB at h;obtain⟨e,he,h2⟩:=List.mem_map.1 h;injection h2 with h3 _
 have:e=d:=by omega
 subst this;exact absurd he hd
theorem cP.take{w w1 w2:World}{lo a b D Z:Nat}{c:Nat->Option Nat}{M:List Ad}(h:cP w lo a b c D Z M){d g:Nat}{x:Int}{r:List Int}(hd:d<D)(hc:c d=some g)(hf:aV M d Z=x::r)
 (h1:fA w1 g Z r) (k1:aA (fun k=>k=g) w w1) (h2:bF w2 b c D (M++[⟨(d:Int),x⟩])) (k2:aA (fun k=>k=b) w1 w2):cP w2 lo a b c D Z (M++[⟨(d:Int),x⟩]):=by
 obtain⟨t,rfl,ht1,ht2,ht3,ht4,ht5⟩:=mG hf
 have hga:g≠a:=by
  rintro rfl;obtain⟨s,rr,h3⟩:=h1;obtain⟨g',h4,h5⟩:=h.chans d hd;rw[hc] at h4;cases h4
  obtain⟨s',r',h6⟩:=h5;have:=h.top;unfold gJ at this;rw[h6] at this;cases this
 have hba:b≠a:=by
  rintro rfl;obtain⟨cs,h3,-⟩:=h.words.row;have:=h.top;unfold gJ at this;rw[h3] at this;cases this
 have hgb:∀e q,e<D->c e=some q->q≠b:=by
  rintro e q he hq rfl;obtain⟨g',h4,h5⟩:=h.chans e he;rw[hq] at h4;cases h4
  obtain⟨s',r',h6⟩:=h5;obtain⟨cs,h3,-⟩:=h.words.row;rw[h6] at h3;cases h3
 refine⟨(h.top.keep k1 (fun e=>hga e.symm)).keep k2 (fun e=>hba e.symm),h2,fun e he=>?_,h.inj,h.bd,h.lo⟩
 by_cases hed:e=d
 ·subst hed
  exact⟨g,hc,by rw[ht5];exact h1.keep k2 (hgb e g he hc)⟩
 ·obtain⟨q,h4,h5⟩:=h.chans e he
  refine⟨q,h4,?_⟩;rw[CA hed];exact(h5.keep k1 (fun e2=>hed (h.inj e d q he hd h4 (by rw[hc,e2])))).keep k2 (hgb e q he h4)
theorem Hb{w:World}{v:Value}{l:List Nat}(h:Rd w 1 v l.length (nV l)){k x:Nat}(hk:l[k]?=some x):∃g o cap,v=.slice (some ⟨g,o,none⟩) l.length cap/\w.cell? ⟨g,o+k,none⟩=some (.int .i64 (x:Int)):=by
 obtain⟨h0,a,cap,rfl,h1,h2,h3,h4⟩:=h;have hlt:=(List.getElem?_eq_some_iff.1 hk).1;obtain⟨g,o,rfl,hc⟩:=h4 (by unfold nV;rw[List.length_map];omega);exact⟨g,o,cap,rfl,hc k _ (by unfold nV;rw[List.getElem?_map,hk];rfl)⟩
def iG(w:World)(lo a b:Nat)(c:Nat->Option Nat)(D Z:Nat)(L:List Ad)(th:List Bool)(cp:Int)(e:Ending)(w':World):Prop:=
 if gZ (bU L D Z) th cp then
  match bT (bU L D Z) th cp.toNat with
  | none=>e=.returned (.tuple #[.slice none 0 0,.int .i64 15])/\aA aB w w'
  | some l=>∃v,e=.returned (.tuple #[v,.int .i64 0])/\cP w' lo a b c D Z (L++bB L Z l)/\w'.ownsRow w.heap.size 49 2 v l.length (aT (bB L Z l))/\aA (Own a b c D) w w'
 else e=.returned (.tuple #[.slice none 0 0,.int .i64 2])/\aA aB w w'
theorem CG(w:World)(lo a b D Z:Nat)(c:Nat->Option Nat)(L:List Ad)(h:cP w lo a b c D Z L)(vt:Value)(th:List Bool)(cp:Int)(ht:Rd w 1 vt th.length (th.map Value.bool)) :
 Calls Tryz.prog 151 #[.pointer (some ⟨a,0,none⟩),vt,.int .i64 cp] w (iG w lo a b c D Z L th cp):=by
 have HL:=O h;have HT:=O ht;obtain⟨ta,tc,rfl,-,-⟩:=ht.form;have hbd:=h.bd;have hD0:D≠0:=by omega
 have HN:=wL w a D Z _ h.top;rw[decide_eq_false hD0] at HN;have HN:=O HN;obtain⟨fr,hfr⟩:∃fr,bU L D Z=fr:=⟨_,rfl⟩
 have HFL:Hid (fr.length=D):=O (by rw[←hfr];exact jF L D Z);have HF:=vK w lo a b D Z c L h;rw[hfr] at HF;have HF:=O HF;obtain⟨bb,hbb⟩:∃b,gZ fr th cp=b:=⟨_,rfl⟩
 obtain⟨o,ho⟩:∃o,bT fr th cp.toNat=o:=⟨_,rfl⟩
 have HBB:=O hbb;have HO:=O ho;have HFR:=O hfr;have HC:=O (fun wx v (k:aA aB w wx) (hr:Rd wx 1 v fr.length (fr.map fun x=>.int .i64 x))=>DJ wx v _ fr th cp hr (ht.keep k fun _ _=>id));clear h ht hD0 hbb ho hfr;go_enter Tryz.func151,Tryz.ntmps151;go_wp2_with fail;refine HN.out.mono ?_;rintro e w1 ⟨rfl,rfl⟩;clear HN;go_wp2_with fail;refine HF.out.mono ?_;rintro e w2 ⟨v,rfl,hov,hk2⟩;have HRF:=O (Rd.of_owns hov);have HK2:=O hk2;obtain⟨fa,fc,rfl,-,-⟩:=(Rd.of_owns hov).form;clear hov hk2 HF;rw[HFL.out];have HRFn:=HRF.out;rw[HFL.out] at HRFn;have HC2:=HC.out w2 _ HK2.out HRF.out;rw[HFL.out] at HC2;have HC2:=O HC2;clear HRFn HC;go_wp2_with fail;refine HC2.out.mono ?_;intro e w3 hpost;unfold mV at hpost;rw[HBB.out,HO.out] at hpost;clear HC2;cases bb
 ·rw[if_neg (by decide)] at hpost
  obtain⟨rfl,hk⟩:=hpost;have HK3:=O (HK2.out.trans hk);have HP:Hid (∀e,e=.returned (.tuple #[.slice none 0 0,.int .i64 2])->iG w lo a b c D Z L th cp e w3):=O (fun e he=>by unfold iG;rw[HFR.out,HBB.out,if_neg (by decide)];exact⟨he,HK3.out⟩);clear hk;go_wp2_with fail
  go_ret2
  exact HP.out _ rfl
 ·rw[if_pos rfl] at hpost
  cases o with
  | none =>
    obtain⟨rfl,hk⟩:=hpost;have HK3:=O (HK2.out.trans hk);have HP:Hid (∀e,e=.returned (.tuple #[.slice none 0 0,.int .i64 15])->iG w lo a b c D Z L th cp e w3):=O (fun e he=>by unfold iG;rw[HFR.out,HBB.out,if_pos rfl,HO.out];exact⟨he,HK3.out⟩);clear hk;go_wp2_with fail
    go_ret2
    exact HP.out _ rfl
  | some l =>
    obtain⟨v,rfl,hnr,hk⟩:=hpost;have hcs:=eJ HO.out;have HND:=O hcs.2.2.2.1
    have HIN:Hid (∀d∈l,d<D/\∃x r,aV L d Z=x::r):=O (fun d hd=>by
     have h1:=(hcs.2.2.2.2 d hd)
     rw[HFL.out] at h1;have h2:=h1.2;unfold dV at h2;rw[Bool.and_eq_true,decide_eq_true_eq,←HFR.out,pO L h1.1] at h2;refine⟨h1.1,?_⟩;cases e:aV L d Z with
     | nil=>rw[e] at h2;simp at h2
     | cons x r=>exact⟨x,r,rfl⟩)
    have HK3:=O (HK2.out.trans hk);have hnr2:=hnr.of HK2.out;obtain⟨q,hq⟩:∃q,l.length=q:=⟨_,rfl⟩
    have hq8:q≤8:=by
     have h1:=hcs.2.1;have h2:=hcs.2.2.2.1;have h3:l.length≤(List.range D).length:=List.Nodup.length_le_of_subset h2 fun d hd=>List.mem_range.2 (HIN.out d hd).1
     rw[List.length_range] at h3;omega
    have HQ:=O hq;obtain⟨va,vc,rfl,-,-⟩:=hnr2.1.form;have HRL:=O hnr2.1;have HFB:=O hnr2.2
    have HVL:Hid (0<l.length->∀i,(Value.slice va l.length vc).ownBlock=some i->i<w3.heap.size):=O (fun h0 i hi=>by
     obtain⟨j,h1,h2⟩:=hnr2.1.lt (by unfold nV;rw[List.length_map];exact h0);rw[hi] at h1;cases h1
     exact h2)
    have HK33:Hid (aA (Own a b c D) w3 w3):=O (aA.refl _ _);have hw33:=HK3.out.size;rw[hq] at HRL HFB HVL;have HL3:=O (HL.out.keep0 HK3.out);have HOWN:Hid (∀k,Own a b c D k->k<w.heap.size):=O (fun k hk=>(HL.out.own_lt hk).2);clear hk hnr hnr2 hcs hq;rw[HQ.out];go_wp2_with fail
    go_loopw [10,30] (fun t i wr=>∃(k:Nat) (pa:Option Addr) (pc:Nat),k≤q/\t=.slice pa k pc/\i=.int .i64 k/\Hid (cP wr lo a b c D Z (L++bB L Z (l.take k)))/\Hid (wr.ownsRow w3.heap.size 49 2 (.slice pa k pc) k (aT (bB L Z (l.take k))))/\Hid (aA (Own a b c D) w3 wr)/\Hid (Rd wr 1 (.slice va q vc) q (nV l))) (fun _ i _=>q-(intOf i).toNat)
    case atStart=>exact⟨0,none,0,Nat.zero_le _,rfl,rfl,O (by simpa [bB] using HL3.out),O (World.ownsRow_nil _ _ _ _),HK33,HRL⟩
    case round =>
    clear HL3 HRL;obtain⟨k,pa,pc,hk,rfl,rfl,HLD,HO2,HK,HRL⟩:=hrel
    by_cases hlt:k<q
    ·have hki:(k:Int)<(q:Int):=by omega
     have hk0:(0:Int)≤(k:Int):=by omega
     obtain⟨d,hd⟩:∃d,l[k]?=some d:=⟨l[k]'(by rw[HQ.out];exact hlt),List.getElem?_eq_getElem _⟩
     have hrd:=HRL.out;rw[←HQ.out] at hrd;obtain⟨p,o,cap,hv,hcx⟩:=Hb hrd hd;rw[HQ.out] at hv;have e1:va=some ⟨p,o,none⟩:=by cases hv;rfl
     subst e1;obtain⟨hdD,x,r,hf⟩:=HIN.out d (List.mem_of_getElem? hd);have hTK:l.take (k+1)=l.take k++[d]:=by rw[List.take_add_one,hd];rfl
     have hnk:d ∉ l.take k:=by
      intro hm;obtain⟨j,hj⟩:=List.getElem?_of_mem hm;have hjk:=(List.getElem?_eq_some_iff.1 hj).1;rw[List.length_take] at hjk;rw[List.getElem?_take,if_pos (by omega)] at hj;obtain⟨h1,h2⟩:=List.getElem?_eq_some_iff.1 hj;obtain⟨h3,h4⟩:=List.getElem?_eq_some_iff.1 hd;exact List.pairwise_iff_getElem.1 HND.out j k h1 h3 (by omega) (h2.trans h4.symm)
     have hTT:bB L Z (l.take (k+1))=bB L Z (l.take k)++[(⟨(d:Int),x⟩:Ad)]:=by rw[hTK,DK,hf];rfl
     obtain⟨t,rfl,ht1,ht5,ht2,ht3,ht4⟩:=mG hf;have hfm:aV (L++bB L Z (l.take k)) d Z=(t:Int)::r:=by rw[tP hnk];exact hf
     obtain⟨gc,hgc,hch⟩:=HLD.out.chans d hdD;rw[hfm] at hch;have HCN:=G2 wr b (d*65) gc Z (t:Int) r (by have h:=HLD.out.words.chan hdD;rw[hgc] at h;exact h) hch;have HTT:=O hTT;have HFM:=O hfm;have HCN:=O HCN;have hc1:=HLD.out.top.c1;have hdi:(d:Int)<(D:Int):=by omega
     have hd0:(0:Int)≤(d:Int):=by omega
     have HGC:=O hgc;have HZ:Hid (t<4096):=O (by have:=HL.out.bd;omega);have hgw:gc<w.heap.size:=HOWN.out gc (.inr (.inr ⟨d,hdD,hgc⟩));have hbw:b<w.heap.size:=HOWN.out b (.inr (.inl rfl))
     have HUT:Hid (dM (L++bB L Z (l.take k)) d t=false):=O (by
      have h1:(t:Int)∈aV (L++bB L Z (l.take k)) d Z:=by rw[hfm];exact List.mem_cons_self ..
      obtain⟨s,h2,-,-,h3⟩:=rJ.1 h1;have:t=s:=by omega
      subst this;exact h3)
     clear hrd hv hd hf hTK hnk hTT hfm hch ht1 ht5 ht2 ht3 ht4 hgc;obtain⟨M,hM⟩:∃M,L++bB L Z (l.take k)=M:=⟨_,rfl⟩
     have HME:=O hM;rw[hM] at HLD HFM HUT;clear hM;obtain⟨dd,hdd⟩:∃dd,d*65=dd:=⟨_,rfl⟩
     rw[hdd] at HCN;go_wp2_with fail
     try rw[hdd]
     refine HCN.out.mono ?_;rintro e w5 ⟨rfl,hch5,hk5⟩
     have hwd5:=HLD.out.words.keep hk5 (fun e=>by
      obtain⟨s,rr,h3⟩:=hch5;obtain⟨cs,h4,-⟩:=HLD.out.words.row;obtain⟨g',h5,s',r',h6⟩:=HLD.out.chans d hdD;rw[HGC.out] at h5;cases h5
      rw[←e,h4] at h6;cases h6)
     have HTN:=O (AP w5 b D c M (M++[⟨(d:Int),(t:Int)⟩]) hwd5 d t hdD HZ.out (fun e s he hs=>by
      rw[nY]
      by_cases h1:e=d/\s=t
      ·obtain⟨rfl,rfl⟩:=h1
       rw[HUT.out];simp
      ·have:(decide (e=d) && decide (s=t))=false:=by
        rw[Bool.and_eq_false_iff,decide_eq_false_iff_not,decide_eq_false_iff_not]
        by_cases h2:e=d
        ·exact .inr fun h3=>h1 ⟨h2,h3⟩
        ·exact .inl h2
       rw[this];simp))
     have HCH5:=O hch5;have HK5:=O hk5
     have hag:a≠gc:=fun e=>by
      obtain⟨g',h5,s',r',h6⟩:=HLD.out.chans d hdD;rw[HGC.out] at h5;cases h5
      have h7:=HLD.out.top;unfold gJ at h7;rw[e,h6] at h7;cases h7
     have hc1:=(HLD.out.top.keep hk5 hag).c1;rw[hdd] at HTN;clear hch5 hk5 hwd5 HCN hag;go_wp2_with fail
     try rw[hdd]
     refine HTN.out.mono ?_;rintro e w6 ⟨rfl,hwd6,hk6⟩;have HL6:=O (HLD.out.take hdD HGC.out HFM.out HCH5.out HK5.out hwd6 hk6);have HO6:=O (hk6.owns (HK5.out.owns HO2.out (fun i hi e=>by have:=bE HO2.out hi;omega)) (fun i hi e=>by have:=bE HO2.out hi;omega));have HK6:=O ((HK.out.trans' HK5.out (U:=Own a b c D) (fun _ _ h=>h) (fun i _ h=>.inr (.inr ⟨d,hdD,by rw[HGC.out,h]⟩))).trans' hk6 (U:=Own a b c D) (fun _ _ h=>h) (fun i _ h=>.inr (.inl h)));have HR6:=O ((HRL.out.keep HK5.out (fun i hi e=>by have:=HFB.out i hi;omega)).keep hk6 (fun i hi e=>by have:=HFB.out i hi;omega));clear hwd6 hk6 HTN HCH5 HK5 HLD HO2 HRL HK hc1;obtain⟨w8,hw8,hk8,hb8,hs8⟩:=aU w6 (aN ⟨(d:Int),(t:Int)⟩).toArray 49;have HRN:Hid (Rd w8 2 (.slice (some ⟨w6.heap.size,0,none⟩) 1 1) 1 (aN ⟨(d:Int),(t:Int)⟩)):=O (cG (n:=1) (size:=2) (vs:=aN ⟨(d:Int),(t:Int)⟩) hb8 rfl (by unfold maxLen;omega));have HO8:=O (hk8.owns HO6.out fun _ _=>id);have HK8:=O (HK6.out.trans' hk8 (U:=Own a b c D) (fun _ _ h=>h) (fun _ _ h=>h.elim));have HL8:=O (HL6.out.keep0 hk8);have HR8:=O (HR6.out.keep hk8 fun _ _=>id);have hsz8:w3.heap.size≤w8.heap.size:=HK8.out.size;have HAC:Hid (aT (bB L Z (l.take (k+1)))=aT (bB L Z (l.take k))++aN ⟨(d:Int),(t:Int)⟩):=O (by rw[HTT.out,qM,vF]);clear hk8 hb8 hs8 HO6 HK6 HL6 HR6
     go_wp2_with (first
      | ((with_reducible show WL _ (.buildSlice _ 1 _));refine bN rfl 31 49 (.tmp 57) rfl Tryz.underlying31 oP (by decide) (aN ⟨(d:Int),(t:Int)⟩) rfl (by decide) rfl ?_;rw[hw8])
      | (at_builtin;refine aI rfl (.tmp 54) (.tmp 58) 31 rfl w3.heap.size 49 eE 2 16 Tryz.underlying31 oP rfl (by decide) (.slice pa k pc) k (aT (bB L Z (l.take k))) rfl HO8.out (.slice (some ⟨w6.heap.size,0,none⟩) 1 1) 1 (aN ⟨(d:Int),(t:Int)⟩) rfl HRN.out (bH _) (by unfold maxLen;omega) (by omega) hsz8 ?_
         intro v' w9 ho5 hk5 hn5 hb5;obtain⟨va9,vc9,rfl,-,-⟩:=(Rd.of_owns ho5).form;have HO5:Hid (w9.ownsRow w3.heap.size 49 2 (.slice va9 (k+1) vc9) (k+1) (aT (bB L Z (l.take (k+1))))):=O (by rw[HAC.out];exact ho5);have HK9:=O (HK8.out.trans' hk5 (U:=Own a b c D) (fun _ _ h=>h) (fun i hi e=>by have:=bE HO8.out e;omega));have HL9:=O (HL8.out.keep hk5 (fun i hi ho=>by have:=bE HO8.out hi;have:=HOWN.out i ho;omega));have HR9:=O (HR8.out.keep hk5 (fun i hi e=>by have:=bE HO8.out e;have:=HVL.out (by omega) i hi;omega));clear ho5 hk5 hn5 hb5 hw8))
     have HLF:Hid (cP w9 lo a b c D Z (L++bB L Z (l.take (k+1)))):=O (by rw[HTT.out,←List.append_assoc,HME.out];exact HL9.out)
     go_roundw
     case rel=>exact⟨k+1,va9,vc9,by omega,rfl,by go_num,HLF,HO5,HK9,HR9⟩
     case measure=>simp[intOf];omega
    ·obtain rfl:q=k:=by omega
     have htk:l.take q=l:=List.take_of_length_le (by rw[HQ.out];exact Nat.le_refl _);have hHL:=HLD.out;have hHO:=HO2.out;rw[htk] at hHL hHO;have HP:Hid (∀e,e=.returned (.tuple #[.slice pa q pc,.int .i64 0])->iG w lo a b c D Z L th cp e wr):=O (fun e he=>by unfold iG;rw[HFR.out,HBB.out,if_pos rfl,HO.out];exact⟨_,he,hHL,by rw[HQ.out];exact aP hHO hw33,HK3.out.trans' HK.out (U:=Own a b c D) (fun _ _ h=>h.elim) (fun _ _ h=>h)⟩);clear hHL hHO htk;go_wp2_with fail
     go_ret2
     exact HP.out _ rfl
def gO(w:World)(base g cap:Nat)(l:List Int):Prop:=base≤g/\l.length≤cap/\cap≤maxLen/\∃cur:Array Value,w.heap[g]?=some (.cells cur 3 (0,0))/\cur.size=cap/\cur.toList.take l.length=l.map fun x=>Value.int .i64 x
theorem gO.keep{T:Nat->Prop}{w w':World}{base g cap:Nat}{l:List Int}(h:gO w base g cap l)(k:aA T w w')(hT:¬T g):gO w' base g cap l:=by
 obtain⟨h1,h2,h3,cur,h4,h5⟩:=h;exact⟨h1,h2,h3,cur,k.blk h4 hT,h5⟩
theorem gO.lt{w:World}{base g cap:Nat}{l:List Int}(h:gO w base g cap l):g<w.heap.size:=by
 obtain⟨h1,h2,h3,cur,h4,h5⟩:=h;exact(Array.getElem?_eq_some_iff.1 h4).1
theorem gO.cell{w:World}{base g cap:Nat}{l:List Int}(h:gO w base g cap l){k:Nat}{x:Int}(hk:l[k]?=some x):w.cell? ⟨g,k,none⟩=some (.int .i64 x):=by
 obtain⟨h1,h2,h3,cur,h4,h5,h6⟩:=h;have hl:=(List.getElem?_eq_some_iff.1 hk).1;refine aC h4 ?_
 have h7:(cur.toList.take l.length)[k]?=some (.int .i64 x):=by
  rw[h6,List.getElem?_map,hk];rfl
 rw[List.getElem?_take,if_pos hl] at h7
 simpa using h7
theorem gO.free{w:World}{base g cap:Nat}{l:List Int}(h:gO w base g cap l)(k:Nat):w.frozen? ⟨g,k,none⟩=false:=by
 obtain⟨h1,h2,h3,cur,h4,h5,h6⟩:=h;exact cK h4 k
theorem gO.set{w:World}{base g cap:Nat}{l:List Int}(h:gO w base g cap l){k:Nat}(x:Int):gO (w.setCell ⟨g,k,none⟩ (.int .i64 x)) base g cap (l.set k x)/\aA (fun i=>i=g) w (w.setCell ⟨g,k,none⟩ (.int .i64 x)):=by
 obtain⟨h1,h2,h3,cur,h4,h5,h6⟩:=h;refine⟨⟨h1,by rw[List.length_set];exact h2,h3,_,dC h4 k _,by rw[Array.size_setIfInBounds];exact h5,?_⟩,(aA.refl (fun i=>i=g) w).setCell (p:=⟨g,k,none⟩) (fun _=>rfl) _⟩;rw[List.length_set,Array.toList_setIfInBounds,List.take_set,h6,List.map_set]
theorem gO.rd{w:World}{base g cap:Nat}{l:List Int}(h:gO w base g cap l):Rd w 1 (.slice (some ⟨g,0,none⟩) l.length cap) l.length (l.map fun x=>.int .i64 x):=by
 obtain⟨h1,h2,h3,cur,h4,h5,h6⟩:=h;refine⟨by simp,some ⟨g,0,none⟩,cap,rfl,h2,h3,(by intro e;cases e),fun _=>⟨g,0,rfl,fun i u hu=>?_⟩⟩;refine aC h4 ?_;have hl:i<l.length:=by have:=(List.getElem?_eq_some_iff.1 hu).1;simpa using this
 rw[←h6,List.getElem?_take,if_pos hl] at hu
 simpa using hu
theorem gO.of_owns{w:World}{base m pc:Nat}{pa:Option Addr}{l:List Int}(h:w.ownsRow base 3 1 (.slice pa m pc) m (l.map fun x=>.int .i64 x))(hm:0<m)(hl:l.length=m):∃g,pa=some ⟨g,0,none⟩/\gO w base g pc l:=by
 rcases h.2 with⟨h1,-⟩|⟨g,cap,cur,h1,h2,h3,h4,h5,h6,h7⟩
 ·cases h1;omega
 ·cases h1
  exact⟨g,rfl,h2,by omega,h5,cur,h3,by omega,by rw[hl,←h7,Nat.mul_one]⟩
def Hc(w:World)(l:List Int)(e:Ending)(w':World):Prop:=∃g cap,e=.returned (.slice (some ⟨g,0,none⟩) l.length cap)/\gO w' w.heap.size g cap l/\aA aB w w'
theorem Fl(w:World)(v:Value)(l:List Int)(hr:Rd w 1 v l.length (l.map fun x=>.int .i64 x))(h0:0<l.length)(h8:l.length≤8):Calls Tryz.prog 86 #[v] w (Hc w l):=by
 obtain⟨x,hx⟩:∃x,l[0]?=some x:=⟨l[0]'h0,List.getElem?_eq_getElem _⟩
 obtain⟨p,o,ca,hv,-⟩:=tN hr hx;subst hv;obtain⟨n,hn⟩:∃n,l.length=n:=⟨_,rfl⟩
 have HN:=O hn;rw[hn] at hr h0 h8 ⊢;obtain⟨w0,hw0,hk0,hb0,hs0⟩:=aU w #[] 3;have HO0:Hid (w0.ownsRow w.heap.size 3 1 (.slice (some ⟨w.heap.size,0,none⟩) 0 0) 0 []):=O (by rw[←hw0];exact World.ownsRow_made w #[] 0 (Nat.le_refl _) (by unfold maxLen;omega) rfl);have HR0:=O (hr.keep hk0 fun _ _=>id);have HK0:=O hk0;have hsw:w.heap.size<w0.heap.size:=by omega
 have he:∀w,(binOp .eql 60 (.slice (some ⟨p,o,none⟩) n ca) (.slice none 0 0)).run Tryz.prog w=.ok (.bool false) w:=fun w=>by kernel_rfl
 clear hk0 hb0 hs0 hr hx hn;go_enter Tryz.func86,Tryz.ntmps86
 go_wp2_with (first
  | (at_builtin;try rw[hw0]
     refine aI rfl (.tmp 5) (.tmp 6) 60 rfl w.heap.size 3 (.int .i64 0) 1 8 Tryz.underlying60 zY rfl (by decide) (.slice (some ⟨w.heap.size,0,none⟩) 0 0) 0 ([]) rfl HO0.out (.slice (some ⟨p,o,none⟩) n ca) n (l.map fun x=>.int .i64 x) rfl HR0.out (tM _) (by unfold maxLen;omega) (by omega) (by omega) ?_;intro v' w1 ho5 hk5 hn5 hb5;obtain⟨H1a,H1c,rfl,-,-⟩:=(Rd.of_owns ho5).form;rw[Nat.zero_add,List.nil_append] at ho5;have H1:=O ho5;have KH1:=O hk5;clear ho5 hk5 hn5 hb5))
 have HKY:=O (HK0.out.trans' KH1.out (U:=aB) (fun _ _ h=>h) (fun i hi e=>by have e':w.heap.size=i:=Option.some.inj e;omega))
 try rw[Nat.zero_add]
 obtain⟨g,e1,hrow⟩:=gO.of_owns H1.out h0 HN.out;subst e1;have HROW:=O hrow;clear hrow;go_ret;exact⟨g,_,by rw[HN.out];rfl,HROW.out,HKY.out⟩
def dI(w:World)(fr:List Int)(th:List Bool)(cp:Int)(e:Ending)(w':World):Prop:=
 if gZ fr th cp then ∃N:Nat,eV th cp.toNat fr N/\e=.returned (.tuple #[.int .i64 (N:Int),.int .i64 0])/\aA aB w w'
 else e=.returned (.tuple #[.int .i64 0,.int .i64 2])/\aA aB w w'
theorem LF{fr:List Int}(h:∀x∈fr,0≤x/\x≤4096):jX fr≤fr.length*4096:=by
 unfold jX
 induction fr with
 | nil=>simp
 | cons x fr ih =>
   have h1:=h x (List.mem_cons_self ..);have h2:=ih fun y hy=>h y (List.mem_cons_of_mem _ hy)
   simp only[List.map_cons,List.sum_cons,List.length_cons];omega
theorem LG{fr:List Int}(h:∀x∈fr,0≤x/\x≤4096)(i:Nat):fr.getD i 0≤4096:=by
 rw[List.getD_eq_getElem?_getD];cases e:fr[i]? with
 | none=>show (0:Int)≤4096;omega
 | some x=>exact(h x (List.mem_of_getElem? e)).2
theorem Hd(w:World)(v vt:Value)(fr:List Int)(th:List Bool)(cp:Int)(hr:Rd w 1 v fr.length (fr.map fun x=>.int .i64 x))(ht:Rd w 1 vt th.length (th.map Value.bool)) :
 Calls Tryz.prog 51 #[v,vt,.int .i64 cp] w (dI w fr th cp):=by
 have HC:=O (yG w v vt fr th cp hr ht);obtain⟨bb,hbb⟩:∃b,gZ fr th cp=b:=⟨_,rfl⟩
 have HBB:=O hbb;rw[hbb] at HC;have HR:=O hr;have HT:=O ht;obtain⟨oa,ca,rfl,-,-⟩:=hr.form;obtain⟨ta,tc,rfl,-,-⟩:=ht.form;clear hr ht hbb;cases bb
 ·have HP:Hid (∀w',aA aB w w'->∀e,e=.returned (.tuple #[.int .i64 0,.int .i64 2])->dI w fr th cp e w'):=O (fun w' k e he=>by unfold dI;rw[HBB.out,if_neg (by decide)];exact⟨he,k⟩)
  go_enter Tryz.func51,Tryz.ntmps51;go_wp2_with fail;refine HC.out.mono ?_;rintro e w2 ⟨rfl,hk⟩;have HK:=O hk;clear hk HC;go_wp2_with fail
  go_ret2
  exact HP.out _ HK.out _ rfl
 ·obtain⟨h1,h2,h3,h4,h5,h6⟩:=vL HBB.out
  obtain⟨c,rfl⟩:∃c:Nat,cp=(c:Int):=⟨cp.toNat,by omega⟩
  have HP:Hid (∀N:Nat,eV th c fr N->∀w',aA aB w w'->∀e,e=.returned (.tuple #[.int .i64 (N:Int),.int .i64 0])->dI w fr th (c:Int) e w'):=O (fun N hN w' k e he=>by unfold dI;rw[HBB.out,if_pos rfl];exact⟨N,by rw[Int.toNat_natCast];exact hN,he,k⟩);obtain⟨n,hn⟩:∃n,fr.length=n:=⟨_,rfl⟩
  have HN:=O hn;have HCL:=O (fun wx (k:aA aB w wx)=>Fl wx _ fr (HR.out.keep k fun _ _=>id) (by omega) h2);have HLE:=O (LG h6);obtain⟨S0,hS0⟩:∃s,jX fr=s:=⟨_,rfl⟩
  have hS0b:S0≤40000:=by rw[←hS0];have:=LF h6;omega
  have HS0:=O hS0;have HTL:=O h3;rw[hn] at HCL HC h1 h2 ⊢;rw[h3,hn] at HC ⊢;have hc1:1≤c:=by omega
  have hc3:c≤3:=by omega
  clear h3 h4 h5 h6 hn hS0;go_enter Tryz.func51,Tryz.ntmps51;go_wp2_with fail;refine HC.out.mono ?_;rintro e w2 ⟨rfl,hk⟩;have HK2:=O hk;clear hk HC;go_wp2_with fail;refine(HCL.out w2 HK2.out).mono ?_;rintro e w3 ⟨g,cap,rfl,hrow,hk⟩;have HROW:=O hrow;have HK3:=O (HK2.out.trans hk);have hbase:w.heap.size≤g:=Nat.le_trans HK2.out.size hrow.1;clear hk hrow HK2 HCL;rw[HN.out];have HROW:Hid (gO w3 w.heap.size g cap fr):=O ⟨hbase,HROW.out.2⟩;go_wp2_with fail
  go_loopw [10] (fun i wr=>∃(N:Nat) (fk:List Int),N≤S0/\i=.int .i64 N/\Hid (gO wr w.heap.size g cap fk)/\Hid (fk.length=n)/\Hid (N+jX fk≤S0)/\Hid (∀i,fk.getD i 0≤4096)/\Hid (∀m,eV th c fk m->eV th c fr (N+m))/\Hid (aA aB w wr)) (fun i _=>S0+1-(intOf i).toNat)
  case atStart=>exact⟨0,fr,Nat.zero_le _,rfl,HROW,HN,O (by rw[HS0.out];omega),HLE,O (fun m h=>by rw[Nat.zero_add];exact h),HK3⟩
  case round =>
  clear HROW HK3;obtain⟨N,fk,hN,rfl,HROW,HFL,HSUM,HFE,HRM,HK⟩:=hrel;have hcp:(c:Int)=(c:Int):=rfl;have HCH:=yF wr _ (.slice ta th.length tc) fk th c HROW.out.rd (HT.out.keep HK.out fun _ _=>id) (by rw[HFL.out];exact h2) (by rw[HTL.out,HN.out,HFL.out]) hc1 hc3;rw[HFL.out,HTL.out,HN.out] at HCH;have HCH:=O HCH;obtain⟨oc,hoc⟩:∃o,bT fk th c=o:=⟨_,rfl⟩
  have HOC:=O hoc;rw[hoc] at HCH;clear hoc hcp;go_wp2_with fail;refine HCH.out.mono ?_;intro e w4 hpost;clear HCH;cases oc with
  | none =>
    obtain⟨rfl,hk⟩:=hpost;have HK4:=O (HK.out.trans hk);have HRN:Hid (eV th c fr N):=O (HRM.out 0 (.none HOC.out));clear hk;go_wp2_with fail
    go_ret2
    exact HP.out N HRN.out _ HK4.out _ rfl
  | some l =>
    obtain⟨v,rfl,hnr,hk⟩:=hpost;have hgw:=HROW.out.lt;have HROW4:=O (HROW.out.keep hk id);have HK4:=O (HK.out.trans hk);have hcs:=eJ HOC.out;obtain⟨q,hq⟩:∃q,l.length=q:=⟨_,rfl⟩
    have HQ:=O hq;obtain⟨va,vc,rfl,-,-⟩:=hnr.1.form;have HRL:=O hnr.1
    have HFB:Hid (∀i,(Value.slice va q vc).ownBlock=some i->i≠g):=O (fun i hi e=>by
     have:=hnr.2 i (by rw[←hi,hq]);omega)
    rw[hq] at HRL
    have hql:q≤8:=by
     have h1:l.length≤(List.range fk.length).length:=List.Nodup.length_le_of_subset hcs.2.2.2.1 fun d hd=>List.mem_range.2 (hcs.2.2.2.2 d hd).1
     rw[List.length_range,HFL.out] at h1;omega
    have HND:=O hcs.2.2.2.1
    have HIN:Hid (∀d∈l,d<n/\0<fk.getD d 0):=O (fun d hd=>by
     have h1:=hcs.2.2.2.2 d hd;rw[HFL.out] at h1;have h2:=h1.2;unfold dV at h2;rw[Bool.and_eq_true,decide_eq_true_eq] at h2;exact⟨h1.1,h2.2⟩)
    have HSD:=O (Fe HOC.out (by omega));clear hk hnr hcs hgw;rw[hq];clear hq;go_wp2_with fail
    go_loopw [38] (fun i wr=>∃j:Nat,j≤q/\i=.int .i64 j/\Hid (gO wr w.heap.size g cap (eI fk (l.take j)))/\Hid (Rd wr 1 (.slice va q vc) q (nV l))/\Hid (aA aB w wr)) (fun i _=>q-(intOf i).toNat)
    case atStart=>exact⟨0,Nat.zero_le _,rfl,HROW4,HRL,HK4⟩
    case round =>
    clear HROW4 HRL HK4 HROW HK;obtain⟨j,hj,rfl,HROW,HRL,HK⟩:=hrel
    by_cases hlt:j<q
    ·have hki:(j:Int)<(q:Int):=by omega
     have hk0:(0:Int)≤(j:Int):=by omega
     obtain⟨d,hd⟩:∃d,l[j]?=some d:=⟨l[j]'(by rw[HQ.out];exact hlt),List.getElem?_eq_getElem _⟩
     have hrd:=HRL.out;rw[←HQ.out] at hrd;obtain⟨p,o,cap',hv,hcx⟩:=Hb hrd hd;rw[HQ.out] at hv;have e1:va=some ⟨p,o,none⟩:=by cases hv;rfl
     subst e1;obtain⟨hdn,hdp⟩:=HIN.out d (List.mem_of_getElem? hd)
     have hnk:d ∉ l.take j:=by
      intro hm;obtain⟨i,hi⟩:=List.getElem?_of_mem hm;have hik:=(List.getElem?_eq_some_iff.1 hi).1;rw[List.length_take] at hik;rw[List.getElem?_take,if_pos (by omega)] at hi;obtain⟨h1,h2⟩:=List.getElem?_eq_some_iff.1 hi;obtain⟨h3,h4⟩:=List.getElem?_eq_some_iff.1 hd;exact List.pairwise_iff_getElem.1 HND.out i j h1 h3 (by omega) (h2.trans h4.symm)
     have hlen:(eI fk (l.take j)).length=n:=by rw[wI,HFL.out]
     obtain⟨x,hx⟩:∃x,(eI fk (l.take j))[d]?=some x:=⟨(eI fk (l.take j))[d]'(by rw[hlen];exact hdn),List.getElem?_eq_getElem _⟩
     have hxe:x=fk.getD d 0:=by
      have h1:=wJ (l.take j) fk (List.Nodup.sublist (List.take_sublist _ _) HND.out) (fun i hi=>by rw[HFL.out];exact(HIN.out i (List.mem_of_mem_take hi)).1) d;rw[if_neg hnk,List.getD_eq_getElem?_getD,hx] at h1;have h2:x=fk.getD d 0-0:=h1;omega
     have hx0:0<x:=by omega
     have hx4:x≤4096:=by rw[hxe];exact HFE.out d
     have hcd:=HROW.out.cell hx;have hfz:=HROW.out.free d;have hset:=HROW.out.set (k:=d) (x-1)
     have hds:(eI fk (l.take j)).set d (x-1)=eI fk (l.take (j+1)):=by
      rw[List.take_add_one,hd];show _=eI fk (l.take j++[d]);rw[GZ,List.getD_eq_getElem?_getD,hx];rfl
     rw[hds] at hset;have HSET:=O hset;have hdi:(d:Int)<(n:Int):=by omega
     have hd0:(0:Int)≤(d:Int):=by omega
     clear hrd hv hd hnk hlen hx hxe hset hds hdp;go_wp2_with fail;have HK5:=O (HK.out.trans' HSET.out.2 (U:=aB) (fun _ _ h=>h) (fun i hi e=>by omega));have HR5:=O (HRL.out.keep HSET.out.2 (fun i hi e=>HFB.out i hi e));have HO5:=O HSET.out.1;clear HSET HROW HRL HK
     go_roundw
     case rel=>exact⟨j+1,by omega,by go_num,HO5,HR5,HK5⟩
     case measure=>simp[intOf];omega
    ·obtain rfl:q=j:=by omega
     have hrow:=HROW.out;rw[List.take_of_length_le (by rw[HQ.out];exact Nat.le_refl _)] at hrow;have HROW2:=O hrow;have HF2:Hid ((eI fk l).length=n):=O (by rw[wI,HFL.out]);have HS2:Hid (N+1+jX (eI fk l)≤S0):=O (by have:=HSUM.out;have:=HSD.out;omega);have hN1:N+1≤S0:=by have:=HS2.out;omega
     have HE2:Hid (∀i,(eI fk l).getD i 0≤4096):=O (fun i=>by
      rw[wJ l fk HND.out (fun i hi=>by rw[HFL.out];exact(HIN.out i hi).1) i];have:=HFE.out i;split<;>omega)
     have HR2:Hid (∀m,eV th c (eI fk l) m->eV th c fr (N+1+m)):=O (fun m hm=>by
      have:=HRM.out (m+1) (.more HOC.out hm)
      rwa [show N+1+m=N+(m+1) by omega])
     clear hrow;go_wp2_with fail
     go_roundw
     case rel=>exact⟨N+1,eI fk l,hN1,by go_num,HROW2,HF2,HS2,HE2,HR2,HK⟩
     case measure=>simp[intOf];omega
theorem dI.form{w w':World}{fr:List Int}{th:List Bool}{cp:Int}{e:Ending}(h:dI w fr th cp e w'):∃(N:Nat) (r:Int),e=.returned (.tuple #[.int .i64 (N:Int),.int .i64 r]):=by
 unfold dI at h;split at h
 ·obtain⟨N,-,h1,-⟩:=h
  exact⟨N,0,h1⟩
 ·exact⟨0,2,h.1⟩
theorem dI.of{w w1 w':World}{fr:List Int}{th:List Bool}{cp:Int}{e:Ending}(h:dI w1 fr th cp e w')(k:aA aB w w1):dI w fr th cp e w':=by
 unfold dI at h ⊢;split
 ·rename_i hc
  rw[if_pos hc] at h;obtain⟨N,h1,h2,h3⟩:=h;exact⟨N,h1,h2,k.trans h3⟩
 ·rename_i hc
  rw[if_neg hc] at h;exact⟨h.1,k.trans h.2⟩
theorem JI(w:World)(lo a b D Z:Nat)(c:Nat->Option Nat)(L:List Ad)(h:cP w lo a b c D Z L)(vt:Value)(th:List Bool)(cp:Int)(ht:Rd w 1 vt th.length (th.map Value.bool)) :
 Calls Tryz.prog 23 #[.pointer (some ⟨a,0,none⟩),vt,.int .i64 cp] w (dI w (bU L D Z) th cp):=by
 have HF:=vK w lo a b D Z c L h;have hD0:D≠0:=by have:=h.bd;omega
 have HN:=wL w a D Z _ h.top;rw[decide_eq_false hD0] at HN;have HN:=O HN;obtain⟨fr,hfr⟩:∃fr,bU L D Z=fr:=⟨_,rfl⟩
 rw[hfr] at HF ⊢;have HF:=O HF;have HT:=O ht;have HM:=O (fun wx v (k:aA aB w wx) (hr:Rd wx 1 v fr.length (fr.map fun x=>.int .i64 x))=>Hd wx v _ fr th cp hr (ht.keep k fun _ _=>id));obtain⟨ta,tc,rfl,-,-⟩:=ht.form;obtain⟨q,hq⟩:∃q,th.length=q:=⟨_,rfl⟩
 rw[hq] at HM ⊢;clear h ht hD0 hfr hq;go_enter Tryz.func23,Tryz.ntmps23;go_wp2_with fail;refine HN.out.mono ?_;rintro e w1 ⟨rfl,rfl⟩;clear HN;go_wp2_with fail;refine HF.out.mono ?_;rintro e w2 ⟨v,rfl,hov,hk⟩;have HRF:=O (Rd.of_owns hov);have HK:=O hk;obtain⟨fa,fc,rfl,-,-⟩:=(Rd.of_owns hov).form;have HM2:=HM.out _ _ HK.out HRF.out;obtain⟨m,hm⟩:∃m,fr.length=m:=⟨_,rfl⟩
 rw[hm] at HM2 ⊢;have HM2:=O HM2;clear hov hk HF hm HM;go_wp2_with fail;refine HM2.out.mono ?_;intro e w3 hp;have hp2:=hp.of HK.out;obtain⟨N,r,rfl⟩:=hp.form;have HPP:=O hp2;clear hp hp2 HM2;go_wp2_with fail
 go_ret2
 exact HPP.out
theorem JJ{l m:List Int}(h:l.length=m.length)(he:∀i,i<l.length->l.getD i 0=m.getD i 0):l=m:=by
 refine List.ext_getElem h fun i h1 h2=>?_
 have:=he i h1
 rwa [List.getD_eq_getElem?_getD,List.getD_eq_getElem?_getD,List.getElem?_eq_getElem h1,List.getElem?_eq_getElem h2] at this
theorem vM{M:List Ad}{D Z cp:Nat}{th:List Bool}{l:List Nat}(hc:bT (bU M D Z) th cp=some l){d:Nat}(hd:d∈l):d<D/\∃x r,aV M d Z=x::r:=by
 have h1:=(eJ hc).2.2.2.2 d hd;rw[jF] at h1;have h2:=h1.2;unfold dV at h2;rw[Bool.and_eq_true,decide_eq_true_eq,pO M h1.1] at h2;refine⟨h1.1,?_⟩;cases e:aV M d Z with
 | nil=>rw[e] at h2;simp at h2
 | cons x r=>exact⟨x,r,rfl⟩
theorem yH{M:List Ad}{Z:Nat}{l:List Nat}{x:Ad}:x∈bB M Z l↔∃d∈l,x=⟨(d:Int),(aV M d Z).headD 0⟩:=by
 unfold bB;rw[List.mem_map];exact⟨fun ⟨d,h1,h2⟩=>⟨d,h1,h2.symm⟩,fun ⟨d,h1,h2⟩=>⟨d,h1,h2.symm⟩⟩
theorem Fm{M:List Ad}{Z d:Nat}{l:List Nat}{x:Int}{r:List Int}(hd:d∈l)(hf:aV M d Z=x::r):aV (M++bB M Z l) d Z=r:=by
 obtain⟨t,rfl,-,-,-,-,h5⟩:=mG hf;rw[←h5];refine lE fun s _ _=>?_
 unfold dM;rw[decide_eq_decide,List.mem_append,List.mem_append,yH,List.mem_singleton];refine or_congr Iff.rfl ⟨?_,fun h=>⟨d,hd,by rw[h,hf];rfl⟩⟩;rintro⟨e,he,h⟩;have e1:d=e:=by have:=congrArg Ad.dev h;simp only at this;omega
 subst e1;rw[h,hf];rfl
theorem vO{M:List Ad}{D Z cp:Nat}{th:List Bool}{l:List Nat}(hc:bT (bU M D Z) th cp=some l):bU (M++bB M Z l) D Z=eI (bU M D Z) l:=by
 have hcs:=eJ hc;refine JJ (by rw[wI,jF,jF]) fun d hd=>?_
 rw[jF] at hd;rw[wJ l _ hcs.2.2.2.1 (fun i hi=>(hcs.2.2.2.2 i hi).1),pO _ hd,pO _ hd]
 by_cases h:d∈l
 ·obtain⟨-,x,r,hf⟩:=vM hc h
  rw[if_pos h,Fm h hf,hf];simp
 ·rw[if_neg h,tP h]
  omega
theorem Fo{th:List Bool}{cp:Nat}{fr:List Int}{n:Nat}(h:eV th cp fr (n+1)):∃l,bT fr th cp=some l/\eV th cp (eI fr l) n:=by
 cases h with
 | more h1 h2=>exact⟨_,h1,h2⟩
theorem Fp{th:List Bool}{cp:Nat}{fr:List Int}(h:eV th cp fr 0):bT fr th cp=none:=by
 cases h with
 | none h1=>exact h1
theorem He(L:List Ad)(D Z:Nat):jX (bU L D Z)≤D*Z:=by
 unfold jX bU
 induction D with
 | zero=>simp
 | succ D ih =>
   rw[List.range_succ,List.map_append,List.map_append,List.sum_append,Nat.succ_mul];have:=rK L D Z;simp only[List.map_cons,List.map_nil,List.sum_cons,List.sum_nil,Int.toNat_natCast];omega
theorem wO{L:List Ad}{D Z:Nat}{th:List Bool}{cp:Nat}(hb:2≤D/\D≤8/\8≤Z/\Z≤4096)(ht:th.length=D)(h1:1≤cp)(h3:cp≤3):gZ (bU L D Z) th (cp:Int)=true:=by
 unfold gZ tO;rw[jF];simp only[Bool.and_eq_true,decide_eq_true_eq,List.all_eq_true];refine⟨⟨⟨⟨⟨by omega,by omega⟩,ht⟩,by omega⟩,by omega⟩,fun x hx=>?_⟩;unfold bU at hx;obtain⟨d,-,rfl⟩:=List.mem_map.1 hx;have:=rK L d Z;exact⟨by omega,by omega⟩
theorem AR{M:List Ad}{D Z cp:Nat}{th:List Bool}{l:List Nat}(hb:2≤D/\D≤8/\8≤Z/\Z≤4096)(hc:bT (bU M D Z) th cp=some l){x:Ad}(hx:x∈bB M Z l):eT x (D:Int) (Z:Int)=true/\x ∉ M/\∃d t:Nat,x=⟨(d:Int),(t:Int)⟩/\d∈l/\∀s,5≤s->s<t->dM M d s=true:=by
 obtain⟨d,hd,rfl⟩:=yH.1 hx;obtain⟨h1,y,r,hf⟩:=vM hc hd;obtain⟨t,rfl,h2,h3,h4,h5,-⟩:=mG hf;rw[hf];show eT ⟨(d:Int),(t:Int)⟩ _ _=true/\(⟨(d:Int),(t:Int)⟩:Ad) ∉ M/\_;exact⟨LB hb h1 h3 h2,of_decide_eq_false h4,d,t,rfl,hd,h5⟩
theorem DL{M:List Ad}{D Z cp:Nat}{th:List Bool}{l:List Nat}(hc:bT (bU M D Z) th cp=some l):(bB M Z l).Nodup:=by
 unfold bB;rw[List.Nodup,List.pairwise_map];refine List.Pairwise.imp ?_ (eJ hc).2.2.2.1;intro d e hde h;have:=congrArg Ad.dev h;simp only at this;omega
def iS:Value:=.agg (Array.replicate 64 (.int .u64 0)++#[.chan none])
theorem Ko:(Tryz.prog.info? 150).map (fun i=>(i.zero,i.size,i.bytes))=some (some iS,65,520):=by kernel_rfl
theorem yY{w:World}{ops:Array Oper}{rest:List Oper}{o:Oper}{a:Act}{Q:Exit->Act->World->Prop}(hg:o.guard=none)(l c:Operand)(hop:o.op=Op.makeSlice 139 l c)
 (n:Nat) (hl:a.eval l=.int .i64 (n:Int)) (hc:a.eval c=.int .i64 (n:Int)) (b3:n≤8)
 (hK:∀w',bF w' w.heap.size (fun _=>none) n []->aA aB w w'->wpList Tryz.prog ops Q rest (a.put o.dst (.slice (some ⟨w.heap.size,0,none⟩) n n)) w') :
 wpList Tryz.prog ops Q (o::rest) a w:=by
 have h:(Tryz.prog.info? 150).map (fun i=>(i.zero,i.size,i.bytes))=some (some iS,65,520):=Ko;obtain⟨i,hi,hz⟩:=Option.map_eq_some_iff.1 h;injection hz with hz0 hz1
 injection hz1 with hz1 hz2
 refine wpList_make_full w hg l c 139 hop w.heap.size 150 i iS 65 Tryz.underlying139 hi hz0 hz1 .i64 .i64 n n n hl hc rfl rfl (by rw[hz2];omega) (by unfold maxLen;omega) (Nat.le_refl _) ?_;intro w' g1 g2;have hk:aA aB w w':=by have:=aA.of_grown g2;exact this.mono fun k _ h=>by cases h
 rcases g1.2 with⟨h1,-⟩|⟨g,cap,cur,h1,h2,h3,h4,h5,h6,h7⟩
 ·cases h1
 ·cases h1
  have hcur:cur=madeCells iS.cells (n*65):=by
   apply Array.toList_inj.1;rw[←h7,List.take_of_length_le (by rw[Array.length_toList,h6];exact Nat.le_refl _)]
  have hat:∀j,j<n*65->cur[j]?=some (iS.cells[j % 65]!):=fun j hj=>by
   rw[hcur];unfold madeCells;rw[Array.getElem?_map,Array.getElem?_range,if_pos hj];show some (iS.cells[j % iS.cells.size]!)=_;rw[show iS.cells.size=65 from by simp[iS,Value.cells]]
  refine hK w' ⟨cur,h3,h6,fun d hd k hk=>⟨0#64,?_,fun j hj=>?_⟩,fun d hd=>?_⟩ hk
  ·rw[hat _ (by omega),show (d*65+k) % 65=k by omega]
   have e:iS.cells[k]! = .int .u64 0:=by
    show (Array.replicate 64 (Value.int .u64 0)++#[Value.chan none])[k]! = _;rw[getElem!_pos _ _ (by simp;omega),Array.getElem_append_left (by simpa using hk),Array.getElem_replicate]
   rw[e];rfl
  ·simp[dM]
  ·rw[hat _ (by omega),show (d*65+64) % 65=64 by omega]
   rfl
def sC(D S:Int)(u:List Ad):Bool:=decide (2≤D) && decide (D≤8) && decide (8≤S) && decide (S≤4096) && u.all fun x=>eT x D S
def oK(w:World)(D S:Int)(u:List Ad)(e:Ending)(w':World):Prop:=
 if sC D S u then ∃a b c,e=.returned (.tuple #[.pointer (some ⟨a,0,none⟩),.int .i64 0])/\cP w' w.heap.size a b c D.toNat S.toNat u/\aA aB w w'
 else e=.returned (.tuple #[.pointer none,.int .i64 2])/\aA aB w w'
theorem FZ(w:World)(D S:Int)(v:Value)(l:List Ad)(hr:Rd w 2 v l.length (aT l)):Calls Tryz.prog 82 #[.int .i64 D,.int .i64 S,v] w (oK w D S l):=by
 obtain⟨bb,hbb⟩:∃b,sC D S l=b:=⟨_,rfl⟩
 have HBB:=O hbb;have HPB:Hid (bb=false->∀w',aA aB w w'->∀e,e=.returned (.tuple #[.pointer none,.int .i64 2])->oK w D S l e w'):=O (fun h w' k e he=>by unfold oK;rw[hbb,h,if_neg (by decide)];exact⟨he,k⟩);have HPG:Hid (bb=true->∀w' a b c,cP w' w.heap.size a b c D.toNat S.toNat l->aA aB w w'->∀e,e=.returned (.tuple #[.pointer (some ⟨a,0,none⟩),.int .i64 0])->oK w D S l e w'):=O (fun h w' a b c hl k e he=>by unfold oK;rw[hbb,h,if_pos rfl];exact⟨a,b,c,he,hl,k⟩);have HK0:=O (aA.refl aB w);clear hbb;obtain⟨oa,ca,rfl,-,hmm⟩:=hr.form;have hmx_n:l.length≤maxLen:=by have h:=hr.2;obtain⟨a',cap',h1,h2,h3,-⟩:=h;omega
 unfold maxLen at hmx_n;clear hmm;have HR:=O hr;obtain⟨n,hn_n⟩:∃n,l.length=n:=⟨_,rfl⟩
 have HN:=O hn_n;rw[hn_n] at HR hmx_n
 try rw[hn_n]
 clear hr hn_n
 by_cases h1:2≤D
 ·by_cases h2:D≤8
  ·by_cases h3:8≤S
   ·by_cases h4:S≤4096
    ·obtain⟨d,rfl⟩:∃d:Nat,D=(d:Int):=⟨D.toNat,by omega⟩
     obtain⟨z,rfl⟩:∃z:Nat,S=(z:Int):=⟨S.toNat,by omega⟩
     have hbd:2≤d/\d≤8/\8≤z/\z≤4096:=by omega
     have hall:bb=l.all fun x=>eT x (d:Int) (z:Int):=by
      rw[←HBB.out];unfold sC;rw[decide_eq_true h1,decide_eq_true h2,decide_eq_true h3,decide_eq_true h4];rfl
     have HALL:=O hall;have i1:¬(d:Int)<2:=by omega
     have i2:¬8<(d:Int):=by omega
     have i3:¬(z:Int)<8:=by omega
     have i4:¬4096<(z:Int):=by omega
     have d1:decide ((d:Int)<2)=false:=decide_eq_false i1;have d2:decide (8<(d:Int))=false:=decide_eq_false i2;have d3:decide ((z:Int)<8)=false:=decide_eq_false i3;have d4:decide (4096<(z:Int))=false:=decide_eq_false i4;clear hall;go_enter Tryz.func82,Tryz.ntmps82
     go_wp2_with (first
      | ((with_reducible show WL _ (.makeSlice _ _ _));refine yY rfl (.tmp 26) (.tmp 26) rfl d rfl rfl (by omega) ?_
         intro w1 hw1 hk1;obtain⟨w2,hw2,hk2,hb2,hs2⟩:=aU w1 #[.int .i64 (z:Int),.slice (some ⟨w.heap.size,0,none⟩) d d] 141;have HW1:=O (hw1.keep hk2 id);have HT1:Hid (gJ w2 w1.heap.size (z:Int) (some ⟨w.heap.size,0,none⟩) d):=O hb2;have HK1:=O (hk1.trans hk2);have hbl:=hw1.lt;clear hw1 hk1 hk2 hb2 hs2))
     clear hw2;obtain⟨B,hB⟩:∃B,w.heap.size=B:=⟨_,rfl⟩
     obtain⟨A,hA⟩:∃A,w1.heap.size=A:=⟨_,rfl⟩
     have HBE:=O hB;rw[hB,hA] at HT1 hbl;rw[hB] at HW1 ⊢
     try rw[hA]
     have hAB:A≠B:=by omega
     clear hB hA
     go_loopw [32] (fun i wr=>∃k:Nat,k≤n/\i=.int .i64 k/\Hid (bF wr B (fun _=>none) d (l.take k))/\Hid (gJ wr A (z:Int) (some ⟨B,0,none⟩) d)/\Hid (aA aB w wr)/\Hid (((l.take k).all fun x=>eT x (d:Int) (z:Int))=true)) (fun i _=>n-(intOf i).toNat)
     case atStart=>exact⟨0,Nat.zero_le _,rfl,HW1,HT1,HK1,O (by simp)⟩
     case round =>
     clear HW1 HT1 HK1;obtain⟨k,hk,rfl,HW,HT,HK,HA⟩:=hrel
     by_cases hlt:k<n
     ·have hki:(k:Int)<(n:Int):=by omega
      have hk0:(0:Int)≤(k:Int):=by omega
      have HRW:=O (HR.out.keep HK.out fun _ _=>id);have hbw:B<wr.heap.size:=HW.out.lt;obtain⟨x,h_x⟩:∃x,l[k]?=some x:=⟨l[k]'(by rw[HN.out];exact hlt),List.getElem?_eq_getElem _⟩
      have h_r:=HRW.out;rw[←HN.out] at h_r;obtain⟨gl,ol,cap',h_v,h_at⟩:=mD h_r h_x;have e1:oa=some ⟨gl,ol,none⟩:=by cases h_v;rfl
      subst e1;have HX:=O h_at;have HE:=O h_x;clear h_x h_r h_v h_at
      go_wp2_with (first
       | ((with_reducible show WL _ (.load 49 (.tmp 34)));refine wpList_load_mid rfl 49 (.tmp 34) rfl gl (ol+k*2) rfl (aN x) _ HX.out bX rfl cE ?_)
       | ((with_reducible show WL (some 10) (.alloc 49));refine aS rfl 49 rfl eE eA #[.int .i64 0,.int .i64 0] rfl ?_)
       | ((with_reducible show WL none (.store 49 (.tmp 10) (.tmp 35)));refine aM rfl 49 (.tmp 10) (.tmp 35) rfl wr.heap.size 0 (aN x) rfl rfl #[.int .i64 0,.int .i64 0] 49 (heap_alloc_new _ _) (Nat.le_refl _) cE (bH _) ?_
          intro w3 hb3 hk3;rw[aG _ _ (by rfl)] at hb3;have hk4:aA aB wr w3:=((aA.refl aB wr).alloc _).trans' hk3 (fun _ _ h=>h) (fun i hi e=>by omega);have HB3:=O hb3;have HK4:=O hk4;clear hb3 hk3 hk4)
       | ((with_reducible show WL _ (.load 49 (.tmp 10)));refine wpList_load_mid rfl 49 (.tmp 10) rfl wr.heap.size 0 rfl (aN x) _ (aD HB3.out) bX rfl cE ?_))
      have HK3:=O (HK.out.trans HK4.out);have HW3:=O (HW.out.keep HK4.out id);have HT3:=O (HT.out.keep HK4.out id);obtain⟨X,hX⟩:∃X,wr.heap.size=X:=⟨_,rfl⟩
      rw[hX] at HB3 hbw ⊢;have hwX:w.heap.size≤X:=by rw[←hX];exact HK.out.size
      clear hX HX HK4 HW HT HK;have HP:=G6 w3 A d (z:Int) _ HT3.out x;obtain⟨mb,hmb⟩:∃m,eT x (d:Int) (z:Int)=m:=⟨_,rfl⟩
      rw[hmb] at HP;have HMB:=O hmb;have HP:=O HP;clear hmb;refine HP.out.mono ?_;rintro e w4 ⟨rfl,hk4⟩;have HK4:=O (HK3.out.trans hk4);have HW4:=O (HW3.out.keep hk4 id);have HT4:=O (HT3.out.keep hk4 id);have HB4:=O (hk4.blk HB3.out id);clear hk4 HK3 HW3 HT3 HB3 HP;cases mb
      ·have hbf:bb=false:=by
        rw[HALL.out,List.all_eq_false];exact⟨x,List.mem_of_getElem? HE.out,by rw[HMB.out];decide⟩
       go_wp2_with fail
       go_ret2
       exact HPB.out hbf _ HK4.out _ rfl
      ·obtain⟨e,s,rfl,hd,h5,hs⟩:=CF HMB.out
       have HA2:Hid (((l.take (k+1)).all fun x=>eT x (d:Int) (z:Int))=true):=O (by rw[List.take_add_one,HE.out,List.all_append,HA.out];simpa using HMB.out);have HU:=O (fun wx (kk:aA aB w4 wx)=>JC wx B d (fun _=>none) (l.take k) (HW4.out.keep kk id) e s hd (by omega));obtain⟨ub,hub⟩:∃u,dM (l.take k) e s=u:=⟨_,rfl⟩
       rw[hub] at HU;have HUB:=O hub;have hc1:=HT4.out.c1;have hx0:w4.cell? ⟨X,0,none⟩=some (.int .i64 (e:Int)):=aC HB4.out rfl;have hx1:w4.cell? ⟨X,1,none⟩=some (.int .i64 (s:Int)):=aC HB4.out rfl;have hdi:(e:Int)<(d:Int):=by omega
       have hd0:(0:Int)≤(e:Int):=by omega
       clear hub;go_wp2_with fail;obtain⟨S,hS0⟩:∃S:World->Prop,S=fun w'=>aA aB w4 w':=⟨_,rfl⟩
       have HSE:=O (show ∀w',S w'->aA aB w4 w' from fun w' h=>by rw[hS0] at h;exact h);have HSI:=O (show ∀w',aA aB w4 w'->S w' from fun w' h=>by rw[hS0];exact h);have hS:S w4.drew:=by rw[hS0];exact(aA.refl _ _).drew
       clear hS0;refine wp_region_held (S:=S) (by kernel_rfl) ?_;change wpAnyH _ _ _ _ _ _ _ _ w4.drew;generalize w4.drew=wq41 at hS ⊢;refine tka 0 (.pointer (some ⟨A,0,none⟩)) rfl hS ?_;simp only[Act.put,List.setIfInBounds_toArray,List.set_cons_zero,List.set_cons_succ,List.getElem_toArray,List.getElem_cons_zero];refine tnb 1 (.pointer (some ⟨A,0,none⟩)) rfl hS ?_;refine tnb 2 (.pointer (some ⟨A,1,none⟩)) rfl hS ?_;refine tnd 3 (.slice (some ⟨B,0,none⟩) d d) rfl (.inl ⟨by rfl,fun w' hw'=>by have c:=(HSE.out w' hw').cell hc1 id;go_simp⟩) hS ?_;refine tnb 4 (.pointer (some ⟨X,0,none⟩)) rfl hS ?_;refine tnd 5 (.int .i64 (e:Int)) rfl (.inl ⟨by rfl,fun w' hw'=>by have c:=(HSE.out w' hw').cell hx0 id;go_simp⟩) hS ?_;refine tnb 6 (.pointer (some ⟨B,e*65,none⟩)) rfl hS ?_;refine tnb 7 (.pointer (some ⟨X,1,none⟩)) rfl hS ?_;refine tnd 8 (.int .i64 (s:Int)) rfl (.inl ⟨by rfl,fun w' hw'=>by have c:=(HSE.out w' hw').cell hx1 id;go_simp⟩) hS ?_;refine wA9 9 ?_;go_wp2_with fail;refine(HU.out _ (HSE.out _ hS)).mono ?_;rintro e wq42 ⟨rfl,rfl⟩;have hk:=aA.refl aB wq41;have hS1:=HSI.out _ ((HSE.out _ hS).trans hk);clear hS hk;go_wp2_with fail;refine⟨hS1,?_⟩;cases ub
       ·refine tnb 10 (.bool true) rfl hS1 ?_
        refine tna 11 (.bool true) rfl hS1 ?_;refine wpAnyH_done (by kernel_rfl) ?_ _;have HKR:=O (HSE.out _ hS1);clear hS1 HSE HSI;have HK5:=O (HK4.out.trans HKR.out);have HW5:=O (HW4.out.keep HKR.out id);have HT5:=O (HT4.out.keep HKR.out id);have hc1:=HKR.out.cell hc1 id;have hx0:=HKR.out.cell hx0 id;have hx1:=HKR.out.cell hx1 id;clear HKR HU HK4 HW4 HT4 HB4;go_wp2_with fail
        have HC:=O (fun wx (kk:aA aB wq41 wx)=>AP wx B d (fun _=>none) (l.take k) (l.take k++[⟨(e:Int),(s:Int)⟩]) (HW5.out.keep kk id) e s hd (by omega) (fun e' t _ _=>by
         rw[nY]
         by_cases h1:e'=e/\t=s
         ·obtain⟨rfl,rfl⟩:=h1
          rw[HUB.out];simp
         ·have:(decide (e'=e) && decide (t=s))=false:=by
           rw[Bool.and_eq_false_iff,decide_eq_false_iff_not,decide_eq_false_iff_not]
           by_cases h2:e'=e
           ·exact .inr fun h3=>h1 ⟨h2,h3⟩
           ·exact .inl h2
          rw[this];simp))
        obtain⟨dd,hdd⟩:∃dd,e*65=dd:=⟨_,rfl⟩
        rw[hdd] at HC
        go_still_tail 9,(by kernel_rfl)
        go_wp2_with fail
        try rw[hdd]
        refine(HC.out _ (aA.refl aB _).drew).mono ?_;rintro e5 w6 ⟨rfl,hw6,hk6⟩;have HW6:Hid (bF w6 B (fun _=>none) d (l.take (k+1))):=O (by rw[List.take_add_one,HE.out];exact hw6);have hk7:=(aA.refl (fun j=>j=B) wq41).drew.trans hk6;have HT6:=O (HT5.out.keep hk7 hAB);have HK6:=O (HK5.out.trans' hk7 (U:=aB) (fun _ _ h=>h) (fun i hi e=>by have:=HBE.out;omega));clear hw6 hk6 hk7 HC;go_wp2_with fail
        go_roundw
        case rel=>exact⟨k+1,by omega,by go_num,HW6,HT6,HK6,HA2⟩
        case measure=>simp[intOf];omega
       ·refine tnb 10 (.bool false) rfl hS1 ?_
        refine tna 11 (.bool false) rfl hS1 ?_;refine wpAnyH_done (by kernel_rfl) ?_ _;have HKR:=O (HSE.out _ hS1);clear hS1 HSE HSI;have HK5:=O (HK4.out.trans HKR.out);have HT5:=O (HT4.out.keep HKR.out id)
        have HW5:Hid (bF _ B (fun _=>none) d (l.take (k+1))):=O ((HW4.out.keep HKR.out id).congr fun y=>by
         rw[List.take_add_one,HE.out];show y∈l.take k↔y∈l.take k++[_];rw[List.mem_append,List.mem_singleton];refine⟨.inl,fun h=>h.elim id fun h=>?_⟩;rw[h];exact of_decide_eq_true HUB.out)
        clear HKR HU;go_wp2_with fail
        go_roundw
        case rel=>exact⟨k+1,by omega,by go_num,HW5,HT5,HK5,HA2⟩
        case measure=>simp[intOf];omega
     ·obtain rfl:n=k:=by omega
      have hbt:bb=true:=by
       rw[HALL.out];have h:=HA.out
       rwa [List.take_of_length_le (by rw[HN.out];exact Nat.le_refl _)] at h
      have hw:=HW.out;rw[List.take_of_length_le (by rw[HN.out];exact Nat.le_refl _)] at hw;have hbw:B<wr.heap.size:=hw.lt;have HC:=O (G7 wr A B d z _ l HT.out hw hbd.2.1 (by omega) hbd.2.2.2);clear hw;go_wp2_with fail;refine HC.out.mono ?_;rintro e w6 ⟨rfl,c',g1,g2,g3,g4⟩;have hws:=HK.out.size;have hAw:w.heap.size≤A:=by have:=HBE.out;omega
      have HLD:Hid (cP w6 w.heap.size A B c' ((d:Int).toNat) ((z:Int).toNat) l):=O (by
       rw[Int.toNat_natCast,Int.toNat_natCast];refine⟨HT.out.keep g4 hAB,g1,fun d' hd=>?_,g3,hbd,hAw,by have:=HBE.out;omega,fun d' g hd hg=>?_⟩
       ·obtain⟨g,h5,-,h6⟩:=g2 d' hd
        exact⟨g,h5,h6⟩
       ·obtain⟨g',h5,h6,-⟩:=g2 d' hd
        rw[hg] at h5;cases h5
        omega)
      have HKF:=O (HK.out.trans' g4 (U:=aB) (fun _ _ h=>h) (fun i hi e=>by have:=HBE.out;omega));clear g1 g2 g3 g4 HC;go_wp2_with fail
      go_ret2
      exact HPG.out hbt _ _ _ _ HLD.out HKF.out _ rfl
    ·have hbf:bb=false:=by
      rw[←HBB.out];unfold sC;simp[h4]
     have i1:¬D<2:=by omega
     have i2:¬8<D:=by omega
     have i3:¬S<8:=by omega
     have i4:4096<S:=by omega
     have d1:decide (D<2)=false:=decide_eq_false i1;have d2:decide (8<D)=false:=decide_eq_false i2;have d3:decide (S<8)=false:=decide_eq_false i3;have d4:decide (4096<S)=true:=decide_eq_true i4;go_enter Tryz.func82,Tryz.ntmps82;go_wp2_with fail
     go_ret2
     exact HPB.out hbf _ HK0.out _ rfl
   ·have hbf:bb=false:=by
     rw[←HBB.out];unfold sC;simp[h3]
    have i1:¬D<2:=by omega
    have i2:¬8<D:=by omega
    have i3:S<8:=by omega
    have d1:decide (D<2)=false:=decide_eq_false i1;have d2:decide (8<D)=false:=decide_eq_false i2;have d3:decide (S<8)=true:=decide_eq_true i3;go_enter Tryz.func82,Tryz.ntmps82;go_wp2_with fail
    go_ret2
    exact HPB.out hbf _ HK0.out _ rfl
  ·have hbf:bb=false:=by
    rw[←HBB.out];unfold sC;simp[h2]
   have i1:¬D<2:=by omega
   have i2:8<D:=by omega
   have d1:decide (D<2)=false:=decide_eq_false i1;have d2:decide (8<D)=true:=decide_eq_true i2;go_enter Tryz.func82,Tryz.ntmps82;go_wp2_with fail
   go_ret2
   exact HPB.out hbf _ HK0.out _ rfl
 ·have hbf:bb=false:=by
   rw[←HBB.out];unfold sC;simp[h1]
  have i1:D<2:=by omega
  have d1:decide (D<2)=true:=decide_eq_true i1;go_enter Tryz.func82,Tryz.ntmps82;go_wp2_with fail
  go_ret2
  exact HPB.out hbf _ HK0.out _ rfl
end
end Go.Proofs.YthihofpfonfjfaaGreatDoor
