import Derived.Test.YtiinnfhjpaeffaaGreatA1
import Derived.Test.YtiinnfhjpaeffaaGreatA9
import Derived.Conc.LoneSelectN
namespace Go.Proofs.YtiinnfhjpaeffaaGreat
set_option maxHeartbeats 64000000
set_option maxRecDepth 100000
set_option linter.unusedVariables false
section
open Go.RowKit Go.Maps Go.ChangeMaps
open Go.Conc (run_len_chan)
def Be(w:World)(b D Z:Nat)(L:List Ad)(e:Ending)(w':World):Prop:=
 e=.returned (.tuple #[])/\∃c:Nat->Option Nat,bP w' b c D L/\(∀d,d<D->∃g,c d=some g/\w.heap.size≤g/\fK w' g Z (aZ L d Z))/\(∀d e g,d<D->e<D->c d=some g->c e=some g->d=e)/\aA (fun k=>k=b) w w'
structure sH(w:World)(b D Z:Nat)(L:List Ad)(c:Nat->Option Nat)(i:Nat)(w':World):Prop where
 words:bP w' b c D L
 chans:∀d,d<i->∃g,c d=some g/\w.heap.size≤g/\fK w' g Z (aZ L d Z)
 inj:∀d e g,d<i->e<i->c d=some g->c e=some g->d=e
 keep:aA (fun k=>k=b) w w'
theorem sH.next{w w' f:World}{b D Z i g:Nat}{L:List Ad}{c:Nat->Option Nat}(h:sH w b D Z L c i w')(A:b<w.heap.size)(z:bP f b (fun e=>if e=i then some g else c e) D L)(t:fK f g Z (aZ L i Z))(C:w'.heap.size≤g)(k:aA (fun k=>k=b) w' f) :
 sH w b D Z L (fun e=>if e=i then some g else c e) (i+1) f:=by
 have E:=h.keep.size;refine⟨z,fun d u=>?_,fun d e q u B j a=>?_,h.keep.trans k⟩
 ·by_cases e:d=i
  ·subst e
   exact⟨g,if_pos rfl,by omega,t⟩
  ·obtain⟨q,n,v,s⟩:=h.chans d (by omega)
   exact⟨q,by rw[←n];exact if_neg e,v,s.keep k (fun e=>by omega)⟩
 ·have m:∀d q,d<i->c d=some q->q<w'.heap.size:=fun d q u y=>by
   obtain⟨F,n,-,s⟩:=h.chans d u;rw[y] at n;cases n
   exact s.lt
  by_cases o:d=i<;>by_cases p:e=i
  ·omega
  ·simp only[o,p,if_true,if_false] at j a
   cases j
   have:=m e g (by omega) a;omega
  ·simp only[o,p,if_true,if_false] at j a
   cases a
   have:=m d g (by omega) j;omega
  ·simp only[o,p,if_false] at j a
   exact h.inj d e q (by omega) (by omega) j a
theorem Ii(w:World)(a b D Z:Nat)(c:Nat->Option Nat)(L:List Ad)(m:gO w a (Z:Int) b D)(v:bP w b c D L)(S:D≤8)(A:5≤Z)(K:Z≤4096):Calls Tryz.prog 180 #[.pointer a] w (Be w b D Z L):=by
 have p:=v.lt
 have o:a≠b:=by
  intro e;subst e;obtain⟨R,n,-⟩:=v.row;unfold gO at m;rw[m] at n;cases n
 have E:=O m;have J:=O v;have t:=m.c1;have s:=m.c0;clear m v;go_in;go_wp2_with fail
 go_loopw [8] (fun i wr=>∃(k:Nat) (u:Nat->Option Nat),k≤D/\i=.int .i64 k/\Hid (sH w b D Z L u k wr)) (fun i _=>D-(intOf i).toNat)
 case atStart=>exact⟨0,c,Nat.zero_le _,rfl,O ⟨J.out,fun d h=>absurd h (Nat.not_lt_zero _),fun d e q h=>absurd h (Nat.not_lt_zero _),aA.refl _ _⟩⟩
 case round =>
 obtain⟨k,u,T,rfl,j⟩:=hrel;clear s t;have t:=(E.keep j.keep o).c1;have s:=(E.keep j.keep o).c0
 by_cases B:k<D
 ·have P:(k:Int)<(D:Int):=by omega
  have N:(0:Int)≤(k:Int):=by omega
  have C:=O (fun I (Q:aA aB wr I)=>If I b D u L (j.words.keep Q id) k Z B A K);go_wp2_with fail
  go_still_tail 10,(by kernel_rfl)
  go_wp2_with fail;refine(C.out _ (aA.refl aB _).drew).mono ?_;rintro e U ⟨rfl,g,n,F,G,H⟩;have y:=O (j.next p n F G ((aA.refl (fun k=>k=b) wr).drew.trans H));clear n F G H C;go_wp2
  go_roundw
  case rel=>exact⟨k+1,_,by omega,by go_num,y⟩
  case measure=>simp[intOf];omega
 ·obtain rfl:D=k:=by omega
  have f:Be w b D Z L (.returned (.tuple #[])) wr:=⟨rfl,u,j.words,j.chans,j.inj,j.keep⟩
  have z:=O f;clear f;go_wp2_with fail
  go_end0
  exact z.out
theorem Ep(w:World)(lo a b D Z:Nat)(c:Nat->Option Nat)(L:List Ad)(h:dU w lo a b c D Z L):Calls Tryz.prog 220 #[.pointer a] w (Of w (cE L D Z)):=by
 have I:=O h;have hbd:=h.bd;have v:D≠0:=by omega
 have s:=CL w a D Z _ h.top;rw[decide_eq_false v] at s;have s:=O s;clear h v;go_in;go_wp2_with fail;refine s.mono ?_;rintro e w1 ⟨rfl,rfl⟩;clear s;have z:=I.top.c1;go_wp2_with fail
 go_loopw [3,12] (fun t i wr=>∃(k:Nat) (J:Option Addr) (K:Nat),k≤D/\t=.slice J k K/\i=.int .i64 k/\Hid (wr.ownsRow w.heap.size 3 1 (.slice J k K) k ((cE L k Z).map fun x=>.int .i64 x))/\Hid (aA aB w wr)) (fun _ i _=>D-(intOf i).toNat)
 case atStart=>exact⟨0,none,0,Nat.zero_le _,rfl,rfl,O (World.ownsRow_nil _ _ _ _),O (aA.refl _ _)⟩
 case round =>
 obtain⟨k,J,K,hk,rfl,rfl,HO,o⟩:=hrel;clear z;have z:=o.cell I.top.c1 id
 by_cases F:k<D
 ·have hki:(k:Int)<(D:Int):=by omega
  have hk0:(0:Int)≤(k:Int):=by omega
  obtain⟨gc,C,B⟩:=I.chans k F;have A:=o.cell (I.words.chan F) id;rw[C] at A;obtain⟨sn,rn,V⟩:=B.keep o.out id;have f:=fun ty=>run_len_chan (P:=Tryz.prog) 251 ty Tryz.underlying251 V
  have g:(((aZ L k Z).map fun x=>Value.int .i64 x).toArray).size=(aZ L k Z).length:=by rw[List.size_toArray,List.length_map]
  rw[g] at f;obtain⟨q,Y⟩:∃q,(aZ L k Z).length=q:=⟨_,rfl⟩
  rw[Y] at f;have N:Hid (cE L (k+1) Z=cE L k Z++[(q:Int)]):=O (by unfold cE;rw[List.range_succ,List.map_append,←Y];rfl);have HGB:=O V;obtain⟨w8,H,j,y,hs8⟩:=aS wr #[.int .i64 (q:Int)] 3;have S:Hid (Rd w8 1 (.slice (wr.heap.size) 1 1) 1 [.int .i64 (q:Int)]):=O (dE (n:=1) (size:=1) (vs:=[.int .i64 (q:Int)]) y rfl (by unfold maxLen;omega));have u:=O (j.owns HO.out fun _ _=>id);have p:=O (o.trans j);have G:w.heap.size≤w8.heap.size:=p.size;clear j y hs8 V g Y B C;obtain⟨oo,X⟩:∃oo,k*65=oo:=⟨_,rfl⟩
  rw[X] at A
  go_wp2_with (first
   | (at_builtin;try rw[H]
      refine aL rfl (.tmp 15) (.tmp 25) 42 rfl w.heap.size 3 (.int .i64 0) 1 8 Tryz.underlying42 E6 rfl (by decide) (.slice J k K) k ((cE L k Z).map fun x=>.int .i64 x) rfl u.out (.slice (wr.heap.size) 1 1) 1 [.int .i64 (q:Int)] rfl S.out (CM [(q:Int)]) (by unfold maxLen;omega) (by omega) G ?_;intro v' w5 m E W T;obtain⟨va,vc,rfl,-,-⟩:=(Rd.of_owns m).form;have R:Hid (w5.ownsRow w.heap.size 3 1 (.slice va (k+1) vc) (k+1) ((cE L (k+1) Z).map fun x=>.int .i64 x)):=O (by rw[N.out,List.map_append];exact m);have Q:=O (p.trans' E (U:=aB) (fun _ _ h=>h) (fun i hi e=>by have:=aW u.out e;omega));clear m E W T H))
  go_roundw
  case rel=>exact⟨k+1,va,vc,by omega,rfl,by go_num,R,Q⟩
  case measure=>simp[intOf];omega
 ·obtain rfl:D=k:=by omega
  go_wp2;go_ret;exact⟨_,rfl,by rw[jK];exact HO.out,o.out⟩
end
section
open Go.RowKit Go.Maps Go.ChangeMaps
def bD(L:List Ad)(Z:Nat)(l:List Nat):List Ad:=l.map fun(d:Nat)=>(⟨(d:Int),(aZ L d Z).headD 0⟩:Ad)
variable{L M:List Ad}{Z d D cp:Nat}{w:World}{x:Int}{r:List Int}{l:List Nat}{th:List Bool}
theorem Et(L:List Ad)(Z:Nat)(l:List Nat)(d:Nat):bD L Z (l++[d])=bD L Z l++[(⟨(d:Int),(aZ L d Z).headD 0⟩:Ad)]:=by unfold bD;rw[List.map_append];rfl
theorem lP(L:List Ad)(Z:Nat)(l:List Nat):(bD L Z l).length=l.length:=by simp[bD]
theorem uD:∀{l:List Nat},d ∉ l->aZ (M++bD L Z l) d Z=aZ M d Z:=by
 intro l b;refine pL fun s _ _=>?_
 unfold dY;rw[decide_eq_decide,List.mem_append];refine⟨fun h=>h.elim id fun h=>?_,.inl⟩;unfold bD at h;obtain⟨e,c,a⟩:=List.mem_map.1 h;injection a with f _
 have:e=d:=by omega
 subst this;exact absurd c b
theorem dU.take{B C:World}{lo a b:Nat}{c:Nat->Option Nat}(h:dU w lo a b c D Z M){g:Nat}(F:d<D)(p:c d=some g)(N:aZ M d Z=x::r)
 (E:fK B g Z r) (G:aA (fun k=>k=g) w B) (K:bP C b c D (M++[⟨(d:Int),x⟩])) (A:aA (fun k=>k=b) B C):dU C lo a b c D Z (M++[⟨(d:Int),x⟩]):=by
 obtain⟨t,rfl,Q,R,S,T,z⟩:=nD N
 have y:g≠a:=by
  rintro rfl;obtain⟨s,W,m⟩:=E;obtain⟨J,f,n⟩:=h.chans d F;rw[p] at f;cases f
  obtain⟨V,U,u⟩:=n;have:=h.top;unfold gO at this;rw[u] at this;cases this
 have v:b≠a:=by
  rintro rfl;obtain⟨H,m,-⟩:=h.words.row;have:=h.top;unfold gO at this;rw[m] at this;cases this
 have o:∀e q,e<D->c e=some q->q≠b:=by
  rintro e q j P rfl;obtain⟨J,f,n⟩:=h.chans e j;rw[P] at f;cases f
  obtain⟨V,U,u⟩:=n;obtain⟨H,m,-⟩:=h.words.row;rw[u] at m;cases m
 refine⟨(h.top.keep G (fun e=>y e.symm)).keep A (fun e=>v e.symm),K,fun e j=>?_,h.inj,h.bd,h.lo⟩
 by_cases i:e=d
 ·subst i
  exact⟨g,p,by rw[z];exact E.keep A (o e g j p)⟩
 ·obtain⟨q,f,n⟩:=h.chans e j
  refine⟨q,f,?_⟩;rw[CG i];exact(n.keep G (fun I=>i (h.inj e d q j F f (by rw[p,I])))).keep A (o e q j f)
theorem Nu{v:Value}(h:Rd w 1 v l.length (nV l)){k x:Nat}(c:l[k]?=some x):∃g o b,v=.slice (some ⟨g,o,none⟩) l.length b/\w.cell? ⟨g,o+k,none⟩=some (.int .i64 (x:Int)):=by
 obtain⟨h0,a,b,rfl,j,m,n,e⟩:=h;have i:=(List.getElem?_eq_some_iff.1 c).1;obtain⟨g,o,rfl,f⟩:=e (by unfold nV;rw[List.length_map];omega);exact⟨g,o,b,rfl,f k _ (by unfold nV;rw[List.getElem?_map,c];rfl)⟩
def iM(w:World)(lo a b:Nat)(c:Nat->Option Nat)(D Z:Nat)(L:List Ad)(th:List Bool)(cp:Int)(e:Ending)(w':World):Prop:=
 if jL (cE L D Z) th cp then
  match cC (cE L D Z) th cp.toNat with
  | none=>e=.returned (.tuple #[.slice none 0 0,.int .i64 15])/\aA aB w w'
  | some l=>∃v,e=.returned (.tuple #[v,.int .i64 0])/\dU w' lo a b c D Z (L++bD L Z l)/\w'.ownsRow w.heap.size 82 2 v l.length (aF (bD L Z l))/\aA (Own a b c D) w w'
 else e=.returned (.tuple #[.slice none 0 0,.int .i64 2])/\aA aB w w'
theorem CN(w:World)(lo a b D Z:Nat)(c:Nat->Option Nat)(L:List Ad)(h:dU w lo a b c D Z L)(vt:Value)(th:List Bool)(cp:Int)(ht:Rd w 1 vt th.length (th.map Value.bool)) :
 Calls Tryz.prog 182 #[.pointer a,vt,.int .i64 cp] w (iM w lo a b c D Z L th cp):=by
 have HL:=O h;have HT:=O ht;obtain⟨ta,tc,rfl,-,-⟩:=ht.form;have hbd:=h.bd;have hD0:D≠0:=by omega
 have HN:=CL w a D Z _ h.top;rw[decide_eq_false hD0] at HN;have HN:=O HN;obtain⟨fr,hfr⟩:∃fr,cE L D Z=fr:=⟨_,rfl⟩
 have W:Hid (fr.length=D):=O (by rw[←hfr];exact jK L D Z);have HF:=Ep w lo a b D Z c L h;rw[hfr] at HF;have HF:=O HF;obtain⟨bb,hbb⟩:∃b,jL fr th cp=b:=⟨_,rfl⟩
 obtain⟨o,ho⟩:∃o,cC fr th cp.toNat=o:=⟨_,rfl⟩
 have V:=O hbb;have HO:=O ho;have X:=O hfr;have HC:=O (fun wx v (k:aA aB w wx) (hr:Rd wx 1 v fr.length (fr.map fun x=>.int .i64 x))=>Es wx v _ fr th cp hr (ht.keep k fun _ _=>id));clear h ht hD0 hbb ho hfr;go_in;go_wp2_with fail;refine HN.mono ?_;rintro e w1 ⟨rfl,rfl⟩;clear HN;go_wp2_with fail;refine HF.mono ?_;rintro e w2 ⟨v,rfl,hov,hk2⟩;have HRF:=O (Rd.of_owns hov);have H:=O hk2;obtain⟨fa,fc,rfl,-,-⟩:=(Rd.of_owns hov).form;clear hov hk2 HF;rw[W.out];have HRFn:=HRF.out;rw[W.out] at HRFn;have F:=HC.out w2 _ H.out HRF.out;rw[W.out] at F;have F:=O F;clear HRFn HC;go_wp2_with fail;refine F.mono ?_;intro e T f;unfold nQ at f;rw[V.out,HO.out] at f;clear F;cases bb
 ·rw[if_neg (by decide)] at f
  obtain⟨rfl,Q⟩:=f;have z:=O (H.trans Q);have HP:Hid (∀e,e=.returned (.tuple #[.slice none 0 0,.int .i64 2])->iM w lo a b c D Z L th cp e T):=O (fun e he=>by unfold iM;rw[X.out,V.out,if_neg (by decide)];exact⟨he,z.out⟩);clear Q;go_wp2
  go_ret2
  exact HP.out _ rfl
 ·rw[if_pos rfl] at f
  cases o with
  | none =>
    obtain⟨rfl,Q⟩:=f;have z:=O (H.trans Q);have HP:Hid (∀e,e=.returned (.tuple #[.slice none 0 0,.int .i64 15])->iM w lo a b c D Z L th cp e T):=O (fun e he=>by unfold iM;rw[X.out,V.out,if_pos rfl,HO.out];exact⟨he,z.out⟩);clear Q;go_wp2
    go_ret2
    exact HP.out _ rfl
  | some l =>
    obtain⟨v,rfl,hnr,Q⟩:=f;have P:=fE HO.out;have HND:=O P.2.2.2.1
    have HIN:Hid (∀d∈l,d<D/\∃x r,aZ L d Z=x::r):=O (fun d hd=>by
     have B:=(P.2.2.2.2 d hd)
     rw[W.out] at B;have C:=B.2;unfold eN at C;rw[Bool.and_eq_true,decide_eq_true_eq,←X.out,qI L B.1] at C;refine⟨B.1,?_⟩;cases e:aZ L d Z with
     | nil=>rw[e] at C;simp at C
     | cons x r=>exact⟨x,r,rfl⟩)
    have z:=O (H.trans Q);have y:=hnr.of H.out;obtain⟨q,hq⟩:∃q,l.length=q:=⟨_,rfl⟩
    have hq8:q≤8:=by
     have B:=P.2.1;have C:=P.2.2.2.1;have h3:l.length≤(List.range D).length:=List.Nodup.length_le_of_subset C fun d hd=>List.mem_range.2 (HIN.out d hd).1
     rw[List.length_range] at h3;omega
    have HQ:=O hq;obtain⟨va,vc,rfl,-,-⟩:=y.1.form;have A:=O y.1;have HFB:=O y.2
    have HVL:Hid (0<l.length->∀i,(Value.slice va l.length vc).ownBlock=some i->i<T.heap.size):=O (fun h0 i E=>by
     obtain⟨j,B,C⟩:=y.1.lt (by unfold nV;rw[List.length_map];exact h0);rw[E] at B;cases B
     exact C)
    have HK33:Hid (aA (Own a b c D) T T):=O (aA.refl _ _);have hw33:=z.size;rw[hq] at A HFB HVL;have HL3:=O (HL.keep0 z.out);have K:Hid (∀k,Own a b c D k->k<w.heap.size):=O (fun k Q=>(HL.own_lt Q).2);clear Q hnr y P hq;rw[HQ.out];go_wp2_with fail
    go_loopw [10,30] (fun t i wr=>∃(k:Nat) (pa:Option Addr) (pc:Nat),k≤q/\t=.slice pa k pc/\i=.int .i64 k/\Hid (dU wr lo a b c D Z (L++bD L Z (l.take k)))/\Hid (wr.ownsRow T.heap.size 82 2 (.slice pa k pc) k (aF (bD L Z (l.take k))))/\Hid (aA (Own a b c D) T wr)/\Hid (Rd wr 1 (.slice va q vc) q (nV l))) (fun _ i _=>q-(intOf i).toNat)
    case atStart=>exact⟨0,none,0,Nat.zero_le _,rfl,rfl,O (by simpa [bD] using HL3.out),O (World.ownsRow_nil _ _ _ _),HK33,A⟩
    case round =>
    clear HL3 A;obtain⟨k,pa,pc,Q,rfl,rfl,g,J,HK,A⟩:=hrel
    by_cases hlt:k<q
    ·have hki:(k:Int)<(q:Int):=by omega
     have hk0:(0:Int)≤(k:Int):=by omega
     obtain⟨d,hd⟩:∃d,l[k]?=some d:=⟨l[k]'(by rw[HQ.out];exact hlt),List.getElem?_eq_getElem _⟩
     have hrd:=A.out;rw[←HQ.out] at hrd;obtain⟨p,o,cap,hv,hcx⟩:=Nu hrd hd;rw[HQ.out] at hv;have e1:va=some ⟨p,o,none⟩:=by cases hv;rfl
     subst e1;obtain⟨u,x,r,hf⟩:=HIN.out d (List.mem_of_getElem? hd);have hTK:l.take (k+1)=l.take k++[d]:=by rw[List.take_add_one,hd];rfl
     have hnk:d ∉ l.take k:=by
      intro hm;obtain⟨j,hj⟩:=List.getElem?_of_mem hm;have hjk:=(List.getElem?_eq_some_iff.1 hj).1;rw[List.length_take] at hjk;rw[List.getElem?_take,if_pos (by omega)] at hj;obtain⟨B,C⟩:=List.getElem?_eq_some_iff.1 hj;obtain⟨h3,h4⟩:=List.getElem?_eq_some_iff.1 hd;exact List.pairwise_iff_getElem.1 HND.out j k B h3 (by omega) (C.trans h4.symm)
     have hTT:bD L Z (l.take (k+1))=bD L Z (l.take k)++[(⟨(d:Int),x⟩:Ad)]:=by rw[hTK,Et,hf];rfl
     obtain⟨t,rfl,ht1,ht5,ht2,ht3,ht4⟩:=nD hf;have hfm:aZ (L++bD L Z (l.take k)) d Z=(t:Int)::r:=by rw[uD hnk];exact hf
     obtain⟨gc,hgc,hch⟩:=g.chans d u;rw[hfm] at hch;have G:=Ic wr b (d*65) gc Z (t:Int) r (by have h:=g.words.chan u;rw[hgc] at h;exact h) hch;have HTT:=O hTT;have HFM:=O hfm;have G:=O G;have hc1:=g.top.c1;have hdi:(d:Int)<(D:Int):=by omega
     have hd0:(0:Int)≤(d:Int):=by omega
     have Y:=O hgc;have HZ:Hid (t<4096):=O (by have:=HL.bd;omega);have hgw:gc<w.heap.size:=K.out gc (.inr (.inr ⟨d,u,hgc⟩));have hbw:b<w.heap.size:=K.out b (.inr (.inl rfl))
     have HUT:Hid (dY (L++bD L Z (l.take k)) d t=false):=O (by
      have B:(t:Int)∈aZ (L++bD L Z (l.take k)) d Z:=by rw[hfm];exact List.mem_cons_self ..
      obtain⟨s,C,-,-,h3⟩:=sE.1 B;have:t=s:=by omega
      subst this;exact h3)
     clear hrd hv hd hf hTK hnk hTT hfm hch ht1 ht5 ht2 ht3 ht4 hgc;obtain⟨M,hM⟩:∃M,L++bD L Z (l.take k)=M:=⟨_,rfl⟩
     have HME:=O hM;rw[hM] at g HFM HUT;clear hM;obtain⟨dd,hdd⟩:∃dd,d*65=dd:=⟨_,rfl⟩
     rw[hdd] at G;go_wp2_with fail
     try rw[hdd]
     refine G.mono ?_;rintro e w5 ⟨rfl,N,m⟩
     have hwd5:=g.words.keep m (fun e=>by
      obtain⟨s,rr,h3⟩:=N;obtain⟨cs,h4,-⟩:=g.words.row;obtain⟨g',h5,s',r',h6⟩:=g.chans d u;rw[Y.out] at h5;cases h5
      rw[←e,h4] at h6;cases h6)
     have HTN:=O (Bc w5 b D c M (M++[⟨(d:Int),(t:Int)⟩]) hwd5 d t u HZ.out (fun e s he hs=>by
      rw[oR]
      by_cases B:e=d/\s=t
      ·obtain⟨rfl,rfl⟩:=B
       rw[HUT.out];simp
      ·have:(decide (e=d) && decide (s=t))=false:=by
        rw[Bool.and_eq_false_iff,decide_eq_false_iff_not,decide_eq_false_iff_not]
        by_cases C:e=d
        ·exact .inr fun h3=>B ⟨C,h3⟩
        ·exact .inl C
       rw[this];simp))
     have HCH5:=O N;have I:=O m
     have hag:a≠gc:=fun e=>by
      obtain⟨g',h5,s',r',h6⟩:=g.chans d u;rw[Y.out] at h5;cases h5
      have h7:=g.top;unfold gO at h7;rw[e,h6] at h7;cases h7
     have hc1:=(g.top.keep m hag).c1;rw[hdd] at HTN;clear N m hwd5 G hag;go_wp2_with fail
     try rw[hdd]
     refine HTN.mono ?_;rintro e w6 ⟨rfl,hwd6,R⟩;have HL6:=O (g.take u Y.out HFM.out HCH5.out I.out hwd6 R);have HO6:=O (R.owns (I.owns J.out (fun i E e=>by have:=aW J.out E;omega)) (fun i E e=>by have:=aW J.out E;omega));have HK6:=O ((HK.trans' I.out (U:=Own a b c D) (fun _ _ h=>h) (fun i _ h=>.inr (.inr ⟨d,u,by rw[Y.out,h]⟩))).trans' R (U:=Own a b c D) (fun _ _ h=>h) (fun i _ h=>.inr (.inl h)));have HR6:=O ((A.keep I.out (fun i E e=>by have:=HFB.out i E;omega)).keep R (fun i E e=>by have:=HFB.out i E;omega));clear hwd6 R HTN HCH5 I g J A HK hc1;obtain⟨w8,hw8,S,hb8,hs8⟩:=aS w6 (aM ⟨(d:Int),(t:Int)⟩).toArray 82;have HRN:Hid (Rd w8 2 (.slice (w6.heap.size) 1 1) 1 (aM ⟨(d:Int),(t:Int)⟩)):=O (dE (n:=1) (size:=2) (vs:=aM ⟨(d:Int),(t:Int)⟩) hb8 rfl (by unfold maxLen;omega));have HO8:=O (S.owns HO6.out fun _ _=>id);have HK8:=O (HK6.trans' S (U:=Own a b c D) (fun _ _ h=>h) (fun _ _ h=>h.elim));have HL8:=O (HL6.keep0 S);have HR8:=O (HR6.keep S fun _ _=>id);have hsz8:T.heap.size≤w8.heap.size:=HK8.size;have HAC:Hid (aF (bD L Z (l.take (k+1)))=aF (bD L Z (l.take k))++aM ⟨(d:Int),(t:Int)⟩):=O (by rw[HTT.out,bO,fY]);clear S hb8 hs8 HO6 HK6 HL6 HR6
     go_wp2_with (first
      | ((with_reducible show WL _ (.buildSlice _ 1 _));refine bL rfl 23 82 (.tmp 57) rfl Tryz.underlying23 cR (by decide) (aM ⟨(d:Int),(t:Int)⟩) rfl (by decide) rfl ?_;rw[hw8])
      | (at_builtin;refine aL rfl (.tmp 54) (.tmp 58) 23 rfl T.heap.size 82 bT 2 16 Tryz.underlying23 cR rfl (by decide) (.slice pa k pc) k (aF (bD L Z (l.take k))) rfl HO8.out (.slice (w6.heap.size) 1 1) 1 (aM ⟨(d:Int),(t:Int)⟩) rfl HRN.out (bG _) (by unfold maxLen;omega) (by omega) hsz8 ?_
         intro v' w9 ho5 m hn5 hb5;obtain⟨va9,vc9,rfl,-,-⟩:=(Rd.of_owns ho5).form;have HO5:Hid (w9.ownsRow T.heap.size 82 2 (.slice va9 (k+1) vc9) (k+1) (aF (bD L Z (l.take (k+1))))):=O (by rw[HAC.out];exact ho5);have HK9:=O (HK8.trans' m (U:=Own a b c D) (fun _ _ h=>h) (fun i E e=>by have:=aW HO8.out e;omega));have HL9:=O (HL8.keep m (fun i E ho=>by have:=aW HO8.out E;have:=K.out i ho;omega));have HR9:=O (HR8.keep m (fun i E e=>by have:=aW HO8.out e;have:=HVL.out (by omega) i E;omega));clear ho5 m hn5 hb5 hw8))
     have HLF:Hid (dU w9 lo a b c D Z (L++bD L Z (l.take (k+1)))):=O (by rw[HTT.out,←List.append_assoc,HME.out];exact HL9.out)
     go_roundw
     case rel=>exact⟨k+1,va9,vc9,by omega,rfl,by go_num,HLF,HO5,HK9,HR9⟩
     case measure=>simp[intOf];omega
    ·obtain rfl:q=k:=by omega
     have htk:l.take q=l:=List.take_of_length_le (by rw[HQ.out];exact Nat.le_refl _);have hHL:=g.out;have hHO:=J.out;rw[htk] at hHL hHO;have HP:Hid (∀e,e=.returned (.tuple #[.slice pa q pc,.int .i64 0])->iM w lo a b c D Z L th cp e wr):=O (fun e he=>by unfold iM;rw[X.out,V.out,if_pos rfl,HO.out];exact⟨_,he,hHL,by rw[HQ.out];exact aQ hHO hw33,z.trans' HK.out (U:=Own a b c D) (fun _ _ h=>h.elim) (fun _ _ h=>h)⟩);clear hHL hHO htk;go_wp2
     go_ret2
     exact HP.out _ rfl
theorem Ke{l m:List Int}(h:l.length=m.length)(c:∀i,i<l.length->l.getD i 0=m.getD i 0):l=m:=by
 refine List.ext_getElem h fun i a b=>?_
 have:=c i a
 rwa [List.getD_eq_getElem?_getD,List.getD_eq_getElem?_getD,List.getElem?_eq_getElem a,List.getElem?_eq_getElem b] at this
theorem wP(c:cC (cE M D Z) th cp=some l)(f:d∈l):d<D/\∃x r,aZ M d Z=x::r:=by
 have a:=(fE c).2.2.2.2 d f;rw[jK] at a;have b:=a.2;unfold eN at b;rw[Bool.and_eq_true,decide_eq_true_eq,qI M a.1] at b;refine⟨a.1,?_⟩;cases e:aZ M d Z with
 | nil=>rw[e] at b;simp at b
 | cons x r=>exact⟨x,r,rfl⟩
theorem yW{x:Ad}:x∈bD M Z l↔∃d∈l,x=⟨(d:Int),(aZ M d Z).headD 0⟩:=by
 unfold bD;rw[List.mem_map];exact⟨fun ⟨d,a,b⟩=>⟨d,a,b.symm⟩,fun ⟨d,a,b⟩=>⟨d,a,b.symm⟩⟩
theorem F6(f:d∈l)(a:aZ M d Z=x::r):aZ (M++bD M Z l) d Z=r:=by
 obtain⟨t,rfl,-,-,-,-,c⟩:=nD a;rw[←c];refine pL fun s _ _=>?_
 unfold dY;rw[decide_eq_decide,List.mem_append,List.mem_append,yW,List.mem_singleton];refine or_congr Iff.rfl ⟨?_,fun h=>⟨d,f,by rw[h,a];rfl⟩⟩;rintro⟨e,g,h⟩;have b:d=e:=by have:=congrArg Ad.dev h;simp only at this;omega
 subst b;rw[h,a];rfl
theorem wQ(c:cC (cE M D Z) th cp=some l):cE (M++bD M Z l) D Z=mD (cE M D Z) l:=by
 have a:=fE c;refine Ke (by rw[JW,jK,jK]) fun d b=>?_
 rw[jK] at b;rw[JX l _ a.2.2.2.1 (fun i f=>(a.2.2.2.2 i f).1),qI _ b,qI _ b]
 by_cases h:d∈l
 ·obtain⟨-,x,r,e⟩:=wP c h
  rw[if_pos h,F6 h e,e];simp
 ·rw[if_neg h,uD h]
  omega
theorem F7{a:List Int}{n:Nat}(h:oN th cp a (n+1)):∃l,cC a th cp=some l/\oN th cp (mD a l) n:=by
 cases h with
 | more b c=>exact⟨_,b,c⟩
theorem In(L:List Ad)(D Z:Nat):sB (cE L D Z)≤D*Z:=by
 unfold sB cE
 induction D with
 | zero=>simp
 | succ D a =>
   rw[List.range_succ,List.map_append,List.map_append,List.sum_append,Nat.succ_mul];have:=sF L D Z;simp only[List.map_cons,List.map_nil,List.sum_cons,List.sum_nil,Int.toNat_natCast];omega
theorem CQ(f:2≤D/\D≤8/\8≤Z/\Z≤4096)(b:th.length=D)(c:1≤cp)(e:cp≤3):jL (cE L D Z) th (cp:Int)=true:=by
 unfold jL uC;rw[jK];simp only[Bool.and_eq_true,decide_eq_true_eq,List.all_eq_true];refine⟨⟨⟨⟨⟨by omega,by omega⟩,b⟩,by omega⟩,by omega⟩,fun x a=>?_⟩;unfold cE at a;obtain⟨d,-,rfl⟩:=List.mem_map.1 a;have:=sF L d Z;exact⟨by omega,by omega⟩
theorem Bf(i:2≤D/\D≤8/\8≤Z/\Z≤4096)(j:cC (cE M D Z) th cp=some l){x:Ad}(k:x∈bD M Z l):fA x (D:Int) (Z:Int)=true/\x ∉ M/\∃d t:Nat,x=⟨(d:Int),(t:Int)⟩/\d∈l/\∀s,5≤s->s<t->dY M d s=true:=by
 obtain⟨d,a,rfl⟩:=yW.1 k;obtain⟨c,y,r,b⟩:=wP j a;obtain⟨t,rfl,e,f,g,h,-⟩:=nD b;rw[b];show fA ⟨(d:Int),(t:Int)⟩ _ _=true/\(⟨(d:Int),(t:Int)⟩:Ad) ∉ M/\_;exact⟨Me i c f e,of_decide_eq_false g,d,t,rfl,a,h⟩
theorem Eu(a:cC (cE M D Z) th cp=some l):(bD M Z l).Nodup:=by
 unfold bD;rw[List.Nodup,List.pairwise_map];refine List.Pairwise.imp ?_ (fE a).2.2.2.1;intro d e b h;have:=congrArg Ad.dev h;simp only at this;omega
def jB:Value:=.agg (Array.replicate 64 (.int .u64 0)++#[.chan none])
theorem Lu:(Tryz.prog.info? 253).map (fun i=>(i.zero,i.size,i.bytes))=some (some jB,65,520):=by kernel_rfl
theorem zY{ops:Array Oper}{rest:List Oper}{o:Oper}{a:Act}{Q:Exit->Act->World->Prop}(I:o.guard=none)(l c:Operand)(t:o.op=Op.makeSlice 246 l c)
 (n:Nat) (K:a.eval l=.int .i64 (n:Int)) (G:a.eval c=.int .i64 (n:Int)) (P:n≤8)
 (F:∀f,bP f w.heap.size (fun _=>none) n []->aA aB w f->wpList Tryz.prog ops Q rest (a.put o.dst (.slice (w.heap.size) n n)) f) :
 wpList Tryz.prog ops Q (o::rest) a w:=by
 have h:(Tryz.prog.info? 253).map (fun i=>(i.zero,i.size,i.bytes))=some (some jB,65,520):=Lu;obtain⟨i,J,N⟩:=Option.map_eq_some_iff.1 h;injection N with u b
 injection b with b v
 refine wpList_make_full w I l c 246 t w.heap.size 253 i jB 65 Tryz.underlying246 J u b .i64 .i64 n n n K G rfl rfl (by rw[v];omega) (by unfold maxLen;omega) (Nat.le_refl _) ?_;intro f B C;have s:aA aB w f:=by have:=aA.of_grown C;exact this.mono fun k _ h=>by cases h
 rcases B.2 with⟨q,-⟩|⟨g,A,cur,q,R,E,S,T,y,h7⟩
 ·cases q
 ·cases q
  have p:cur=madeCells jB.cells (n*65):=by
   apply Array.toList_inj.1;rw[←h7,List.take_of_length_le (by rw[Array.length_toList,y];exact Nat.le_refl _)]
  have m:∀j,j<n*65->cur[j]?=some (jB.cells[j % 65]!):=fun j z=>by
   rw[p];unfold madeCells;rw[Array.getElem?_map,Array.getElem?_range,if_pos z];show some (jB.cells[j % jB.cells.size]!)=_;rw[show jB.cells.size=65 from by simp[jB,Value.cells]]
  refine F f ⟨cur,E,y,fun d H k s=>⟨0#64,?_,fun j z=>?_⟩,fun d H=>?_⟩ s
  ·rw[m _ (by omega),show (d*65+k) % 65=k by omega]
   have e:jB.cells[k]! = .int .u64 0:=by
    show (Array.replicate 64 (Value.int .u64 0)++#[Value.chan none])[k]! = _;rw[getElem!_pos _ _ (by simp;omega),Array.getElem_append_left (by simpa using s),Array.getElem_replicate]
   rw[e];rfl
  ·simp[dY]
  ·rw[m _ (by omega),show (d*65+64) % 65=64 by omega]
   rfl
def tD(D S:Int)(u:List Ad):Bool:=decide (2≤D) && decide (D≤8) && decide (8≤S) && decide (S≤4096) && u.all fun x=>fA x D S
def pE(w:World)(D S:Int)(u:List Ad)(e:Ending)(w':World):Prop:=
 if tD D S u then ∃a b c,e=.returned (.tuple #[.pointer (some ⟨a,0,none⟩),.int .i64 0])/\dU w' w.heap.size a b c D.toNat S.toNat u/\aA aB w w'
 else e=.returned (.tuple #[.pointer none,.int .i64 2])/\aA aB w w'
theorem GY(w:World)(D S:Int)(v:Value)(l:List Ad)(hr:Rd w 2 v l.length (aF l)):Calls Tryz.prog 121 #[.int .i64 D,.int .i64 S,v] w (pE w D S l):=by
 obtain⟨bb,hbb⟩:∃b,tD D S l=b:=⟨_,rfl⟩
 have I:=O hbb;have J:Hid (bb=false->∀o,aA aB w o->∀e,e=.returned (.tuple #[.pointer none,.int .i64 2])->pE w D S l e o):=O (fun h o k e he=>by unfold pE;rw[hbb,h,if_neg (by decide)];exact⟨he,k⟩);have HPG:Hid (bb=true->∀o a b c,dU o w.heap.size a b c D.toNat S.toNat l->aA aB w o->∀e,e=.returned (.tuple #[.pointer (some ⟨a,0,none⟩),.int .i64 0])->pE w D S l e o):=O (fun h o a b c hl k e he=>by unfold pE;rw[hbb,h,if_pos rfl];exact⟨a,b,c,he,hl,k⟩);have T:=O (aA.refl aB w);clear hbb;obtain⟨oa,ca,rfl,-,hmm⟩:=hr.form;have K:l.length≤maxLen:=by have h:=hr.2;obtain⟨a',cap',h1,h2,h3,-⟩:=h;omega
 unfold maxLen at K;clear hmm;have HR:=O hr;obtain⟨n,G⟩:∃n,l.length=n:=⟨_,rfl⟩
 have HN:=O G;rw[G] at HR K
 try rw[G]
 clear hr G
 by_cases h1:2≤D
 ·by_cases h2:D≤8
  ·by_cases h3:8≤S
   ·by_cases h4:S≤4096
    ·obtain⟨d,rfl⟩:∃d:Nat,D=(d:Int):=⟨D.toNat,by omega⟩
     obtain⟨z,rfl⟩:∃z:Nat,S=(z:Int):=⟨S.toNat,by omega⟩
     have hbd:2≤d/\d≤8/\8≤z/\z≤4096:=by omega
     have hall:bb=l.all fun x=>fA x (d:Int) (z:Int):=by
      rw[←I.out];unfold tD;rw[decide_eq_true h1,decide_eq_true h2,decide_eq_true h3,decide_eq_true h4];rfl
     have HALL:=O hall;have i1:¬(d:Int)<2:=by omega
     have i2:¬8<(d:Int):=by omega
     have i3:¬(z:Int)<8:=by omega
     have i4:¬4096<(z:Int):=by omega
     have d1:decide ((d:Int)<2)=false:=decide_eq_false i1;have d2:decide (8<(d:Int))=false:=decide_eq_false i2;have d3:decide ((z:Int)<8)=false:=decide_eq_false i3;have d4:decide (4096<(z:Int))=false:=decide_eq_false i4;clear hall;go_in
     go_wp2_with (first
      | ((with_reducible show WL _ (.makeSlice _ _ _));refine zY rfl (.tmp 26) (.tmp 26) rfl d rfl rfl (by omega) ?_
         intro w1 hw1 hk1;obtain⟨w2,hw2,hk2,hb2,hs2⟩:=aS w1 #[.int .i64 (z:Int),.slice (w.heap.size) d d] 248;have HW1:=O (hw1.keep hk2 id);have HT1:Hid (gO w2 w1.heap.size (z:Int) (w.heap.size) d):=O hb2;have HK1:=O (hk1.trans hk2);have hbl:=hw1.lt;clear hw1 hk1 hk2 hb2 hs2))
     clear hw2;obtain⟨B,hB⟩:∃B,w.heap.size=B:=⟨_,rfl⟩
     obtain⟨A,hA⟩:∃A,w1.heap.size=A:=⟨_,rfl⟩
     have R:=O hB;rw[hB,hA] at HT1 hbl;rw[hB] at HW1 ⊢
     try rw[hA]
     have hAB:A≠B:=by omega
     clear hB hA
     go_loopw [32] (fun i wr=>∃k:Nat,k≤n/\i=.int .i64 k/\Hid (bP wr B (fun _=>none) d (l.take k))/\Hid (gO wr A (z:Int) (some ⟨B,0,none⟩) d)/\Hid (aA aB w wr)/\Hid (((l.take k).all fun x=>fA x (d:Int) (z:Int))=true)) (fun i _=>n-(intOf i).toNat)
     case atStart=>exact⟨0,Nat.zero_le _,rfl,HW1,HT1,HK1,O (by simp)⟩
     case round =>
     clear HW1 HT1 HK1;obtain⟨k,hk,rfl,HW,HT,HK,HA⟩:=hrel
     by_cases hlt:k<n
     ·have hki:(k:Int)<(n:Int):=by omega
      have hk0:(0:Int)≤(k:Int):=by omega
      have HRW:=O (HR.keep HK.out fun _ _=>id);have hbw:B<wr.heap.size:=HW.lt;obtain⟨x,h_x⟩:∃x,l[k]?=some x:=⟨l[k]'(by rw[HN.out];exact hlt),List.getElem?_eq_getElem _⟩
      have h_r:=HRW.out;rw[←HN.out] at h_r;obtain⟨gl,ol,cap',h_v,h_at⟩:=fO h_r h_x;have e1:oa=some ⟨gl,ol,none⟩:=by cases h_v;rfl
      subst e1;have HX:=O h_at;have HE:=O h_x;clear h_x h_r h_v h_at
      go_wp2_with (first
       | ((with_reducible show WL _ (.load 82 (.tmp 34)));refine wpList_load_mid rfl 82 (.tmp 34) rfl gl (ol+k*2) rfl (aM x) _ HX.out bB rfl bH ?_)
       | ((with_reducible show WL (some 10) (.alloc 82));refine aV rfl 82 rfl bT eH #[.int .i64 0,.int .i64 0] rfl ?_)
       | ((with_reducible show WL none (.store 82 (.tmp 10) (.tmp 35)));refine aR rfl 82 (.tmp 10) (.tmp 35) rfl wr.heap.size 0 (aM x) rfl rfl #[.int .i64 0,.int .i64 0] 82 (heap_alloc_new _ _) (Nat.le_refl _) bH (bG _) ?_
          intro w3 hb3 hk3;rw[aK _ _ (by rfl)] at hb3;have F:aA aB wr w3:=((aA.refl aB wr).alloc _).trans' hk3 (fun _ _ h=>h) (fun i hi e=>by omega);have Q:=O hb3;have p:=O F;clear hb3 hk3 F)
       | ((with_reducible show WL _ (.load 82 (.tmp 10)));refine wpList_load_mid rfl 82 (.tmp 10) rfl wr.heap.size 0 rfl (aM x) _ (aD Q.out) bB rfl bH ?_))
      have HK3:=O (HK.trans p.out);have HW3:=O (HW.keep p.out id);have HT3:=O (HT.keep p.out id);obtain⟨X,hX⟩:∃X,wr.heap.size=X:=⟨_,rfl⟩
      rw[hX] at Q hbw ⊢;have hwX:w.heap.size≤X:=by rw[←hX];exact HK.size
      clear hX HX p HW HT HK;have HP:=Ih w3 A d (z:Int) _ HT3.out x;obtain⟨mb,hmb⟩:∃m,fA x (d:Int) (z:Int)=m:=⟨_,rfl⟩
      rw[hmb] at HP;have HMB:=O hmb;have HP:=O HP;clear hmb;refine HP.mono ?_;rintro e w4 ⟨rfl,F⟩;have p:=O (HK3.trans F);have W:=O (HW3.keep F id);have V:=O (HT3.keep F id);have HB4:=O (F.blk Q.out id);clear F HK3 HW3 HT3 Q HP;cases mb
      ·have E:bb=false:=by
        rw[HALL.out,List.all_eq_false];exact⟨x,List.mem_of_getElem? HE.out,by rw[HMB.out];decide⟩
       go_wp2
       go_ret2
       exact J.out E _ p.out _ rfl
      ·obtain⟨e,s,rfl,hd,h5,hs⟩:=CK HMB.out
       have HA2:Hid (((l.take (k+1)).all fun x=>fA x (d:Int) (z:Int))=true):=O (by rw[List.take_add_one,HE.out,List.all_append,HA.out];simpa using HMB.out);have HU:=O (fun wx (kk:aA aB w4 wx)=>J8 wx B d (fun _=>none) (l.take k) (W.keep kk id) e s hd (by omega));obtain⟨ub,hub⟩:∃u,dY (l.take k) e s=u:=⟨_,rfl⟩
       rw[hub] at HU;have HUB:=O hub;have hc1:=V.c1;have hx0:w4.cell? ⟨X,0,none⟩=some (.int .i64 (e:Int)):=aC HB4.out rfl;have hx1:w4.cell? ⟨X,1,none⟩=some (.int .i64 (s:Int)):=aC HB4.out rfl;have hdi:(e:Int)<(d:Int):=by omega
       have hd0:(0:Int)≤(e:Int):=by omega
       clear hub;go_wp2_with fail;obtain⟨S,Y⟩:∃S:World->Prop,S=fun o=>aA aB w4 o:=⟨_,rfl⟩
       have q:=O (show ∀o,S o->aA aB w4 o from fun o h=>by rw[Y] at h;exact h);have HSI:=O (show ∀o,aA aB w4 o->S o from fun o h=>by rw[Y];exact h);have H:S w4.drew:=by rw[Y];exact(aA.refl _ _).drew
       clear Y;refine wp_region_held (S:=S) (by kernel_rfl) ?_;change wpAnyH _ _ _ _ _ _ _ _ w4.drew;generalize w4.drew=P at H ⊢;refine tka 0 (.pointer (some ⟨A,0,none⟩)) rfl H ?_;simp only[Act.put,List.setIfInBounds_toArray,List.set_cons_zero,List.set_cons_succ,List.getElem_toArray,List.getElem_cons_zero];refine tnb 1 (.pointer (some ⟨A,0,none⟩)) rfl H ?_;refine tnb 2 (.pointer (some ⟨A,1,none⟩)) rfl H ?_;refine tnd 3 (.slice (some ⟨B,0,none⟩) d d) rfl (.inl ⟨by rfl,fun o N=>by have c:=(q.out o N).cell hc1 id;go_simp⟩) H ?_;refine tnb 4 (.pointer (some ⟨X,0,none⟩)) rfl H ?_;refine tnd 5 (.int .i64 (e:Int)) rfl (.inl ⟨by rfl,fun o N=>by have c:=(q.out o N).cell hx0 id;go_simp⟩) H ?_;refine tnb 6 (.pointer (some ⟨B,e*65,none⟩)) rfl H ?_;refine tnb 7 (.pointer (some ⟨X,1,none⟩)) rfl H ?_;refine tnd 8 (.int .i64 (s:Int)) rfl (.inl ⟨by rfl,fun o N=>by have c:=(q.out o N).cell hx1 id;go_simp⟩) H ?_;refine wA9 9 ?_;go_wp2_with fail;refine(HU.out _ (q.out _ H)).mono ?_;rintro e wq42 ⟨rfl,rfl⟩;have hk:=aA.refl aB P;have C:=HSI.out _ ((q.out _ H).trans hk);clear H hk;go_wp2_with fail;refine⟨C,?_⟩;cases ub
       ·refine tnb 10 (.bool true) rfl C ?_
        refine tna 11 (.bool true) rfl C ?_;refine wpAnyH_done (by kernel_rfl) ?_ _;have f:=O (q.out _ C);clear C q HSI;have HK5:=O (p.trans f.out);have HW5:=O (W.keep f.out id);have HT5:=O (V.keep f.out id);have hc1:=f.cell hc1 id;have hx0:=f.cell hx0 id;have hx1:=f.cell hx1 id;clear f HU p W V HB4;go_wp2_with fail
        have HC:=O (fun wx (kk:aA aB P wx)=>Bc wx B d (fun _=>none) (l.take k) (l.take k++[⟨(e:Int),(s:Int)⟩]) (HW5.keep kk id) e s hd (by omega) (fun e' t _ _=>by
         rw[oR]
         by_cases h1:e'=e/\t=s
         ·obtain⟨rfl,rfl⟩:=h1
          rw[HUB.out];simp
         ·have:(decide (e'=e) && decide (t=s))=false:=by
           rw[Bool.and_eq_false_iff,decide_eq_false_iff_not,decide_eq_false_iff_not]
           by_cases h2:e'=e
           ·exact .inr fun h3=>h1 ⟨h2,h3⟩
           ·exact .inl h2
          rw[this];simp))
        obtain⟨dd,hdd⟩:∃dd,e*65=dd:=⟨_,rfl⟩
        rw[hdd] at HC
        go_still_tail 9,(by kernel_rfl)
        go_wp2_with fail
        try rw[hdd]
        refine(HC.out _ (aA.refl aB _).drew).mono ?_;rintro e5 w6 ⟨rfl,hw6,hk6⟩;have HW6:Hid (bP w6 B (fun _=>none) d (l.take (k+1))):=O (by rw[List.take_add_one,HE.out];exact hw6);have hk7:=(aA.refl (fun j=>j=B) P).drew.trans hk6;have HT6:=O (HT5.keep hk7 hAB);have HK6:=O (HK5.trans' hk7 (U:=aB) (fun _ _ h=>h) (fun i hi e=>by have:=R.out;omega));clear hw6 hk6 hk7 HC;go_wp2
        go_roundw
        case rel=>exact⟨k+1,by omega,by go_num,HW6,HT6,HK6,HA2⟩
        case measure=>simp[intOf];omega
       ·refine tnb 10 (.bool false) rfl C ?_
        refine tna 11 (.bool false) rfl C ?_;refine wpAnyH_done (by kernel_rfl) ?_ _;have f:=O (q.out _ C);clear C q HSI;have HK5:=O (p.trans f.out);have HT5:=O (V.keep f.out id)
        have HW5:Hid (bP _ B (fun _=>none) d (l.take (k+1))):=O ((W.keep f.out id).congr fun y=>by
         rw[List.take_add_one,HE.out];show y∈l.take k↔y∈l.take k++[_];rw[List.mem_append,List.mem_singleton];refine⟨.inl,fun h=>h.elim id fun h=>?_⟩;rw[h];exact of_decide_eq_true HUB.out)
        clear f HU;go_wp2
        go_roundw
        case rel=>exact⟨k+1,by omega,by go_num,HW5,HT5,HK5,HA2⟩
        case measure=>simp[intOf];omega
     ·obtain rfl:n=k:=by omega
      have hbt:bb=true:=by
       rw[HALL.out];have h:=HA.out
       rwa [List.take_of_length_le (by rw[HN.out];exact Nat.le_refl _)] at h
      have hw:=HW.out;rw[List.take_of_length_le (by rw[HN.out];exact Nat.le_refl _)] at hw;have hbw:B<wr.heap.size:=hw.lt;have HC:=O (Ii wr A B d z _ l HT.out hw hbd.2.1 (by omega) hbd.2.2.2);clear hw;go_wp2_with fail;refine HC.mono ?_;rintro e w6 ⟨rfl,c',g1,g2,g3,g4⟩;have hws:=HK.size;have hAw:w.heap.size≤A:=by have:=R.out;omega
      have HLD:Hid (dU w6 w.heap.size A B c' ((d:Int).toNat) ((z:Int).toNat) l):=O (by
       rw[Int.toNat_natCast,Int.toNat_natCast];refine⟨HT.keep g4 hAB,g1,fun d' hd=>?_,g3,hbd,hAw,by have:=R.out;omega,fun d' g hd hg=>?_⟩
       ·obtain⟨g,h5,-,h6⟩:=g2 d' hd
        exact⟨g,h5,h6⟩
       ·obtain⟨g',h5,h6,-⟩:=g2 d' hd
        rw[hg] at h5;cases h5
        omega)
      have HKF:=O (HK.trans' g4 (U:=aB) (fun _ _ h=>h) (fun i hi e=>by have:=R.out;omega));clear g1 g2 g3 g4 HC;go_wp2
      go_ret2
      exact HPG.out hbt _ _ _ _ HLD.out HKF.out _ rfl
    ·have E:bb=false:=by
      rw[←I.out];unfold tD;simp[h4]
     have i1:¬D<2:=by omega
     have i2:¬8<D:=by omega
     have i3:¬S<8:=by omega
     have i4:4096<S:=by omega
     have d1:decide (D<2)=false:=decide_eq_false i1;have d2:decide (8<D)=false:=decide_eq_false i2;have d3:decide (S<8)=false:=decide_eq_false i3;have d4:decide (4096<S)=true:=decide_eq_true i4;go_in;go_wp2
     go_ret2
     exact J.out E _ T.out _ rfl
   ·have E:bb=false:=by
     rw[←I.out];unfold tD;simp[h3]
    have i1:¬D<2:=by omega
    have i2:¬8<D:=by omega
    have i3:S<8:=by omega
    have d1:decide (D<2)=false:=decide_eq_false i1;have d2:decide (8<D)=false:=decide_eq_false i2;have d3:decide (S<8)=true:=decide_eq_true i3;go_in;go_wp2
    go_ret2
    exact J.out E _ T.out _ rfl
  ·have E:bb=false:=by
    rw[←I.out];unfold tD;simp[h2]
   have i1:¬D<2:=by omega
   have i2:8<D:=by omega
   have d1:decide (D<2)=false:=decide_eq_false i1;have d2:decide (8<D)=true:=decide_eq_true i2;go_in;go_wp2
   go_ret2
   exact J.out E _ T.out _ rfl
 ·have E:bb=false:=by
   rw[←I.out];unfold tD;simp[h1]
  have i1:D<2:=by omega
  have d1:decide (D<2)=true:=decide_eq_true i1;go_in;go_wp2
  go_ret2
  exact J.out E _ T.out _ rfl
end
end Go.Proofs.YtiinnfhjpaeffaaGreat
