import Derived.Test.YtoeinblfcbpcmaaGreatR9
import Derived.Conc.LoneSelectN
namespace Go.Proofs.YtoeinblfcbpcmaaGreat
open Tryz
set_option maxHeartbeats 0
set_option maxRecDepth 100000
set_option linter.unusedVariables false
section
open Go.RowKit Go.Maps Go.ChangeMaps
open Go.Conc (run_len_chan)
def Cx(w:World)(b D Z:Nat)(L:List Ad)(e:Ending)(a:World):Prop:=
 e=.returned (.tuple #[])/\∃c:Nat->Option Nat,bO a b c D L/\(∀d,d<D->∃g,c d=some g/\w.heap.size≤g/\fY a g Z (bC L d Z))/\(∀d e g,d<D->e<D->c d=some g->c e=some g->d=e)/\aA (fun k=>k=b) w a
structure uG(w:World)(b D Z:Nat)(L:List Ad)(c:Nat->Option Nat)(i:Nat)(w':World):Prop where
 words:bO w' b c D L
 chans:∀d,d<i->∃g,c d=some g/\w.heap.size≤g/\fY w' g Z (bC L d Z)
 inj:∀d e g,d<i->e<i->c d=some g->c e=some g->d=e
 keep:aA (fun k=>k=b) w w'
theorem uG.next{w p f:World}{b D Z i g:Nat}{L:List Ad}{c:Nat->Option Nat}(h:uG w b D Z L c i p)(C:b<w.heap.size)(B:bO f b (fun e=>if e=i then some g else c e) D L)(v:fY f g Z (bC L i Z))(F:p.heap.size≤g)(k:aA (fun k=>k=b) p f) :
 uG w b D Z L (fun e=>if e=i then some g else c e) (i+1) f:=by
 have G:=h.keep.size;refine⟨B,fun d y=>?_,fun d e q y E j a=>?_,h.keep.trans k⟩
 ·by_cases e:d=i
  ·subst e
   exact⟨g,if_pos rfl,by omega,v⟩
  ·obtain⟨q,o,z,u⟩:=h.chans d (by omega)
   exact⟨q,by rw[←o];exact if_neg e,z,u.keep k (fun e=>by omega)⟩
 ·have m:∀d q,d<i->c d=some q->q<p.heap.size:=fun d q y A=>by
   obtain⟨H,o,-,u⟩:=h.chans d y;rw[A] at o;cases o
   exact u.lt
  by_cases s:d=i<;>by_cases t:e=i
  ·omega
  ·simp only[s,t,if_true,if_false] at j a
   cases j
   have:=m e g (by omega) a;omega
  ·simp only[s,t,if_true,if_false] at j a
   cases a
   have:=m d g (by omega) j;omega
  ·simp only[s,t,if_false] at j a
   exact h.inj d e q (by omega) (by omega) j a
theorem JS(w:World)(a b D Z:Nat)(c:Nat->Option Nat)(L:List Ad)(m:iC w a (Z:Int) b D)(y:bO w b c D L)(T:D≤8)(B:5≤Z)(N:Z≤4096):Calls prog 145 #[.pointer a] w (Cx w b D Z L):=by
 have s:=y.lt
 have p:a≠b:=by
  intro e;subst e;obtain⟨S,o,-⟩:=y.row;unfold iC at m;rw[m] at o;cases o
 have F:=O m;have K:=O y;have u:=m.c1;have t:=m.c0;clear m y;go_in;go_wp2_with fail
 go_loopw [8] (fun i wr=>∃(k:Nat) (v:Nat->Option Nat),k≤D/\i=.int .i64 k/\Hid (uG w b D Z L v k wr)) (fun i _=>D-(intOf i).toNat)
 case atStart=>exact⟨0,c,Nat.zero_le _,rfl,O ⟨K.out,fun d h=>absurd h (Nat.not_lt_zero _),fun d e q h=>absurd h (Nat.not_lt_zero _),aA.refl _ _⟩⟩
 case round =>
 obtain⟨k,v,U,rfl,j⟩:=hrel;clear t u;have u:=(F.keep j.keep p).c1;have t:=(F.keep j.keep p).c0
 by_cases C:k<D
 ·have Q:(k:Int)<(D:Int):=by omega
  have P:(0:Int)≤(k:Int):=by omega
  have E:=O (fun J (R:aA aB wr J)=>JQ J b D v L (j.words.keep R id) k Z C B N);go_wp2_with fail
  go_still_tail 10,(by kernel_rfl)
  go_wp2_with fail;refine(E _ (aA.refl aB _).drew).mono ?_;rintro e V ⟨rfl,g,o,G,H,I⟩;have z:=O (j.next s o G H ((aA.refl (fun k=>k=b) wr).drew.trans I));clear o G H I E;go_wp2
  go_roundw
  case rel=>exact⟨k+1,_,by omega,by go_num,z⟩
  case measure=>simp[intOf];omega
 ·obtain rfl:D=k:=by omega
  have f:Cx w b D Z L (.returned (.tuple #[])) wr:=⟨rfl,v,j.words,j.chans,j.inj,j.keep⟩
  have A:=O f;clear f;go_wp2_with fail
  go_end0
  exact A.out
theorem FY(w:World)(lo a b D Z:Nat)(c:Nat->Option Nat)(L:List Ad)(h:dD w lo a b c D Z L):Calls prog 191 #[.pointer a] w (QE w (cI L D Z)):=by
 have I:=O h;have qc:=h.bd;have v:D≠0:=by omega
 have s:=Ee w a D Z _ h.top;rw[decide_eq_false v] at s;have s:=O s;clear h v;go_in;go_wp2_with fail;refine s.mono ?_;rintro e w1 ⟨rfl,rfl⟩;clear s;have z:=I.top.c1;go_wp2_with fail
 go_loopw [3,12] (fun t i wr=>∃(k:Nat) (J:Option Addr) (K:Nat),k≤D/\t=.slice J k K/\i=.int .i64 k/\Hid (wr.ownsRow w.heap.size 3 1 (.slice J k K) k ((cI L k Z).map fun x=>.int .i64 x))/\Hid (aA aB w wr)) (fun _ i _=>D-(intOf i).toNat)
 case atStart=>exact⟨0,none,0,Nat.zero_le _,rfl,rfl,O (World.ownsRow_nil _ _ _ _),O (aA.refl _ _)⟩
 case round =>
 obtain⟨k,J,K,hk,rfl,rfl,HO,o⟩:=hrel;clear z;have z:=o.cell I.top.c1 id
 by_cases F:k<D
 ·have qe:(k:Int)<(D:Int):=by omega
  have qd:(0:Int)≤(k:Int):=by omega
  obtain⟨gc,C,B⟩:=I.chans k F;have A:=o.cell (I.words.chan F) id;rw[C] at A;obtain⟨sn,rn,V⟩:=B.keep o.out id;have f:=fun ty=>run_len_chan (P:=prog) 219 ty underlying219 V
  have g:(((bC L k Z).map fun x=>Value.int .i64 x).toArray).size=(bC L k Z).length:=by rw[List.size_toArray,List.length_map]
  rw[g] at f;obtain⟨q,Y⟩:=zX9 ((bC L k Z).length)
  rw[Y] at f;have N:Hid (cI L (k+1) Z=cI L k Z++[(q:Int)]):=O (by unfold cI;rw[List.range_succ,List.map_append,←Y];rfl);have qb:=O V;obtain⟨w8,H,j,y,qa⟩:=aP wr #[.int .i64 (q:Int)] 3;have S:Hid (Rd w8 1 (.slice (wr.heap.size) 1 1) 1 [.int .i64 (q:Int)]):=O (dX (n:=1) (size:=1) (vs:=[.int .i64 (q:Int)]) y rfl (by unfold maxLen;omega));have u:=O (j.owns HO.out fun _ _=>id);have p:=O (o.trans j);have G:w.heap.size≤w8.heap.size:=p.size;clear j y qa V g Y B C;obtain⟨oo,X⟩:=zX9 (k*65)
  rw[X] at A
  go_wp2_with (first
   | (at_builtin;try rw[H]
      refine aM rfl (.tmp 15) (.tmp 25) 48 rfl w.heap.size 3 (.int .i64 0) 1 8 underlying48 GJ rfl (by decide) (.slice J k K) k ((cI L k Z).map fun x=>.int .i64 x) rfl u.out (.slice (wr.heap.size) 1 1) 1 [.int .i64 (q:Int)] rfl S.out (Ef [(q:Int)]) (by unfold maxLen;omega) (by omega) G ?_;intro v' w5 m E W T;obtain⟨va,vc,rfl,-,-⟩:=(Rd.of_owns m).form;have R:Hid (w5.ownsRow w.heap.size 3 1 (.slice va (k+1) vc) (k+1) ((cI L (k+1) Z).map fun x=>.int .i64 x)):=O (by rw[N.out,List.map_append];exact m);have Q:=O (p.trans' E (U:=aB) (fun _ _ h=>h) (fun i hi e=>by have:=bM u.out e;omega));clear m E W T H))
  go_roundw
  case rel=>exact⟨k+1,va,vc,by omega,rfl,by go_num,R,Q⟩
  case measure=>simp[intOf];omega
 ·obtain rfl:D=k:=by omega
  go_wp2;go_ret;exact⟨_,rfl,by rw[jY];exact HO.out,o.out⟩
end
section
open Go.RowKit Go.Maps Go.ChangeMaps
def bF(L:List Ad)(Z:Nat)(l:List Nat):List Ad:=l.map fun(d:Nat)=>(⟨(d:Int),(bC L d Z).headD 0⟩:Ad)
variable{L M:List Ad}{Z d D cp n:Nat}{w:World}{x:Int}{r fr:List Int}{l:List Nat}{th:List Bool}
theorem F5(L:List Ad)(Z:Nat)(l:List Nat)(d:Nat):bF L Z (l++[d])=bF L Z l++[(⟨(d:Int),(bC L d Z).headD 0⟩:Ad)]:=by unfold bF;rw[List.map_append];rfl
theorem mL(L:List Ad)(Z:Nat)(l:List Nat):(bF L Z l).length=l.length:=by simp[bF]
theorem wP:∀{l:List Nat},d ∉ l->bC (M++bF L Z l) d Z=bC M d Z:=by
 intro l b;refine mK fun s _ _=>?_
 unfold dY;rw[decide_eq_decide,List.mem_append];refine⟨fun h=>h.elim id fun h=>?_,.inl⟩;unfold bF at h;obtain⟨e,c,a⟩:=List.mem_map.1 h;injection a with f _
 have:e=d:=by omega
 subst this;exact absurd c b
theorem dD.take{B C:World}{lo a b:Nat}{c:Nat->Option Nat}(h:dD w lo a b c D Z M){g:Nat}(F:d<D)(u:c d=some g)(N:bC M d Z=x::r)
 (E:fY B g Z r) (G:aA (fun k=>k=g) w B) (K:bO C b c D (M++[⟨(d:Int),x⟩])) (A:aA (fun k=>k=b) B C):dD C lo a b c D Z (M++[⟨(d:Int),x⟩]):=by
 obtain⟨t,rfl,Q,R,S,T,z⟩:=oI N
 have y:g≠a:=by
  rintro rfl;obtain⟨s,W,m⟩:=E;obtain⟨J,f,o⟩:=h.chans d F;rw[u] at f;cases f
  obtain⟨V,U,h6⟩:=o;have:=h.top;unfold iC at this;rw[h6] at this;cases this
 have v:b≠a:=by
  rintro rfl;obtain⟨H,m,-⟩:=h.words.row;have:=h.top;unfold iC at this;rw[m] at this;cases this
 have p:∀e q,e<D->c e=some q->q≠b:=by
  rintro e q j P rfl;obtain⟨J,f,o⟩:=h.chans e j;rw[P] at f;cases f
  obtain⟨V,U,h6⟩:=o;obtain⟨H,m,-⟩:=h.words.row;rw[h6] at m;cases m
 refine⟨(h.top.keep G (fun e=>y e.symm)).keep A (fun e=>v e.symm),K,fun e j=>?_,h.inj,h.bd,h.lo⟩
 by_cases i:e=d
 ·subst i
  exact⟨g,u,by rw[z];exact E.keep A (p e g j u)⟩
 ·obtain⟨q,f,o⟩:=h.chans e j
  refine⟨q,f,?_⟩;rw[D9 i];exact(o.keep G (fun I=>i (h.inj e d q j F f (by rw[u,I])))).keep A (p e q j f)
theorem PJ{v:Value}(h:Rd w 1 v l.length (nV l)){k x:Nat}(c:l[k]?=some x):∃g o b,v=.slice (some ⟨g,o,none⟩) l.length b/\w.cell? ⟨g,o+k,none⟩=some (.int .i64 (x:Int)):=by
 obtain⟨h0,a,b,rfl,j,m,p,e⟩:=h;have i:=(List.getElem?_eq_some_iff.1 c).1;obtain⟨g,o,rfl,f⟩:=e (by unfold nV;rw[List.length_map];omega);exact⟨g,o,b,rfl,f k _ (by unfold nV;rw[List.getElem?_map,c];rfl)⟩
def iX(w:World)(lo a b:Nat)(c:Nat->Option Nat)(D Z:Nat)(L:List Ad)(th:List Bool)(cp:Int)(e:Ending)(f:World):Prop:=
 if jZ (cI L D Z) th cp then
  match cF (cI L D Z) th cp.toNat with
  | none=>e=.returned (.tuple #[.slice none 0 0,.int .i64 15])/\aA aB w f
  | some l=>∃v,e=.returned (.tuple #[v,.int .i64 0])/\dD f lo a b c D Z (L++bF L Z l)/\f.ownsRow w.heap.size 59 2 v l.length (aR (bF L Z l))/\aA (Own a b c D) w f
 else e=.returned (.tuple #[.slice none 0 0,.int .i64 2])/\aA aB w f
theorem Eg(w:World)(lo a b D Z:Nat)(c:Nat->Option Nat)(L:List Ad)(h:dD w lo a b c D Z L)(vt:Value)(th:List Bool)(cp:Int)(ht:Rd w 1 vt th.length (th.map Value.bool)) :
 Calls prog 149 #[.pointer a,vt,.int .i64 cp] w (iX w lo a b c D Z L th cp):=by
 have HL:=O h;have HT:=O ht;obtain⟨ta,tc,rfl,-,-⟩:=ht.form;have xg:=h.bd;have za:D≠0:=by omega
 have HN:=Ee w a D Z _ h.top;rw[decide_eq_false za] at HN;have HN:=O HN;obtain⟨fr,qd⟩:=zX9 (cI L D Z)
 have W:Hid (fr.length=D):=O (by rw[←qd];exact jY L D Z);have HF:=FY w lo a b D Z c L h;rw[qd] at HF;have HF:=O HF;obtain⟨bb,zg⟩:=zX9 (jZ fr th cp)
 obtain⟨o,ho⟩:=zX9 (cF fr th cp.toNat)
 have V:=O zg;have HO:=O ho;have X:=O qd;have HC:=O (fun wx v (k:aA aB w wx) (hr:Rd wx 1 v fr.length (fr.map fun x=>.int .i64 x))=>F4 wx v _ fr th cp hr (ht.keep k fun _ _=>id));clear h ht za zg ho qd;go_in;go_wp2_with fail;refine HN.mono ?_;rintro e w1 ⟨rfl,rfl⟩;clear HN;go_wp2_with fail;refine HF.mono ?_;rintro e w2 ⟨v,rfl,qp,zi⟩;have q1:=O (Rd.of_owns qp);have H:=O zi;obtain⟨fa,fc,rfl,-,-⟩:=(Rd.of_owns qp).form;clear qp zi HF;rw[W.out];have qg:=q1.out;rw[W.out] at qg;have F:=HC.out w2 _ H.out q1.out;rw[W.out] at F;have F:=O F;clear qg HC;go_wp2_with fail;refine F.mono ?_;intro e T f;unfold oV at f;rw[V.out,HO.out] at f;clear F;cases bb
 ·rw[if_neg (by decide)] at f
  obtain⟨rfl,Q⟩:=f;have z:=O (H.trans Q);have HP:Hid (∀e,e=.returned (.tuple #[.slice none 0 0,.int .i64 2])->iX w lo a b c D Z L th cp e T):=O (fun e he=>by unfold iX;rw[X.out,V.out,if_neg (by decide)];exact⟨he,z.out⟩);clear Q;go_wp2
  go_ret2
  exact HP.out _ rfl
 ·rw[if_pos rfl] at f
  cases o with
  | none =>
    obtain⟨rfl,Q⟩:=f;have z:=O (H.trans Q);have HP:Hid (∀e,e=.returned (.tuple #[.slice none 0 0,.int .i64 15])->iX w lo a b c D Z L th cp e T):=O (fun e he=>by unfold iX;rw[X.out,V.out,if_pos rfl,HO.out];exact⟨he,z.out⟩);clear Q;go_wp2
    go_ret2
    exact HP.out _ rfl
  | some l =>
    obtain⟨v,rfl,zk,Q⟩:=f;have P:=fA HO.out;have zy:=O P.2.2.2.1
    have qt:Hid (∀d∈l,d<D/\∃x r,bC L d Z=x::r):=O (fun d hd=>by
     have B:=(P.2.2.2.2 d hd)
     rw[W.out] at B;have C:=B.2;unfold eK at C;rw[Bool.and_eq_true,decide_eq_true_eq,←X.out,rR L B.1] at C;refine⟨B.1,?_⟩;cases e:bC L d Z with
     | nil=>rw[e] at C;simp at C
     | cons x r=>exact⟨x,r,rfl⟩)
    have z:=O (H.trans Q);have y:=zk.of H.out;obtain⟨q,hq⟩:=zX9 l.length
    have xo:q≤8:=by
     have B:=P.2.1;have C:=P.2.2.2.1;have h3:l.length≤(List.range D).length:=List.Nodup.length_le_of_subset C fun d hd=>List.mem_range.2 (qt d hd).1
     rw[List.length_range] at h3;omega
    have HQ:=O hq;obtain⟨va,vc,rfl,-,-⟩:=y.1.form;have A:=O y.1;have qj:=O y.2
    have q9:Hid (0<l.length->∀i,(Value.slice va l.length vc).ownBlock=some i->i<T.heap.size):=O (fun h0 i E=>by
     obtain⟨j,B,C⟩:=y.1.lt (by unfold nV;rw[List.length_map];exact h0);rw[E] at B;cases B
     exact C)
    have qu:Hid (aA (Own a b c D) T T):=O (aA.refl _ _);have zn:=z.size;rw[hq] at A qj q9;have qx:=O (HL.keep0 z.out);have K:Hid (∀k,Own a b c D k->k<w.heap.size):=O (fun k Q=>(HL.own_lt Q).2);clear Q zk y P hq;rw[HQ.out];go_wp2_with fail
    go_loopw [10,30] (fun t i wr=>∃(k:Nat) (pa:Option Addr) (pc:Nat),k≤q/\t=.slice pa k pc/\i=.int .i64 k/\Hid (dD wr lo a b c D Z (L++bF L Z (l.take k)))/\Hid (wr.ownsRow T.heap.size 59 2 (.slice pa k pc) k (aR (bF L Z (l.take k))))/\Hid (aA (Own a b c D) T wr)/\Hid (Rd wr 1 (.slice va q vc) q (nV l))) (fun _ i _=>q-(intOf i).toNat)
    case atStart=>exact⟨0,none,0,Nat.zero_le _,rfl,rfl,O (by simpa [bF] using qx.out),O (World.ownsRow_nil _ _ _ _),qu,A⟩
    case round =>
    clear qx A;obtain⟨k,pa,pc,Q,rfl,rfl,g,J,HK,A⟩:=hrel
    by_cases z6:k<q
    ·have xn:(k:Int)<(q:Int):=by omega
     have xm:(0:Int)≤(k:Int):=by omega
     obtain⟨d,hd⟩:∃d,l[k]?=some d:=⟨l[k]'(by rw[HQ.out];exact z6),List.getElem?_eq_getElem _⟩
     have qq:=A.out;rw[←HQ.out] at qq;obtain⟨p,o,xf,hv,xi⟩:=PJ qq hd;rw[HQ.out] at hv;have e1:va=some ⟨p,o,none⟩:=by cases hv;rfl
     subst e1;obtain⟨u,x,r,hf⟩:=qt.out d (List.mem_of_getElem? hd);have zb:l.take (k+1)=l.take k++[d]:=by rw[List.take_add_one,hd];rfl
     have zj:d ∉ l.take k:=by
      intro hm;obtain⟨j,hj⟩:=List.getElem?_of_mem hm;have z5:=(List.getElem?_eq_some_iff.1 hj).1;rw[List.length_take] at z5;rw[List.getElem?_take,if_pos (by omega)] at hj;obtain⟨B,C⟩:=List.getElem?_eq_some_iff.1 hj;obtain⟨h3,h4⟩:=List.getElem?_eq_some_iff.1 hd;exact List.pairwise_iff_getElem.1 zy.out j k B h3 (by omega) (C.trans h4.symm)
     have zd:bF L Z (l.take (k+1))=bF L Z (l.take k)++[(⟨(d:Int),x⟩:Ad)]:=by rw[zb,F5,hf];rfl
     obtain⟨t,rfl,xa,xe,xb,xc,xd⟩:=oI hf;have qc:bC (L++bF L Z (l.take k)) d Z=(t:Int)::r:=by rw[wP zj];exact hf
     obtain⟨gc,qe,qn⟩:=g.chans d u;rw[qc] at qn;have G:=JN wr b (d*65) gc Z (t:Int) r (by have h:=g.words.chan u;rw[qe] at h;exact h) qn;have q3:=O zd;have qr:=O qc;have G:=O G;have zh:=g.top.c1;have xk:(d:Int)<(D:Int):=by omega
     have xj:(0:Int)≤(d:Int):=by omega
     have Y:=O qe;have HZ:Hid (t<4096):=O (by have:=HL.bd;omega);have xl:gc<w.heap.size:=K.out gc (.inr (.inr ⟨d,u,qe⟩));have xh:b<w.heap.size:=K.out b (.inr (.inl rfl))
     have q5:Hid (dY (L++bF L Z (l.take k)) d t=false):=O (by
      have B:(t:Int)∈bC (L++bF L Z (l.take k)) d Z:=by rw[qc];exact List.mem_cons_self ..
      obtain⟨s,C,-,-,h3⟩:=uD.1 B;have:t=s:=by omega
      subst this;exact h3)
     clear qq hv hd hf zb zj zd qc qn xa xe xb xc xd qe;obtain⟨M,hM⟩:=zX9 (L++bF L Z (l.take k))
     have zx:=O hM;rw[hM] at g qr q5;clear hM;obtain⟨dd,qb⟩:=zX9 (d*65)
     rw[qb] at G;go_wp2_with fail
     try rw[qb]
     refine G.mono ?_;rintro e w5 ⟨rfl,N,m⟩
     have qh:=g.words.keep m (fun e=>by
      obtain⟨s,rr,h3⟩:=N;obtain⟨cs,h4,-⟩:=g.words.row;obtain⟨g',h5,s',r',h6⟩:=g.chans d u;rw[Y.out] at h5;cases h5
      rw[←e,h4] at h6;cases h6)
     have qk:=O (Cw w5 b D c M (M++[⟨(d:Int),(t:Int)⟩]) qh d t u HZ.out (fun e s he hs=>by
      rw[pV]
      by_cases B:e=d/\s=t
      ·obtain⟨rfl,rfl⟩:=B
       rw[q5.out];simp
      ·have:(decide (e=d) && decide (s=t))=false:=by
        rw[Bool.and_eq_false_iff,decide_eq_false_iff_not,decide_eq_false_iff_not]
        by_cases C:e=d
        ·exact .inr fun h3=>B ⟨C,h3⟩
        ·exact .inl C
       rw[this];simp))
     have qf:=O N;have I:=O m
     have ze:a≠gc:=fun e=>by
      obtain⟨g',h5,s',r',h6⟩:=g.chans d u;rw[Y.out] at h5;cases h5
      have h7:=g.top;unfold iC at h7;rw[e,h6] at h7;cases h7
     have zh:=(g.top.keep m ze).c1;rw[qb] at qk;clear N m qh G ze;go_wp2_with fail
     try rw[qb]
     refine qk.mono ?_;rintro e w6 ⟨rfl,qi,R⟩;have qy:=O (g.take u Y.out qr.out qf.out I.out qi R);have qz:=O (R.owns (I.owns J.out (fun i E e=>by have:=bM J.out E;omega)) (fun i E e=>by have:=bM J.out E;omega));have qv:=O ((HK.trans' I.out (U:=Own a b c D) (fun _ _ h=>h) (fun i _ h=>.inr (.inr ⟨d,u,by rw[Y.out,h]⟩))).trans' R (U:=Own a b c D) (fun _ _ h=>h) (fun i _ h=>.inr (.inl h)));have q0:=O ((A.keep I.out (fun i E e=>by have:=qj.out i E;omega)).keep R (fun i E e=>by have:=qj.out i E;omega));clear qi R qk qf I g J A HK zh;obtain⟨w8,zo,S,zf,z9⟩:=aP w6 (aO ⟨(d:Int),(t:Int)⟩).toArray 59;have z2:Hid (Rd w8 2 (.slice (w6.heap.size) 1 1) 1 (aO ⟨(d:Int),(t:Int)⟩)):=O (dX (n:=1) (size:=2) (vs:=aO ⟨(d:Int),(t:Int)⟩) zf rfl (by unfold maxLen;omega));have qa:=O (S.owns qz.out fun _ _=>id);have qw:=O (qv.trans' S (U:=Own a b c D) (fun _ _ h=>h) (fun _ _ h=>h.elim));have zu:=O (qy.keep0 S);have z0:=O (q0.keep S fun _ _=>id);have zl:T.heap.size≤w8.heap.size:=qw.size;have zr:Hid (aR (bF L Z (l.take (k+1)))=aR (bF L Z (l.take k))++aO ⟨(d:Int),(t:Int)⟩):=O (by rw[q3.out,nC,yZ]);clear S zf z9 qz qv qy q0
     go_wp2_with (first
      | ((with_reducible show WL _ (.buildSlice _ 1 _));refine bZ rfl 26 59 (.tmp 57) rfl underlying26 qR (by decide) (aO ⟨(d:Int),(t:Int)⟩) rfl (by decide) rfl ?_;rw[zo])
      | (at_builtin;refine aM rfl (.tmp 54) (.tmp 58) 26 rfl T.heap.size 59 eM 2 16 underlying26 qR rfl (by decide) (.slice pa k pc) k (aR (bF L Z (l.take k))) rfl qa.out (.slice (w6.heap.size) 1 1) 1 (aO ⟨(d:Int),(t:Int)⟩) rfl z2.out (bP _) (by unfold maxLen;omega) (by omega) zl ?_
         intro v' w9 qo m z7 z3;obtain⟨zp,zq,rfl,-,-⟩:=(Rd.of_owns qo).form;have zz:Hid (w9.ownsRow T.heap.size 59 2 (.slice zp (k+1) zq) (k+1) (aR (bF L Z (l.take (k+1))))):=O (by rw[zr.out];exact qo);have zt:=O (qw.trans' m (U:=Own a b c D) (fun _ _ h=>h) (fun i E e=>by have:=bM qa.out e;omega));have zv:=O (zu.keep m (fun i E ho=>by have:=bM qa.out E;have:=K.out i ho;omega));have z1:=O (z0.keep m (fun i E e=>by have:=bM qa.out e;have:=q9.out (by omega) i E;omega));clear qo m z7 z3 zo))
     have zw:Hid (dD w9 lo a b c D Z (L++bF L Z (l.take (k+1)))):=O (by rw[q3.out,←List.append_assoc,zx.out];exact zv.out)
     go_roundw
     case rel=>exact⟨k+1,zp,zq,by omega,rfl,by go_num,zw,zz,zt,z1⟩
     case measure=>simp[intOf];omega
    ·obtain rfl:q=k:=by omega
     have zm:l.take q=l:=List.take_of_length_le (by rw[HQ.out];exact Nat.le_refl _);have ql:=g.out;have qm:=J.out;rw[zm] at ql qm;have HP:Hid (∀e,e=.returned (.tuple #[.slice pa q pc,.int .i64 0])->iX w lo a b c D Z L th cp e wr):=O (fun e he=>by unfold iX;rw[X.out,V.out,if_pos rfl,HO.out];exact⟨_,he,ql,by rw[HQ.out];exact bA qm zn,z.trans' HK.out (U:=Own a b c D) (fun _ _ h=>h.elim) (fun _ _ h=>h)⟩);clear ql qm zm;go_wp2
     go_ret2
     exact HP.out _ rfl
theorem Mg{l m:List Int}(h:l.length=m.length)(c:∀i,i<l.length->l.getD i 0=m.getD i 0):l=m:=by
 refine List.ext_getElem h fun i a b=>?_
 have:=c i a
 rwa [List.getD_eq_getElem?_getD,List.getD_eq_getElem?_getD,List.getElem?_eq_getElem a,List.getElem?_eq_getElem b] at this
theorem zE(c:cF (cI M D Z) th cp=some l)(f:d∈l):d<D/\∃x r,bC M d Z=x::r:=by
 have a:=(fA c).2.2.2.2 d f;rw[jY] at a;have b:=a.2;unfold eK at b;rw[Bool.and_eq_true,decide_eq_true_eq,rR M a.1] at b;refine⟨a.1,?_⟩;cases e:bC M d Z with
 | nil=>rw[e] at b;simp at b
 | cons x r=>exact⟨x,r,rfl⟩
theorem AQ{x:Ad}:x∈bF M Z l↔∃d∈l,x=⟨(d:Int),(bC M d Z).headD 0⟩:=by
 unfold bF;rw[List.mem_map];exact⟨fun ⟨d,a,b⟩=>⟨d,a,b.symm⟩,fun ⟨d,a,b⟩=>⟨d,a,b.symm⟩⟩
theorem Ik(f:d∈l)(a:bC M d Z=x::r):bC (M++bF M Z l) d Z=r:=by
 obtain⟨t,rfl,-,-,-,-,c⟩:=oI a;rw[←c];refine mK fun s _ _=>?_
 unfold dY;rw[decide_eq_decide,List.mem_append,List.mem_append,AQ,List.mem_singleton];refine or_congr Iff.rfl ⟨?_,fun h=>⟨d,f,by rw[h,a];rfl⟩⟩;rintro⟨e,g,h⟩;have b:d=e:=by have:=congrArg Ad.dev h;simp only at this;omega
 subst b;rw[h,a];rfl
theorem zF(c:cF (cI M D Z) th cp=some l):cI (M++bF M Z l) D Z=mH (cI M D Z) l:=by
 have a:=fA c;refine Mg (by rw[LT,jY,jY]) fun d b=>?_
 rw[jY] at b;rw[LU l _ a.2.2.2.1 (fun i f=>(a.2.2.2.2 i f).1),rR _ b,rR _ b]
 by_cases h:d∈l
 ·obtain⟨-,x,r,e⟩:=zE c h
  rw[if_pos h,Ik h e,e];simp
 ·rw[if_neg h,wP h]
  omega
theorem Il(h:oH th cp fr (n+1)):∃l,cF fr th cp=some l/\oH th cp (mH fr l) n:=by
 cases h with
 | more a b=>exact⟨_,a,b⟩
theorem Cy(L:List Ad)(D Z:Nat):pJ (cI L D Z)≤D*Z:=by
 unfold pJ cI
 induction D with
 | zero=>simp
 | succ D a =>
   rw[List.range_succ,List.map_append,List.map_append,List.sum_append,Nat.succ_mul];have:=uE L D Z;simp only[List.map_cons,List.map_nil,List.sum_cons,List.sum_nil,Int.toNat_natCast];omega
theorem Eh(f:2≤D/\D≤8/\8≤Z/\Z≤4096)(b:th.length=D)(c:1≤cp)(e:cp≤3):jZ (cI L D Z) th (cp:Int)=true:=by
 unfold jZ wO;rw[jY];simp only[Bool.and_eq_true,decide_eq_true_eq,List.all_eq_true];refine⟨⟨⟨⟨⟨by omega,by omega⟩,b⟩,by omega⟩,by omega⟩,fun x a=>?_⟩;unfold cI at a;obtain⟨d,-,rfl⟩:=List.mem_map.1 a;have:=uE L d Z;exact⟨by omega,by omega⟩
theorem Cz(i:2≤D/\D≤8/\8≤Z/\Z≤4096)(j:cF (cI M D Z) th cp=some l){x:Ad}(k:x∈bF M Z l):fN x (D:Int) (Z:Int)=true/\x ∉ M/\∃d t:Nat,x=⟨(d:Int),(t:Int)⟩/\d∈l/\∀s,5≤s->s<t->dY M d s=true:=by
 obtain⟨d,a,rfl⟩:=AQ.1 k;obtain⟨c,y,r,b⟩:=zE j a;obtain⟨t,rfl,e,f,g,h,-⟩:=oI b;rw[b];show fN ⟨(d:Int),(t:Int)⟩ _ _=true/\(⟨(d:Int),(t:Int)⟩:Ad) ∉ M/\_;exact⟨Oj i c f e,of_decide_eq_false g,d,t,rfl,a,h⟩
theorem F6(a:cF (cI M D Z) th cp=some l):(bF M Z l).Nodup:=by
 unfold bF;rw[List.Nodup,List.pairwise_map];refine List.Pairwise.imp ?_ (fA a).2.2.2.1;intro d e b h;have:=congrArg Ad.dev h;simp only at this;omega
def jO:Value:=.agg (Array.replicate 64 (.int .u64 0)++#[.chan none])
theorem Nt:(prog.info? 221).map (fun i=>(i.zero,i.size,i.bytes))=some (some jO,65,520):=by kernel_rfl
theorem Bm{q:Array Oper}{rest:List Oper}{o:Oper}{a:Act}{Q:Exit->Act->World->Prop}(I:o.guard=none)(l c:Operand)(u:o.op=Op.makeSlice 213 l c)
 (n:Nat) (K:a.eval l=.int .i64 (n:Int)) (G:a.eval c=.int .i64 (n:Int)) (P:n≤8)
 (F:∀f,bO f w.heap.size (fun _=>none) n []->aA aB w f->wpList prog q Q rest (a.put o.dst (.slice (w.heap.size) n n)) f) :
 wpList prog q Q (o::rest) a w:=by
 have h:(prog.info? 221).map (fun i=>(i.zero,i.size,i.bytes))=some (some jO,65,520):=Nt;obtain⟨i,J,N⟩:=Option.map_eq_some_iff.1 h;injection N with v b
 injection b with b y
 refine wpList_make_full w I l c 213 u w.heap.size 221 i jO 65 underlying213 J v b .i64 .i64 n n n K G rfl rfl (by rw[y];omega) (by unfold maxLen;omega) (Nat.le_refl _) ?_;intro f B C;have t:aA aB w f:=by have:=aA.of_grown C;exact this.mono fun k _ h=>by cases h
 rcases B.2 with⟨s,-⟩|⟨g,A,cur,s,R,E,S,T,h6,h7⟩
 ·cases s
 ·cases s
  have p:cur=madeCells jO.cells (n*65):=by
   apply Array.toList_inj.1;rw[←h7,List.take_of_length_le (by rw[Array.length_toList,h6];exact Nat.le_refl _)]
  have m:∀j,j<n*65->cur[j]?=some (jO.cells[j % 65]!):=fun j z=>by
   rw[p];unfold madeCells;rw[Array.getElem?_map,Array.getElem?_range,if_pos z];show some (jO.cells[j % jO.cells.size]!)=_;rw[show jO.cells.size=65 from by simp[jO,Value.cells]]
  refine F f ⟨cur,E,h6,fun d H k t=>⟨0#64,?_,fun j z=>?_⟩,fun d H=>?_⟩ t
  ·rw[m _ (by omega),show (d*65+k) % 65=k by omega]
   have e:jO.cells[k]! = .int .u64 0:=by
    show (Array.replicate 64 (Value.int .u64 0)++#[Value.chan none])[k]! = _;rw[getElem!_pos _ _ (by simp;omega),Array.getElem_append_left (by simpa using t),Array.getElem_replicate]
   rw[e];rfl
  ·simp[dY]
  ·rw[m _ (by omega),show (d*65+64) % 65=64 by omega]
   rfl
def vH(D S:Int)(u:List Ad):Bool:=decide (2≤D) && decide (D≤8) && decide (8≤S) && decide (S≤4096) && u.all fun x=>fN x D S
def qK(w:World)(D S:Int)(u:List Ad)(e:Ending)(f:World):Prop:=
 if vH D S u then ∃a b c,e=.returned (.tuple #[.pointer (some ⟨a,0,none⟩),.int .i64 0])/\dD f w.heap.size a b c D.toNat S.toNat u/\aA aB w f
 else e=.returned (.tuple #[.pointer none,.int .i64 2])/\aA aB w f
theorem Jg(w:World)(D S:Int)(v:Value)(l:List Ad)(hr:Rd w 2 v l.length (aR l)):Calls prog 91 #[.int .i64 D,.int .i64 S,v] w (qK w D S l):=by
 obtain⟨bb,qa⟩:=zX9 (vH D S l)
 have I:=O qa;have J:Hid (bb=false->∀o,aA aB w o->∀e,e=.returned (.tuple #[.pointer none,.int .i64 2])->qK w D S l e o):=O (fun h o k e he=>by unfold qK;rw[qa,h,if_neg (by decide)];exact⟨he,k⟩);have zo:Hid (bb=true->∀o a b c,dD o w.heap.size a b c D.toNat S.toNat l->aA aB w o->∀e,e=.returned (.tuple #[.pointer (some ⟨a,0,none⟩),.int .i64 0])->qK w D S l e o):=O (fun h o a b c hl k e he=>by unfold qK;rw[qa,h,if_pos rfl];exact⟨a,b,c,he,hl,k⟩);have T:=O (aA.refl aB w);clear qa;obtain⟨oa,ca,rfl,-,zx⟩:=hr.form;have K:l.length≤maxLen:=by have h:=hr.2;obtain⟨a',za,h1,h2,h3,-⟩:=h;omega
 unfold maxLen at K;clear zx;have HR:=O hr;obtain⟨n,G⟩:=zX9 l.length
 have HN:=O G;rw[G] at HR K
 try rw[G]
 clear hr G
 by_cases h1:2≤D
 ·by_cases h2:D≤8
  ·by_cases h3:8≤S
   ·by_cases h4:S≤4096
    ·obtain⟨d,rfl⟩:∃d:Nat,D=(d:Int):=⟨D.toNat,by omega⟩
     obtain⟨z,rfl⟩:∃z:Nat,S=(z:Int):=⟨S.toNat,by omega⟩
     have qq:2≤d/\d≤8/\8≤z/\z≤4096:=by omega
     have qd:bb=l.all fun x=>fN x (d:Int) (z:Int):=by
      rw[←I.out];unfold vH;rw[decide_eq_true h1,decide_eq_true h2,decide_eq_true h3,decide_eq_true h4];rfl
     have qb:=O qd;have i1:¬(d:Int)<2:=by omega
     have i2:¬8<(d:Int):=by omega
     have i3:¬(z:Int)<8:=by omega
     have i4:¬4096<(z:Int):=by omega
     have d1:decide ((d:Int)<2)=false:=decide_eq_false i1;have d2:decide (8<(d:Int))=false:=decide_eq_false i2;have d3:decide ((z:Int)<8)=false:=decide_eq_false i3;have d4:decide (4096<(z:Int))=false:=decide_eq_false i4;clear qd;go_in
     go_wp2_with (first
      | ((with_reducible show WL _ (.makeSlice _ _ _));refine Bm rfl (.tmp 26) (.tmp 26) rfl d rfl rfl (by omega) ?_
         intro w1 qx zh;obtain⟨w2,zz,qt,ze,zy⟩:=aP w1 #[.int .i64 (z:Int),.slice (w.heap.size) d d] 215;have ql:=O (qx.keep qt id);have qi:Hid (iC w2 w1.heap.size (z:Int) (w.heap.size) d):=O ze;have q1:=O (zh.trans qt);have zu:=qx.lt;clear qx zh qt ze zy))
     clear zz;obtain⟨B,hB⟩:=zX9 w.heap.size
     obtain⟨A,hA⟩:=zX9 w1.heap.size
     have R:=O hB;rw[hB,hA] at qi zu;rw[hB] at ql ⊢
     try rw[hA]
     have zb:A≠B:=by omega
     clear hB hA
     go_loopw [32] (fun i wr=>∃k:Nat,k≤n/\i=.int .i64 k/\Hid (bO wr B (fun _=>none) d (l.take k))/\Hid (iC wr A (z:Int) (some ⟨B,0,none⟩) d)/\Hid (aA aB w wr)/\Hid (((l.take k).all fun x=>fN x (d:Int) (z:Int))=true)) (fun i _=>n-(intOf i).toNat)
     case atStart=>exact⟨0,Nat.zero_le _,rfl,ql,qi,q1,O (by simp)⟩
     case round =>
     clear ql qi q1;obtain⟨k,hk,rfl,HW,HT,HK,HA⟩:=hrel
     by_cases zw:k<n
     ·have z5:(k:Int)<(n:Int):=by omega
      have z3:(0:Int)≤(k:Int):=by omega
      have zp:=O (HR.keep HK.out fun _ _=>id);have zf:B<wr.heap.size:=HW.lt;obtain⟨x,qo⟩:∃x,l[k]?=some x:=⟨l[k]'(by rw[HN.out];exact zw),List.getElem?_eq_getElem _⟩
      have qn:=zp.out;rw[←HN.out] at qn;obtain⟨gl,ol,za,zd,qc⟩:=gX qn qo;have e1:oa=some ⟨gl,ol,none⟩:=by cases zd;rfl
      subst e1;have HX:=O qc;have HE:=O qo;clear qo qn zd qc
      go_wp2_with (first
       | ((with_reducible show WL _ (.load 59 (.tmp 34)));refine wpList_load_mid rfl 59 (.tmp 34) rfl gl (ol+k*2) rfl (aO x) _ HX.out bT rfl cC ?_)
       | ((with_reducible show WL (some 10) (.alloc 59));refine aY rfl 59 rfl eM eI #[.int .i64 0,.int .i64 0] rfl ?_)
       | ((with_reducible show WL none (.store 59 (.tmp 10) (.tmp 35)));refine aQ rfl 59 (.tmp 10) (.tmp 35) rfl wr.heap.size 0 (aO x) rfl rfl #[.int .i64 0,.int .i64 0] 59 (heap_alloc_new _ _) (Nat.le_refl _) cC (bP _) ?_
          intro w3 qp zi;rw[aS _ _ (by rfl)] at qp;have F:aA aB wr w3:=((aA.refl aB wr).alloc _).tT zi (fun i hi e=>by omega);have Q:=O qp;have p:=O F;clear qp zi F)
       | ((with_reducible show WL _ (.load 59 (.tmp 10)));refine wpList_load_mid rfl 59 (.tmp 10) rfl wr.heap.size 0 rfl (aO x) _ (aD Q.out) bT rfl cC ?_))
      have q3:=O (HK.trans p.out);have q9:=O (HW.keep p.out id);have qj:=O (HT.keep p.out id);obtain⟨X,hX⟩:=zX9 wr.heap.size
      rw[hX] at Q zf ⊢;have z6:w.heap.size≤X:=by rw[←hX];exact HK.size
      clear hX HX p HW HT HK;have HP:=JR w3 A d (z:Int) _ qj.out x;obtain⟨mb,qv⟩:=zX9 (fN x (d:Int) (z:Int))
      rw[qv] at HP;have qg:=O qv;have HP:=O HP;clear qv;refine HP.mono ?_;rintro e w4 ⟨rfl,F⟩;have p:=O (q3.trans F);have W:=O (q9.keep F id);have V:=O (qj.keep F id);have qe:=O (F.blk Q.out id);clear F q3 q9 qj Q HP;cases mb
      ·have E:bb=false:=by
        rw[qb.out,List.all_eq_false];exact⟨x,List.mem_of_getElem? HE.out,by rw[qg.out];decide⟩
       go_wp2
       go_ret2
       exact J.out E _ p.out _ rfl
      ·obtain⟨e,s,rfl,hd,h5,hs⟩:=Ed qg.out
       have q0:Hid (((l.take (k+1)).all fun x=>fN x (d:Int) (z:Int))=true):=O (by rw[List.take_add_one,HE.out,List.all_append,HA.out];simpa using qg.out);have HU:=O (fun wx (kk:aA aB w4 wx)=>Ma wx B d (fun _=>none) (l.take k) (W.keep kk id) e s hd (by omega));obtain⟨ub,qw⟩:=zX9 (dY (l.take k) e s)
       rw[qw] at HU;have q5:=O qw;have qr:=V.c1;have qy:w4.cell? ⟨X,0,none⟩=some (.int .i64 (e:Int)):=aC qe.out rfl;have qz:w4.cell? ⟨X,1,none⟩=some (.int .i64 (s:Int)):=aC qe.out rfl;have z2:(e:Int)<(d:Int):=by omega
       have z1:(0:Int)≤(e:Int):=by omega
       clear qw;go_wp2_with fail;obtain⟨S,Y⟩:∃S:World->Prop,S=fun o=>aA aB w4 o:=⟨_,rfl⟩
       have q:=O (show ∀o,S o->aA aB w4 o from fun o h=>by rw[Y] at h;exact h);have qh:=O (show ∀o,aA aB w4 o->S o from fun o h=>by rw[Y];exact h);have H:S w4.drew:=by rw[Y];exact(aA.refl _ _).drew
       clear Y;refine wp_region_held (S:=S) (by kernel_rfl) ?_;change wpAnyH _ _ _ _ _ _ _ _ w4.drew;generalize w4.drew=P at H ⊢;refine tka 0 (.pointer (some ⟨A,0,none⟩)) rfl H ?_;simp only[Act.put,List.setIfInBounds_toArray,List.set_cons_zero,List.set_cons_succ,List.getElem_toArray,List.getElem_cons_zero];refine tnb 1 (.pointer (some ⟨A,0,none⟩)) rfl H ?_;refine tnb 2 (.pointer (some ⟨A,1,none⟩)) rfl H ?_;refine tnd 3 (.slice (some ⟨B,0,none⟩) d d) rfl (.inl ⟨by rfl,fun o N=>by have c:=(q o N).cell qr id;go_simp⟩) H ?_;refine tnb 4 (.pointer (some ⟨X,0,none⟩)) rfl H ?_;refine tnd 5 (.int .i64 (e:Int)) rfl (.inl ⟨by rfl,fun o N=>by have c:=(q o N).cell qy id;go_simp⟩) H ?_;refine tnb 6 (.pointer (some ⟨B,e*65,none⟩)) rfl H ?_;refine tnb 7 (.pointer (some ⟨X,1,none⟩)) rfl H ?_;refine tnd 8 (.int .i64 (s:Int)) rfl (.inl ⟨by rfl,fun o N=>by have c:=(q o N).cell qz id;go_simp⟩) H ?_;refine wA9 9 ?_;go_wp2_with fail;refine(HU _ (q _ H)).mono ?_;rintro e z0 ⟨rfl,rfl⟩;have hk:=aA.refl aB P;have C:=qh.out _ ((q _ H).trans hk);clear H hk;go_wp2_with fail;refine⟨C,?_⟩;cases ub
       ·refine tnb 10 (.bool true) rfl C ?_
        refine tna 11 (.bool true) rfl C ?_;refine wpAnyH_done (by kernel_rfl) ?_ _;have f:=O (q _ C);clear C q qh;have qf:=O (p.trans f.out);have qm:=O (W.keep f.out id);have qk:=O (V.keep f.out id);have qr:=f.cell qr id;have qy:=f.cell qy id;have qz:=f.cell qz id;clear f HU p W V qe;go_wp2_with fail
        have HC:=O (fun wx (kk:aA aB P wx)=>Cw wx B d (fun _=>none) (l.take k) (l.take k++[⟨(e:Int),(s:Int)⟩]) (qm.keep kk id) e s hd (by omega) (fun e' t _ _=>by
         rw[pV]
         by_cases h1:e'=e/\t=s
         ·obtain⟨rfl,rfl⟩:=h1
          rw[q5.out];simp
         ·have:(decide (e'=e) && decide (t=s))=false:=by
           rw[Bool.and_eq_false_iff,decide_eq_false_iff_not,decide_eq_false_iff_not]
           by_cases h2:e'=e
           ·exact .inr fun h3=>h1 ⟨h2,h3⟩
           ·exact .inl h2
          rw[this];simp))
        obtain⟨dd,zg⟩:=zX9 (e*65)
        rw[zg] at HC
        go_still_tail 9,(by kernel_rfl)
        go_wp2_with fail
        try rw[zg]
        refine(HC _ (aA.refl aB _).drew).mono ?_;rintro e5 w6 ⟨rfl,zk,zj⟩;have zr:Hid (bO w6 B (fun _=>none) d (l.take (k+1))):=O (by rw[List.take_add_one,HE.out];exact zk);have qu:=(aA.refl (fun j=>j=B) P).drew.trans zj;have zq:=O (qk.keep qu zb);have zl:=O (qf.trans' qu (U:=aB) (fun _ _ h=>h) (fun i hi e=>by have:=R.out;omega));clear zk zj qu HC;go_wp2
        go_roundw
        case rel=>exact⟨k+1,by omega,by go_num,zr,zq,zl,q0⟩
        case measure=>simp[intOf];omega
       ·refine tnb 10 (.bool false) rfl C ?_
        refine tna 11 (.bool false) rfl C ?_;refine wpAnyH_done (by kernel_rfl) ?_ _;have f:=O (q _ C);clear C q qh;have qf:=O (p.trans f.out);have qk:=O (V.keep f.out id)
        have qm:Hid (bO _ B (fun _=>none) d (l.take (k+1))):=O ((W.keep f.out id).congr fun y=>by
         rw[List.take_add_one,HE.out];show y∈l.take k↔y∈l.take k++[_];rw[List.mem_append,List.mem_singleton];refine⟨.inl,fun h=>h.elim id fun h=>?_⟩;rw[h];exact of_decide_eq_true q5.out)
        clear f HU;go_wp2
        go_roundw
        case rel=>exact⟨k+1,by omega,by go_num,qm,qk,qf,q0⟩
        case measure=>simp[intOf];omega
     ·obtain rfl:n=k:=by omega
      have zv:bb=true:=by
       rw[qb.out];have h:=HA.out
       rwa [List.take_of_length_le (by rw[HN.out];exact Nat.le_refl _)] at h
      have hw:=HW.out;rw[List.take_of_length_le (by rw[HN.out];exact Nat.le_refl _)] at hw;have zf:B<wr.heap.size:=hw.lt;have HC:=O (JS wr A B d z _ l HT.out hw qq.2.1 (by omega) qq.2.2.2);clear hw;go_wp2_with fail;refine HC.mono ?_;rintro e w6 ⟨rfl,c',g1,g2,g3,g4⟩;have z7:=HK.size;have zt:w.heap.size≤A:=by have:=R.out;omega
      have zn:Hid (dD w6 w.heap.size A B c' ((d:Int).toNat) ((z:Int).toNat) l):=O (by
       rw[Int.toNat_natCast,Int.toNat_natCast];refine⟨HT.keep g4 zb,g1,fun d' hd=>?_,g3,qq,zt,by have:=R.out;omega,fun d' g hd hg=>?_⟩
       ·obtain⟨g,h5,-,h6⟩:=g2 d' hd
        exact⟨g,h5,h6⟩
       ·obtain⟨g',h5,h6,-⟩:=g2 d' hd
        rw[hg] at h5;cases h5
        omega)
      have zm:=O (HK.trans' g4 (U:=aB) (fun _ _ h=>h) (fun i hi e=>by have:=R.out;omega));clear g1 g2 g3 g4 HC;go_wp2
      go_ret2
      exact zo.out zv _ _ _ _ zn.out zm.out _ rfl
    ·have E:bb=false:=by
      rw[←I.out];unfold vH;simp[h4]
     have i1:¬D<2:=by omega
     have i2:¬8<D:=by omega
     have i3:¬S<8:=by omega
     have i4:4096<S:=by omega
     have d1:decide (D<2)=false:=decide_eq_false i1;have d2:decide (8<D)=false:=decide_eq_false i2;have d3:decide (S<8)=false:=decide_eq_false i3;have d4:decide (4096<S)=true:=decide_eq_true i4;go_in;go_wp2
     go_ret2
     exact J.out E _ T.out _ rfl
   ·have E:bb=false:=by
     rw[←I.out];unfold vH;simp[h3]
    have i1:¬D<2:=by omega
    have i2:¬8<D:=by omega
    have i3:S<8:=by omega
    have d1:decide (D<2)=false:=decide_eq_false i1;have d2:decide (8<D)=false:=decide_eq_false i2;have d3:decide (S<8)=true:=decide_eq_true i3;go_in;go_wp2
    go_ret2
    exact J.out E _ T.out _ rfl
  ·have E:bb=false:=by
    rw[←I.out];unfold vH;simp[h2]
   have i1:¬D<2:=by omega
   have i2:8<D:=by omega
   have d1:decide (D<2)=false:=decide_eq_false i1;have d2:decide (8<D)=true:=decide_eq_true i2;go_in;go_wp2
   go_ret2
   exact J.out E _ T.out _ rfl
 ·have E:bb=false:=by
   rw[←I.out];unfold vH;simp[h1]
  have i1:D<2:=by omega
  have d1:decide (D<2)=true:=decide_eq_true i1;go_in;go_wp2
  go_ret2
  exact J.out E _ T.out _ rfl
end
end Go.Proofs.YtoeinblfcbpcmaaGreat
