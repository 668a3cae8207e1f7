import Derived.Test.YtoeinblfcbpcmaaGreatDoorC10
import Derived.Conc.LoneSelectN
namespace Go.Proofs.YtoeinblfcbpcmaaGreatDoor
open Tryz
set_option maxHeartbeats 0
set_option maxRecDepth 100000
set_option linter.unusedVariables false
section
open Go.RowKit Go.Maps Go.ChangeMaps
open Go.Conc (run_len_chan)
def CR(w:World)(b D Z:Nat)(L:List Ad)(e:Ending)(w':World):Prop:=
 e=.returned (.tuple #[])/\∃c:Nat->Option Nat,bT w' b c D L/\(∀d,d<D->∃g,c d=some g/\w.heap.size≤g/\fX w' g Z (aZ L d Z))/\(∀d e g,d<D->e<D->c d=some g->c e=some g->d=e)/\aA (fun k=>k=b) w w'
structure uP(w:World)(b D Z:Nat)(L:List Ad)(c:Nat->Option Nat)(i:Nat)(w':World):Prop where
 words:bT w' b c D L
 chans:∀d,d<i->∃g,c d=some g/\w.heap.size≤g/\fX w' g Z (aZ L d Z)
 inj:∀d e g,d<i->e<i->c d=some g->c e=some g->d=e
 keep:aA (fun k=>k=b) w w'
theorem uP.next{w w' f:World}{b D Z i g:Nat}{L:List Ad}{c:Nat->Option Nat}(h:uP w b D Z L c i w')(B:b<w.heap.size)(A:bT f b (fun e=>if e=i then some g else c e) D L)(u:fX f g Z (aZ L i Z))(E:w'.heap.size≤g)(k:aA (fun k=>k=b) w' f) :
 uP w b D Z L (fun e=>if e=i then some g else c e) (i+1) f:=by
 have F:=h.keep.size;refine⟨A,fun d v=>?_,fun d e q v C j a=>?_,h.keep.trans k⟩
 ·by_cases e:d=i
  ·subst e
   exact⟨g,if_pos rfl,by omega,u⟩
  ·obtain⟨q,o,y,t⟩:=h.chans d (by omega)
   exact⟨q,by rw[←o];exact if_neg e,y,t.keep k (fun e=>by omega)⟩
 ·have m:∀d q,d<i->c d=some q->q<w'.heap.size:=fun d q v z=>by
   obtain⟨G,o,-,t⟩:=h.chans d v;rw[z] at o;cases o
   exact t.lt
  by_cases p:d=i<;>by_cases s:e=i
  ·omega
  ·simp only[p,s,if_true,if_false] at j a
   cases j
   have:=m e g (by omega) a;omega
  ·simp only[p,s,if_true,if_false] at j a
   cases a
   have:=m d g (by omega) j;omega
  ·simp only[p,s,if_false] at j a
   exact h.inj d e q (by omega) (by omega) j a
theorem J4(w:World)(a b D Z:Nat)(c:Nat->Option Nat)(L:List Ad)(m:iC w a (Z:Int) b D)(y:bT w b c D L)(T:D≤8)(B:5≤Z)(N:Z≤4096):Calls prog 157 #[.pointer a] w (CR w b D Z L):=by
 have s:=y.lt
 have p:a≠b:=by
  intro e;subst e;obtain⟨S,o,-⟩:=y.row;unfold iC at m;rw[m] at o;cases o
 have F:=O m;have K:=O y;have u:=m.c1;have t:=m.c0;clear m y;go_in;go_wp2_with fail
 go_loopw [8] (fun i wr=>∃(k:Nat) (v:Nat->Option Nat),k≤D/\i=.int .i64 k/\Hid (uP w b D Z L v k wr)) (fun i _=>D-(intOf i).toNat)
 case atStart=>exact⟨0,c,Nat.zero_le _,rfl,O ⟨K.out,fun d h=>absurd h (Nat.not_lt_zero _),fun d e q h=>absurd h (Nat.not_lt_zero _),aA.refl _ _⟩⟩
 case round =>
 obtain⟨k,v,U,rfl,j⟩:=hrel;clear t u;have u:=(F.keep j.keep p).c1;have t:=(F.keep j.keep p).c0
 by_cases C:k<D
 ·have Q:(k:Int)<(D:Int):=by omega
  have P:(0:Int)≤(k:Int):=by omega
  have E:=O (fun J (R:aA aB wr J)=>J2 J b D v L (j.words.keep R id) k Z C B N);go_wp2_with fail
  go_still_tail 10,(by kernel_rfl)
  go_wp2_with fail;refine(E _ (aA.refl aB _).drew).mono ?_;rintro e V ⟨rfl,g,o,G,H,I⟩;have z:=O (j.next s o G H ((aA.refl (fun k=>k=b) wr).drew.trans I));clear o G H I E;go_wp2
  go_roundw
  case rel=>exact⟨k+1,_,by omega,by go_num,z⟩
  case measure=>simp[intOf];omega
 ·obtain rfl:D=k:=by omega
  have f:CR w b D Z L (.returned (.tuple #[])) wr:=⟨rfl,v,j.words,j.chans,j.inj,j.keep⟩
  have A:=O f;clear f;go_wp2_with fail
  go_end0
  exact A.out
theorem zV(w:World)(lo a b D Z:Nat)(c:Nat->Option Nat)(L:List Ad)(h:dA w lo a b c D Z L):Calls prog 93 #[.pointer a] w (QH w (bN L D Z)):=by
 have J:=O h;have qd:=h.bd;have y:D≠0:=by omega
 have u:=AA w a D Z _ h.top;rw[decide_eq_false y] at u;have u:=O u;clear h y;go_in;go_wp2_with fail;refine u.mono ?_;rintro e w1 ⟨rfl,rfl⟩;clear u;have A:=J.top.c1;go_wp2_with fail
 go_loopw [3,12] (fun t i wr=>∃(k:Nat) (pa:Option Addr) (K:Nat),k≤D/\t=.slice pa k K/\i=.int .i64 k/\Hid (wr.ownsRow w.heap.size 3 1 (.slice pa k K) k ((bN L k Z).map fun x=>.int .i64 x))/\Hid (aA aB w wr)) (fun _ i _=>D-(intOf i).toNat)
 case atStart=>exact⟨0,none,0,Nat.zero_le _,rfl,rfl,O (World.ownsRow_nil _ _ _ _),O (aA.refl _ _)⟩
 case round =>
 obtain⟨k,pa,K,hk,rfl,rfl,HO,p⟩:=hrel;clear A;have A:=p.cell J.top.c1 id
 by_cases G:k<D
 ·have qf:(k:Int)<(D:Int):=by omega
  have qe:(0:Int)≤(k:Int):=by omega
  obtain⟨gc,E,C⟩:=J.chans k G;have B:=p.cell (J.words.chan G) id;rw[E] at B;obtain⟨sn,rn,V⟩:=C.keep p.out id;have f:=fun ty=>run_len_chan (P:=prog) 156 ty underlying156 V
  have j:(((aZ L k Z).map fun x=>Value.int .i64 x).toArray).size=(aZ L k Z).length:=by rw[List.size_toArray,List.length_map]
  rw[j] at f;obtain⟨q,Y⟩:=zX9 ((aZ L k Z).length)
  rw[Y] at f;have N:Hid (bN L (k+1) Z=bN L k Z++[(q:Int)]):=O (by unfold bN;rw[List.range_succ,List.map_append,←Y];rfl);have qc:=O V;obtain⟨w8,I,m,z,qa⟩:=aM wr #[.int .i64 (q:Int)] 3;have S:Hid (Rd w8 1 (.slice (wr.heap.size) 1 1) 1 [.int .i64 (q:Int)]):=O (eL (n:=1) (size:=1) (vs:=[.int .i64 (q:Int)]) z rfl (by unfold maxLen;omega));have v:=O (m.owns HO.out fun _ _=>id);have s:=O (p.trans m);have H:w.heap.size≤w8.heap.size:=s.size;clear m z qa V j Y C E;obtain⟨oo,X⟩:=zX9 (k*65)
  rw[X] at B
  go_wp2_with (first
   | (at_builtin;try rw[I]
      refine aK rfl (.tmp 15) (.tmp 25) 54 rfl w.heap.size 3 (.int .i64 0) 1 8 underlying54 Ci rfl (by decide) (.slice pa k K) k ((bN L k Z).map fun x=>.int .i64 x) rfl v.out (.slice (wr.heap.size) 1 1) 1 [.int .i64 (q:Int)] rfl S.out (wX [(q:Int)]) (by unfold maxLen;omega) (by omega) H ?_;intro v' w5 o F W T;obtain⟨va,vc,rfl,-,-⟩:=(Rd.of_owns o).form;have R:Hid (w5.ownsRow w.heap.size 3 1 (.slice va (k+1) vc) (k+1) ((bN L (k+1) Z).map fun x=>.int .i64 x)):=O (by rw[N.out,List.map_append];exact o);have Q:=O (s.trans' F (U:=aB) (fun _ _ h=>h) (fun i hi e=>by have:=aX v.out e;omega));clear o F W T I))
  go_roundw
  case rel=>exact⟨k+1,va,vc,by omega,rfl,by go_num,R,Q⟩
  case measure=>simp[intOf];omega
 ·obtain rfl:D=k:=by omega
  go_wp2;go_ret;exact⟨_,rfl,by rw[jA];exact HO.out,p.out⟩
end
section
open Go.RowKit Go.Maps Go.ChangeMaps
def aU(L:List Ad)(Z:Nat)(l:List Nat):List Ad:=l.map fun(d:Nat)=>(⟨(d:Int),(aZ L d Z).headD 0⟩:Ad)
variable{L M:List Ad}{Z d D g k base cap cp n:Nat}{w w1 w':World}{x:Int}{r l fr:List Int}{th:List Bool}{e:Ending}
theorem F8(L:List Ad)(Z:Nat)(l:List Nat)(d:Nat):aU L Z (l++[d])=aU L Z l++[(⟨(d:Int),(aZ L d Z).headD 0⟩:Ad)]:=by unfold aU;rw[List.map_append];rfl
theorem mW(L:List Ad)(Z:Nat)(l:List Nat):(aU L Z l).length=l.length:=by simp[aU]
theorem xA:∀{l:List Nat},d ∉ l->aZ (M++aU L Z l) d Z=aZ M d Z:=by
 intro l b;refine mV fun s _ _=>?_
 unfold dX;rw[decide_eq_decide,List.mem_append];refine⟨fun h=>h.elim id fun h=>?_,.inl⟩;unfold aU at h;obtain⟨e,c,a⟩:=List.mem_map.1 h;injection a with f _
 have:e=d:=by omega
 subst this;exact absurd c b
theorem dA.take{C:World}{lo a b:Nat}{c:Nat->Option Nat}(h:dA w lo a b c D Z M)(F:d<D)(u:c d=some g)(N:aZ M d Z=x::r)
 (E:fX w1 g Z r) (G:aA (fun k=>k=g) w w1) (K:bT C b c D (M++[⟨(d:Int),x⟩])) (B:aA (fun k=>k=b) w1 C):dA C lo a b c D Z (M++[⟨(d:Int),x⟩]):=by
 obtain⟨t,rfl,Q,R,S,T,A⟩:=oO N
 have z:g≠a:=by
  rintro rfl;obtain⟨s,W,m⟩:=E;obtain⟨J,f,o⟩:=h.chans d F;rw[u] at f;cases f
  obtain⟨V,U,v⟩:=o;have:=h.top;unfold iC at this;rw[v] at this;cases this
 have y:b≠a:=by
  rintro rfl;obtain⟨H,m,-⟩:=h.words.row;have:=h.top;unfold iC at this;rw[m] at this;cases this
 have p:∀e q,e<D->c e=some q->q≠b:=by
  rintro e q j P rfl;obtain⟨J,f,o⟩:=h.chans e j;rw[P] at f;cases f
  obtain⟨V,U,v⟩:=o;obtain⟨H,m,-⟩:=h.words.row;rw[v] at m;cases m
 refine⟨(h.top.keep G (fun e=>z e.symm)).keep B (fun e=>y e.symm),K,fun e j=>?_,h.inj,h.bd,h.lo⟩
 by_cases i:e=d
 ·subst i
  exact⟨g,u,by rw[A];exact E.keep B (p e g j u)⟩
 ·obtain⟨q,f,o⟩:=h.chans e j
  refine⟨q,f,?_⟩;rw[Es i];exact(o.keep G (fun I=>i (h.inj e d q j F f (by rw[u,I])))).keep B (p e q j f)
theorem J8{v:Value}{l:List Nat}(h:Rd w 1 v l.length (nV l)){x:Nat}(b:l[k]?=some x):∃g o cap,v=.slice (some ⟨g,o,none⟩) l.length cap/\w.cell? ⟨g,o+k,none⟩=some (.int .i64 (x:Int)):=by
 obtain⟨h0,a,cap,rfl,j,m,p,c⟩:=h;have i:=(List.getElem?_eq_some_iff.1 b).1;obtain⟨g,o,rfl,f⟩:=c (by unfold nV;rw[List.length_map];omega);exact⟨g,o,cap,rfl,f k _ (by unfold nV;rw[List.getElem?_map,b];rfl)⟩
def jG(w:World)(lo a b:Nat)(c:Nat->Option Nat)(D Z:Nat)(L:List Ad)(th:List Bool)(cp:Int)(e:Ending)(w':World):Prop:=
 if iT (bN L D Z) th cp then
  match bL (bN L D Z) th cp.toNat with
  | none=>e=.returned (.tuple #[.slice none 0 0,.int .i64 15])/\aA aB w w'
  | some l=>∃v,e=.returned (.tuple #[v,.int .i64 0])/\dA w' lo a b c D Z (L++aU L Z l)/\w'.ownsRow w.heap.size 93 2 v l.length (aJ (aU L Z l))/\aA (Own a b c D) w w'
 else e=.returned (.tuple #[.slice none 0 0,.int .i64 2])/\aA aB w w'
theorem Ex(w:World)(lo a b D Z:Nat)(c:Nat->Option Nat)(L:List Ad)(h:dA w lo a b c D Z L)(vt:Value)(th:List Bool)(cp:Int)(ht:Rd w 1 vt th.length (th.map Value.bool)) :
 Calls prog 41 #[.pointer a,vt,.int .i64 cp] w (jG w lo a b c D Z L th cp):=by
 have HL:=O h;have HT:=O ht;obtain⟨ta,tc,rfl,-,-⟩:=ht.form;have xj:=h.bd;have za:D≠0:=by omega
 have HN:=AA w a D Z _ h.top;rw[decide_eq_false za] at HN;have HN:=O HN;obtain⟨fr,qf⟩:=zX9 (bN L D Z)
 have X:Hid (fr.length=D):=O (by rw[←qf];exact jA L D Z);have HF:=zV w lo a b D Z c L h;rw[qf] at HF;have HF:=O HF;obtain⟨bb,zg⟩:=zX9 (iT fr th cp)
 obtain⟨o,ho⟩:=zX9 (bL fr th cp.toNat)
 have W:=O zg;have HO:=O ho;have Y:=O qf;have HC:=O (fun wx v (k:aA aB w wx) (hr:Rd wx 1 v fr.length (fr.map fun x=>.int .i64 x))=>F7 wx v _ fr th cp hr (ht.keep k fun _ _=>id));clear h ht za zg ho qf;go_in;go_wp2_with fail;refine HN.mono ?_;rintro e w1 ⟨rfl,rfl⟩;clear HN;go_wp2_with fail;refine HF.mono ?_;rintro e w2 ⟨v,rfl,qr,zi⟩;have q4:=O (Rd.of_owns qr);have I:=O zi;obtain⟨fa,fc,rfl,-,-⟩:=(Rd.of_owns qr).form;clear qr zi HF;rw[X.out];have qi:=q4.out;rw[X.out] at qi;have G:=HC.out w2 _ I.out q4.out;rw[X.out] at G;have G:=O G;clear qi HC;go_wp2_with fail;refine G.mono ?_;intro e V f;unfold oY at f;rw[W.out,HO.out] at f;clear G;cases bb
 ·rw[if_neg (by decide)] at f
  obtain⟨rfl,R⟩:=f;have A:=O (I.trans R);have HP:Hid (∀e,e=.returned (.tuple #[.slice none 0 0,.int .i64 2])->jG w lo a b c D Z L th cp e V):=O (fun e he=>by unfold jG;rw[Y.out,W.out,if_neg (by decide)];exact⟨he,A.out⟩);clear R;go_wp2
  go_ret2
  exact HP.out _ rfl
 ·rw[if_pos rfl] at f
  cases o with
  | none =>
    obtain⟨rfl,R⟩:=f;have A:=O (I.trans R);have HP:Hid (∀e,e=.returned (.tuple #[.slice none 0 0,.int .i64 15])->jG w lo a b c D Z L th cp e V):=O (fun e he=>by unfold jG;rw[Y.out,W.out,if_pos rfl,HO.out];exact⟨he,A.out⟩);clear R;go_wp2
    go_ret2
    exact HP.out _ rfl
  | some l =>
    obtain⟨v,rfl,zk,R⟩:=f;have Q:=eM HO.out;have zy:=O Q.2.2.2.1
    have qv:Hid (∀d∈l,d<D/\∃x r,aZ L d Z=x::r):=O (fun d hd=>by
     have C:=(Q.2.2.2.2 d hd)
     rw[X.out] at C;have E:=C.2;unfold dU at E;rw[Bool.and_eq_true,decide_eq_true_eq,←Y.out,oX L C.1] at E;refine⟨C.1,?_⟩;cases e:aZ L d Z with
     | nil=>rw[e] at E;simp at E
     | cons x r=>exact⟨x,r,rfl⟩)
    have A:=O (I.trans R);have z:=zk.of I.out;obtain⟨q,hq⟩:=zX9 l.length
    have xr:q≤8:=by
     have C:=Q.2.1;have E:=Q.2.2.2.1;have h3:l.length≤(List.range D).length:=List.Nodup.length_le_of_subset E fun d hd=>List.mem_range.2 (qv d hd).1
     rw[List.length_range] at h3;omega
    have HQ:=O hq;obtain⟨va,vc,rfl,-,-⟩:=z.1.form;have B:=O z.1;have ql:=O z.2
    have q9:Hid (0<l.length->∀i,(Value.slice va l.length vc).ownBlock=some i->i<V.heap.size):=O (fun h0 i F=>by
     obtain⟨j,C,E⟩:=z.1.lt (by unfold nV;rw[List.length_map];exact h0);rw[F] at C;cases C
     exact E)
    have qw:Hid (aA (Own a b c D) V V):=O (aA.refl _ _);have zn:=A.size;rw[hq] at B ql q9;have qz:=O (HL.keep0 A.out);have N:Hid (∀k,Own a b c D k->k<w.heap.size):=O (fun k R=>(HL.own_lt R).2);clear R zk z Q hq;rw[HQ.out];go_wp2_with fail
    go_loopw [10,30] (fun t i wr=>∃(k:Nat) (pa:Option Addr) (pc:Nat),k≤q/\t=.slice pa k pc/\i=.int .i64 k/\Hid (dA wr lo a b c D Z (L++aU L Z (l.take k)))/\Hid (wr.ownsRow V.heap.size 93 2 (.slice pa k pc) k (aJ (aU L Z (l.take k))))/\Hid (aA (Own a b c D) V wr)/\Hid (Rd wr 1 (.slice va q vc) q (nV l))) (fun _ i _=>q-(intOf i).toNat)
    case atStart=>exact⟨0,none,0,Nat.zero_le _,rfl,rfl,O (by simpa [aU] using qz.out),O (World.ownsRow_nil _ _ _ _),qw,B⟩
    case round =>
    clear qz B;obtain⟨k,pa,pc,R,rfl,rfl,m,K,HK,B⟩:=hrel
    by_cases xb:k<q
    ·have xq:(k:Int)<(q:Int):=by omega
     have xp:(0:Int)≤(k:Int):=by omega
     obtain⟨d,hd⟩:∃d,l[k]?=some d:=⟨l[k]'(by rw[HQ.out];exact xb),List.getElem?_eq_getElem _⟩
     have qt:=B.out;rw[←HQ.out] at qt;obtain⟨p,o,cap,hv,xl⟩:=J8 qt hd;rw[HQ.out] at hv;have e1:va=some ⟨p,o,none⟩:=by cases hv;rfl
     subst e1;obtain⟨y,x,r,hf⟩:=qv.out d (List.mem_of_getElem? hd);have zb:l.take (k+1)=l.take k++[d]:=by rw[List.take_add_one,hd];rfl
     have zj:d ∉ l.take k:=by
      intro hm;obtain⟨j,hj⟩:=List.getElem?_of_mem hm;have xa:=(List.getElem?_eq_some_iff.1 hj).1;rw[List.length_take] at xa;rw[List.getElem?_take,if_pos (by omega)] at hj;obtain⟨C,E⟩:=List.getElem?_eq_some_iff.1 hj;obtain⟨h3,h4⟩:=List.getElem?_eq_some_iff.1 hd;exact List.pairwise_iff_getElem.1 zy.out j k C h3 (by omega) (E.trans h4.symm)
     have zd:aU L Z (l.take (k+1))=aU L Z (l.take k)++[(⟨(d:Int),x⟩:Ad)]:=by rw[zb,F8,hf];rfl
     obtain⟨t,rfl,xe,xi,xf,xg,xh⟩:=oO hf;have qe:aZ (L++aU L Z (l.take k)) d Z=(t:Int)::r:=by rw[xA zj];exact hf
     obtain⟨gc,qg,qp⟩:=m.chans d y;rw[qe] at qp;have H:=JZ wr b (d*65) gc Z (t:Int) r (by have h:=m.words.chan y;rw[qg] at h;exact h) qp;have q5:=O zd;have qu:=O qe;have H:=O H;have zh:=m.top.c1;have xn:(d:Int)<(D:Int):=by omega
     have xm:(0:Int)≤(d:Int):=by omega
     have qa:=O qg;have HZ:Hid (t<4096):=O (by have:=HL.bd;omega);have xo:gc<w.heap.size:=N.out gc (.inr (.inr ⟨d,y,qg⟩));have xk:b<w.heap.size:=N.out b (.inr (.inl rfl))
     have q7:Hid (dX (L++aU L Z (l.take k)) d t=false):=O (by
      have C:(t:Int)∈aZ (L++aU L Z (l.take k)) d Z:=by rw[qe];exact List.mem_cons_self ..
      obtain⟨s,E,-,-,h3⟩:=qA.1 C;have:t=s:=by omega
      subst this;exact h3)
     clear qt hv hd hf zb zj zd qe qp xe xi xf xg xh qg;obtain⟨M,hM⟩:=zX9 (L++aU L Z (l.take k))
     have zx:=O hM;rw[hM] at m qu q7;clear hM;obtain⟨dd,qd⟩:=zX9 (d*65)
     rw[qd] at H;go_wp2_with fail
     try rw[qd]
     refine H.mono ?_;rintro e w5 ⟨rfl,P,u⟩
     have qj:=m.words.keep u (fun e=>by
      obtain⟨s,rr,h3⟩:=P;obtain⟨cs,h4,-⟩:=m.words.row;obtain⟨g',h5,s',r',h6⟩:=m.chans d y;rw[qa.out] at h5;cases h5
      rw[←e,h4] at h6;cases h6)
     have qm:=O (CQ w5 b D c M (M++[⟨(d:Int),(t:Int)⟩]) qj d t y HZ.out (fun e s he hs=>by
      rw[qB]
      by_cases C:e=d/\s=t
      ·obtain⟨rfl,rfl⟩:=C
       rw[q7.out];simp
      ·have:(decide (e=d) && decide (s=t))=false:=by
        rw[Bool.and_eq_false_iff,decide_eq_false_iff_not,decide_eq_false_iff_not]
        by_cases E:e=d
        ·exact .inr fun h3=>C ⟨E,h3⟩
        ·exact .inl E
       rw[this];simp))
     have qh:=O P;have J:=O u
     have ze:a≠gc:=fun e=>by
      obtain⟨g',h5,s',r',h6⟩:=m.chans d y;rw[qa.out] at h5;cases h5
      have h7:=m.top;unfold iC at h7;rw[e,h6] at h7;cases h7
     have zh:=(m.top.keep u ze).c1;rw[qd] at qm;clear P u qj H ze;go_wp2_with fail
     try rw[qd]
     refine qm.mono ?_;rintro e w6 ⟨rfl,qk,S⟩;have q0:=O (m.take y qa.out qu.out qh.out J.out qk S);have q1:=O (S.owns (J.owns K.out (fun i F e=>by have:=aX K.out F;omega)) (fun i F e=>by have:=aX K.out F;omega));have qx:=O ((HK.trans' J.out (U:=Own a b c D) (fun _ _ h=>h) (fun i _ h=>.inr (.inr ⟨d,y,by rw[qa.out,h]⟩))).trans' S (U:=Own a b c D) (fun _ _ h=>h) (fun i _ h=>.inr (.inl h)));have q3:=O ((B.keep J.out (fun i F e=>by have:=ql.out i F;omega)).keep S (fun i F e=>by have:=ql.out i F;omega));clear qk S qm qh J m K B HK zh;obtain⟨w8,zo,T,zf,xd⟩:=aM w6 (aO ⟨(d:Int),(t:Int)⟩).toArray 93;have z6:Hid (Rd w8 2 (.slice (w6.heap.size) 1 1) 1 (aO ⟨(d:Int),(t:Int)⟩)):=O (eL (n:=1) (size:=2) (vs:=aO ⟨(d:Int),(t:Int)⟩) zf rfl (by unfold maxLen;omega));have qc:=O (T.owns q1.out fun _ _=>id);have qy:=O (qx.trans' T (U:=Own a b c D) (fun _ _ h=>h) (fun _ _ h=>h.elim));have zu:=O (q0.keep0 T);have z1:=O (q3.keep T fun _ _=>id);have zl:V.heap.size≤w8.heap.size:=qy.size;have zr:Hid (aJ (aU L Z (l.take (k+1)))=aJ (aU L Z (l.take k))++aO ⟨(d:Int),(t:Int)⟩):=O (by rw[q5.out,gR,zR]);clear T zf xd q1 qx q0 q3
     go_wp2_with (first
      | ((with_reducible show WL _ (.buildSlice _ 1 _));refine bX rfl 29 93 (.tmp 57) rfl underlying29 tI (by decide) (aO ⟨(d:Int),(t:Int)⟩) rfl (by decide) rfl ?_;rw[zo])
      | (at_builtin;refine aK rfl (.tmp 54) (.tmp 58) 29 rfl V.heap.size 93 eN 2 16 underlying29 tI rfl (by decide) (.slice pa k pc) k (aJ (aU L Z (l.take k))) rfl qc.out (.slice (w6.heap.size) 1 1) 1 (aO ⟨(d:Int),(t:Int)⟩) rfl z6.out (bV _) (by unfold maxLen;omega) (by omega) zl ?_
         intro v' w9 qq u xc z7;obtain⟨zp,zq,rfl,-,-⟩:=(Rd.of_owns qq).form;have zz:Hid (w9.ownsRow V.heap.size 93 2 (.slice zp (k+1) zq) (k+1) (aJ (aU L Z (l.take (k+1))))):=O (by rw[zr.out];exact qq);have zt:=O (qy.trans' u (U:=Own a b c D) (fun _ _ h=>h) (fun i F e=>by have:=aX qc.out e;omega));have zv:=O (zu.keep u (fun i F ho=>by have:=aX qc.out F;have:=N.out i ho;omega));have z2:=O (z1.keep u (fun i F e=>by have:=aX qc.out e;have:=q9.out (by omega) i F;omega));clear qq u xc z7 zo))
     have zw:Hid (dA w9 lo a b c D Z (L++aU L Z (l.take (k+1)))):=O (by rw[q5.out,←List.append_assoc,zx.out];exact zv.out)
     go_roundw
     case rel=>exact⟨k+1,zp,zq,by omega,rfl,by go_num,zw,zz,zt,z2⟩
     case measure=>simp[intOf];omega
    ·obtain rfl:q=k:=by omega
     have zm:l.take q=l:=List.take_of_length_le (by rw[HQ.out];exact Nat.le_refl _);have qn:=m.out;have qo:=K.out;rw[zm] at qn qo;have HP:Hid (∀e,e=.returned (.tuple #[.slice pa q pc,.int .i64 0])->jG w lo a b c D Z L th cp e wr):=O (fun e he=>by unfold jG;rw[Y.out,W.out,if_pos rfl,HO.out];exact⟨_,he,qn,by rw[HQ.out];exact aQ qo zn,A.trans' HK.out (U:=Own a b c D) (fun _ _ h=>h.elim) (fun _ _ h=>h)⟩);clear qn qo zm;go_wp2
     go_ret2
     exact HP.out _ rfl
def iH(w:World)(base g cap:Nat)(l:List Int):Prop:=base≤g/\l.length≤cap/\cap≤maxLen/\∃cur:Array Value,w.heap[g]?=some (.cells cur 3 (0,0))/\cur.size=cap/\cur.toList.take l.length=l.map fun x=>Value.int .i64 x
theorem iH.keep{T:Nat->Prop}(h:iH w base g cap l)(k:aA T w w')(j:¬T g):iH w' base g cap l:=by
 obtain⟨a,b,c,cur,f,i⟩:=h;exact⟨a,b,c,cur,k.blk f j,i⟩
theorem iH.lt(h:iH w base g cap l):g<w.heap.size:=by
 obtain⟨b,c,f,cur,a,i⟩:=h;exact(Array.getElem?_eq_some_iff.1 a).1
theorem iH.cell(h:iH w base g cap l)(b:l[k]?=some x):w.cell? ⟨g,k,none⟩=some (.int .i64 x):=by
 obtain⟨j,m,o,cur,c,p,f⟩:=h;have i:=(List.getElem?_eq_some_iff.1 b).1;refine aC c ?_
 have a:(cur.toList.take l.length)[k]?=some (.int .i64 x):=by
  rw[f,List.getElem?_map,b];rfl
 rw[List.getElem?_take,if_pos i] at a
 simpa using a
theorem iH.free(h:iH w base g cap l)(k:Nat):w.frozen? ⟨g,k,none⟩=false:=by
 obtain⟨b,c,f,cur,a,i,j⟩:=h;exact bP a k
theorem iH.set(h:iH w base g cap l)(x:Int):iH (w.setCell ⟨g,k,none⟩ (.int .i64 x)) base g cap (l.set k x)/\aA (fun i=>i=g) w (w.setCell ⟨g,k,none⟩ (.int .i64 x)):=by
 obtain⟨a,b,c,cur,f,j,m⟩:=h;refine⟨⟨a,by rw[List.length_set];exact b,c,_,cH f k _,by rw[Array.size_setIfInBounds];exact j,?_⟩,(aA.refl (fun i=>i=g) w).setCell (p:=⟨g,k,none⟩) (fun _=>rfl) _⟩;rw[List.length_set,Array.toList_setIfInBounds,List.take_set,m,List.map_set]
theorem iH.rd(h:iH w base g cap l):Rd w 1 (.slice g l.length cap) l.length (l.map fun x=>.int .i64 x):=by
 obtain⟨o,b,c,cur,f,p,j⟩:=h;refine⟨by simp,some ⟨g,0,none⟩,cap,rfl,b,c,(by intro e;cases e),fun _=>⟨g,0,rfl,fun i u a=>?_⟩⟩;refine aC f ?_;have m:i<l.length:=by have:=(List.getElem?_eq_some_iff.1 a).1;simpa using this
 rw[←j,List.getElem?_take,if_pos m] at a
 simpa using a
theorem iH.of_owns{m b:Nat}{pa:Option Addr}(h:w.ownsRow base 3 1 (.slice pa m b) m (l.map fun x=>.int .i64 x))(s:0<m)(o:l.length=m):∃g,pa=some ⟨g,0,none⟩/\iH w base g b l:=by
 rcases h.2 with⟨a,-⟩|⟨g,cap,cur,a,c,f,p,i,q,j⟩
 ·cases a;omega
 ·cases a
  exact⟨g,rfl,c,by omega,i,cur,f,by omega,by rw[o,←j,Nat.mul_one]⟩
def J9(w:World)(l:List Int)(e:Ending)(w':World):Prop:=∃g cap,e=.returned (.slice (some ⟨g,0,none⟩) l.length cap)/\iH w' w.heap.size g cap l/\aA aB w w'
theorem If(w:World)(v:Value)(l:List Int)(q:Rd w 1 v l.length (l.map fun x=>.int .i64 x))(h0:0<l.length)(R:l.length≤8):Calls prog 64 #[v] w (J9 w l):=by
 obtain⟨x,I⟩:∃x,l[0]?=some x:=⟨l[0]'h0,List.getElem?_eq_getElem _⟩
 obtain⟨p,o,H,T,-⟩:=wY q I;subst T;obtain⟨n,C⟩:=zX9 l.length
 have G:=O C;rw[C] at q h0 R ⊢;obtain⟨J,m,c,A,F⟩:=aM w #[] 3;have u:Hid (J.ownsRow w.heap.size 3 1 (.slice (w.heap.size) 0 0) 0 []):=O (by rw[←m];exact World.ownsRow_made w #[] 0 (Nat.le_refl _) (by unfold maxLen;omega) rfl);have y:=O (q.keep c fun _ _=>id);have s:=O c;have S:w.heap.size<J.heap.size:=by omega
 have W:∀w,(binOp .eql 54 (.slice (some ⟨p,o,none⟩) n H) (.slice none 0 0)).run prog w=.ok (.bool false) w:=fun w=>by kernel_rfl
 clear c A F q I C;go_in
 go_wp2_with (first
  | (at_builtin;try rw[m]
     refine aK rfl (.tmp 5) (.tmp 6) 54 rfl w.heap.size 3 (.int .i64 0) 1 8 underlying54 Ci rfl (by decide) (.slice (w.heap.size) 0 0) 0 ([]) rfl u.out (.slice (some ⟨p,o,none⟩) n H) n (l.map fun x=>.int .i64 x) rfl y.out (wX _) (by unfold maxLen;omega) (by omega) (by omega) ?_;intro Y w1 a j E B;obtain⟨N,P,rfl,-,-⟩:=(Rd.of_owns a).form;rw[Nat.zero_add,List.nil_append] at a;have K:=O a;have z:=O j;clear a j E B))
 have t:=O (s.trans' z.out (U:=aB) (fun _ _ h=>h) (fun i X e=>by have V:w.heap.size=i:=Option.some.inj e;omega))
 try rw[Nat.zero_add]
 obtain⟨g,Q,b⟩:=iH.of_owns K.out h0 G.out;subst Q;have f:=O b;clear b;go_ret;exact⟨g,_,by rw[G.out];rfl,f.out,t.out⟩
def dV(w:World)(fr:List Int)(th:List Bool)(cp:Int)(e:Ending)(w':World):Prop:=
 if iT fr th cp then ∃N:Nat,gJ th cp.toNat fr N/\e=.returned (.tuple #[.int .i64 (N:Int),.int .i64 0])/\aA aB w w'
 else e=.returned (.tuple #[.int .i64 0,.int .i64 2])/\aA aB w w'
theorem OS(h:∀x∈fr,0≤x/\x≤4096):jD fr≤fr.length*4096:=by
 unfold jD
 induction fr with
 | nil=>simp
 | cons x fr b =>
   have c:=h x (List.mem_cons_self ..);have f:=b fun y a=>h y (List.mem_cons_of_mem _ a)
   simp only[List.map_cons,List.sum_cons,List.length_cons];omega
theorem OT(h:∀x∈fr,0≤x/\x≤4096)(i:Nat):fr.getD i 0≤4096:=by
 rw[List.getD_eq_getElem?_getD];cases e:fr[i]? with
 | none=>show (0:Int)≤4096;omega
 | some x=>exact(h x (List.mem_of_getElem? e)).2
theorem CC(w:World)(v vt:Value)(fr:List Int)(th:List Bool)(cp:Int)(hr:Rd w 1 v fr.length (fr.map fun x=>.int .i64 x))(ht:Rd w 1 vt th.length (th.map Value.bool)) :
 Calls prog 92 #[v,vt,.int .i64 cp] w (dV w fr th cp):=by
 have X:=O (Bg w v vt fr th cp hr ht);obtain⟨bb,qg⟩:=zX9 (iT fr th cp)
 have W:=O qg;rw[qg] at X;have HR:=O hr;have HT:=O ht;obtain⟨oa,ca,rfl,-,-⟩:=hr.form;obtain⟨ta,tc,rfl,-,-⟩:=ht.form;clear hr ht qg;cases bb
 ·have HP:Hid (∀w',aA aB w w'->∀e,e=.returned (.tuple #[.int .i64 0,.int .i64 2])->dV w fr th cp e w'):=O (fun w' k e he=>by unfold dV;rw[W.out,if_neg (by decide)];exact⟨he,k⟩)
  go_in;go_wp2_with fail;refine X.mono ?_;rintro e w2 ⟨rfl,z⟩;have J:=O z;clear z X;go_wp2
  go_ret2
  exact HP.out _ J.out _ rfl
 ·obtain⟨C,K,h3,h4,h5,h6⟩:=zW W.out
  obtain⟨c,rfl⟩:∃c:Nat,cp=(c:Int):=⟨cp.toNat,by omega⟩
  have HP:Hid (∀N:Nat,gJ th c fr N->∀w',aA aB w w'->∀e,e=.returned (.tuple #[.int .i64 (N:Int),.int .i64 0])->dV w fr th (c:Int) e w'):=O (fun N hN w' k e he=>by unfold dV;rw[W.out,if_pos rfl];exact⟨N,by rw[Int.toNat_natCast];exact hN,he,k⟩);obtain⟨n,hn⟩:=zX9 fr.length
  have HN:=O hn;have Y:=O (fun wx (k:aA aB w wx)=>If wx _ fr (HR.keep k fun _ _=>id) (by omega) K);have qx:=O (OT h6);obtain⟨S0,qe⟩:=zX9 (jD fr)
  have zi:S0≤40000:=by rw[←qe];have:=OS h6;omega
  have q3:=O qe;have qo:=O h3;rw[hn] at Y X C K ⊢;rw[h3,hn] at X ⊢;have q7:1≤c:=by omega
  have q9:c≤3:=by omega
  clear h3 h4 h5 h6 hn qe;go_in;go_wp2_with fail;refine X.mono ?_;rintro e w2 ⟨rfl,z⟩;have P:=O z;clear z X;go_wp2_with fail;refine(Y w2 P.out).mono ?_;rintro e w3 ⟨g,cap,rfl,t,z⟩;have a:=O t;have qk:=O (P.trans z);have qf:w.heap.size≤g:=Nat.le_trans P.size t.1;clear z t P Y;rw[HN.out];have a:Hid (iH w3 w.heap.size g cap fr):=O ⟨qf,a.2⟩;go_wp2_with fail
  go_loopw [10] (fun i wr=>∃(N:Nat) (f:List Int),N≤S0/\i=.int .i64 N/\Hid (iH wr w.heap.size g cap f)/\Hid (f.length=n)/\Hid (N+jD f≤S0)/\Hid (∀i,f.getD i 0≤4096)/\Hid (∀m,gJ th c f m->gJ th c fr (N+m))/\Hid (aA aB w wr)) (fun i _=>S0+1-(intOf i).toNat)
  case atStart=>exact⟨0,fr,Nat.zero_le _,rfl,a,HN,O (by rw[q3.out];omega),qx,O (fun m h=>by rw[Nat.zero_add];exact h),qk⟩
  case round =>
  clear a qk;obtain⟨N,f,hN,rfl,a,u,qn,qj,ql,J⟩:=hrel;have za:(c:Int)=(c:Int):=rfl;have B:=Bf wr _ (.slice ta th.length tc) f th c a.rd (HT.keep J.out fun _ _=>id) (by rw[u.out];exact K) (by rw[qo.out,HN.out,u.out]) q7 q9;rw[u.out,qo.out,HN.out] at B;have B:=O B;obtain⟨oc,qh⟩:=zX9 (bL f th c)
  have R:=O qh;rw[qh] at B;clear qh za;go_wp2_with fail;refine B.mono ?_;intro e w4 H;clear B;cases oc with
  | none =>
    obtain⟨rfl,z⟩:=H;have Q:=O (J.trans z);have q1:Hid (gJ th c fr N):=O (ql 0 (.none R.out));clear z;go_wp2
    go_ret2
    exact HP.out N q1.out _ Q.out _ rfl
  | some l =>
    obtain⟨v,rfl,T,z⟩:=H;have ze:=a.lt;have F:=O (a.keep z id);have Q:=O (J.trans z);have G:=eM R.out;obtain⟨q,hq⟩:=zX9 l.length
    have HQ:=O hq;obtain⟨va,vc,rfl,-,-⟩:=T.1.form;have y:=O T.1
    have qv:Hid (∀i,(Value.slice va q vc).ownBlock=some i->i≠g):=O (fun i E e=>by
     have:=T.2 i (by rw[←E,hq]);omega)
    rw[hq] at y
    have zq:q≤8:=by
     have C:l.length≤(List.range f.length).length:=List.Nodup.length_le_of_subset G.2.2.2.1 fun d S=>List.mem_range.2 (G.2.2.2.2 d S).1
     rw[List.length_range,u.out] at C;omega
    have qc:=O G.2.2.2.1
    have qa:Hid (∀d∈l,d<n/\0<f.getD d 0):=O (fun d S=>by
     have C:=G.2.2.2.2 d S;rw[u.out] at C;have K:=C.2;unfold dU at K;rw[Bool.and_eq_true,decide_eq_true_eq] at K;exact⟨C.1,K.2⟩)
    have q4:=O (Ba R.out (by omega));clear z T G ze;rw[hq];clear hq;go_wp2_with fail
    go_loopw [38] (fun i wr=>∃j:Nat,j≤q/\i=.int .i64 j/\Hid (iH wr w.heap.size g cap (fK f (l.take j)))/\Hid (Rd wr 1 (.slice va q vc) q (nV l))/\Hid (aA aB w wr)) (fun i _=>q-(intOf i).toNat)
    case atStart=>exact⟨0,Nat.zero_le _,rfl,F,y,Q⟩
    case round =>
    clear F y Q a J;obtain⟨j,hj,rfl,a,y,J⟩:=hrel
    by_cases zg:j<q
    ·have zp:(j:Int)<(q:Int):=by omega
     have zo:(0:Int)≤(j:Int):=by omega
     obtain⟨d,S⟩:∃d,l[j]?=some d:=⟨l[j]'(by rw[HQ.out];exact zg),List.getElem?_eq_getElem _⟩
     have qi:=y.out;rw[←HQ.out] at qi;obtain⟨p,o,zh,hv,zk⟩:=J8 qi S;rw[HQ.out] at hv;have e1:va=some ⟨p,o,none⟩:=by cases hv;rfl
     subst e1;obtain⟨zb,zd⟩:=qa.out d (List.mem_of_getElem? S)
     have qq:d ∉ l.take j:=by
      intro hm;obtain⟨i,E⟩:=List.getElem?_of_mem hm;have zf:=(List.getElem?_eq_some_iff.1 E).1;rw[List.length_take] at zf;rw[List.getElem?_take,if_pos (by omega)] at E;obtain⟨C,K⟩:=List.getElem?_eq_some_iff.1 E;obtain⟨h3,h4⟩:=List.getElem?_eq_some_iff.1 S;exact List.pairwise_iff_getElem.1 qc.out i j C h3 (by omega) (K.trans h4.symm)
     have V:(fK f (l.take j)).length=n:=by rw[Au,u.out]
     obtain⟨x,hx⟩:∃x,(fK f (l.take j))[d]?=some x:=⟨(fK f (l.take j))[d]'(by rw[V];exact zb),List.getElem?_eq_getElem _⟩
     have qr:x=f.getD d 0:=by
      have C:=Av (l.take j) f (List.Nodup.sublist (List.take_sublist _ _) qc.out) (fun i E=>by rw[u.out];exact(qa i (List.mem_of_mem_take E)).1) d;rw[if_neg qq,List.getD_eq_getElem?_getD,hx] at C;have K:x=f.getD d 0-0:=C;omega
     have zr:0<x:=by omega
     have zt:x≤4096:=by rw[qr];exact qj.out d
     have zj:=a.cell hx;have zn:=a.free d;have I:=a.set (k:=d) (x-1)
     have qp:(fK f (l.take j)).set d (x-1)=fK f (l.take (j+1)):=by
      rw[List.take_add_one,S];show _=fK f (l.take j++[d]);rw[JM,List.getD_eq_getElem?_getD,hx];rfl
     rw[qp] at I;have A:=O I;have zm:(d:Int)<(n:Int):=by omega
     have zl:(0:Int)≤(d:Int):=by omega
     clear qi hv S qq V hx qr I qp zd;go_wp2_with fail;have qw:=O (J.trans' A.2 (U:=aB) (fun _ _ h=>h) (fun i E e=>by omega));have q0:=O (y.keep A.2 (fun i E e=>qv.out i E e));have qy:=O A.1;clear A a y J
     go_roundw
     case rel=>exact⟨j+1,by omega,by go_num,qy,q0,qw⟩
     case measure=>simp[intOf];omega
    ·obtain rfl:q=j:=by omega
     have t:=a.out;rw[List.take_of_length_le (by rw[HQ.out];exact Nat.le_refl _)] at t;have qd:=O t;have qu:Hid ((fK f l).length=n):=O (by rw[Au,u.out]);have qm:Hid (N+1+jD (fK f l)≤S0):=O (by have:=qn.out;have:=q4.out;omega);have q5:N+1≤S0:=by have:=qm.out;omega
     have qt:Hid (∀i,(fK f l).getD i 0≤4096):=O (fun i=>by
      rw[Av l f qc.out (fun i E=>by rw[u.out];exact(qa i E).1) i];have:=qj.out i;split<;>omega)
     have qz:Hid (∀m,gJ th c (fK f l) m->gJ th c fr (N+1+m)):=O (fun m hm=>by
      have:=ql.out (m+1) (.more R.out hm)
      rwa [show N+1+m=N+(m+1) by omega])
     clear t;go_wp2
     go_roundw
     case rel=>exact⟨N+1,fK f l,q5,by go_num,qd,qu,qm,qt,qz,J⟩
     case measure=>simp[intOf];omega
theorem dV.form{cp:Int}(h:dV w fr th cp e w'):∃(N:Nat) (r:Int),e=.returned (.tuple #[.int .i64 (N:Int),.int .i64 r]):=by
 unfold dV at h;split at h
 ·obtain⟨N,-,a,-⟩:=h
  exact⟨N,0,a⟩
 ·exact⟨0,2,h.1⟩
theorem dV.of{cp:Int}(h:dV w1 fr th cp e w')(k:aA aB w w1):dV w fr th cp e w':=by
 unfold dV at h ⊢;split
 ·rename_i a
  rw[if_pos a] at h;obtain⟨N,b,c,f⟩:=h;exact⟨N,b,c,k.trans f⟩
 ·rename_i a
  rw[if_neg a] at h;exact⟨h.1,k.trans h.2⟩
theorem Mz(w:World)(lo a b D Z:Nat)(c:Nat->Option Nat)(L:List Ad)(h:dA w lo a b c D Z L)(I:Value)(th:List Bool)(cp:Int)(u:Rd w 1 I th.length (th.map Value.bool)) :
 Calls prog 37 #[.pointer a,I,.int .i64 cp] w (dV w (bN L D Z) th cp):=by
 have j:=zV w lo a b D Z c L h;have p:D≠0:=by have:=h.bd;omega
 have o:=AA w a D Z _ h.top;rw[decide_eq_false p] at o;have o:=O o;obtain⟨fr,s⟩:=zX9 (bN L D Z)
 rw[s] at j ⊢;have j:=O j;have K:=O u;have y:=O (fun C v (k:aA aB w C) (J:Rd C 1 v fr.length (fr.map fun x=>.int .i64 x))=>CC C v _ fr th cp J (u.keep k fun _ _=>id));obtain⟨R,S,rfl,-,-⟩:=u.form;obtain⟨q,H⟩:=zX9 th.length
 rw[H] at y ⊢;clear h u p s H;go_in;go_wp2_with fail;refine o.mono ?_;rintro e w1 ⟨rfl,rfl⟩;clear o;go_wp2_with fail;refine j.mono ?_;rintro e T ⟨v,rfl,i,F⟩;have A:=O (Rd.of_owns i);have E:=O F;obtain⟨P,Q,rfl,-,-⟩:=(Rd.of_owns i).form;have f:=y.out _ _ E.out A.out;obtain⟨m,G⟩:=zX9 fr.length
 rw[G] at f ⊢;have f:=O f;clear i F j G y;go_wp2_with fail;refine f.mono ?_;intro e U B;have t:=B.of E.out;obtain⟨N,r,rfl⟩:=B.form;have z:=O t;clear B t f;go_wp2
 go_ret2
 exact z.out
theorem MA{m:List Int}(h:l.length=m.length)(c:∀i,i<l.length->l.getD i 0=m.getD i 0):l=m:=by
 refine List.ext_getElem h fun i a b=>?_
 have:=c i a
 rwa [List.getD_eq_getElem?_getD,List.getD_eq_getElem?_getD,List.getElem?_eq_getElem a,List.getElem?_eq_getElem b] at this
theorem zX{l:List Nat}(c:bL (bN M D Z) th cp=some l)(f:d∈l):d<D/\∃x r,aZ M d Z=x::r:=by
 have a:=(eM c).2.2.2.2 d f;rw[jA] at a;have b:=a.2;unfold dU at b;rw[Bool.and_eq_true,decide_eq_true_eq,oX M a.1] at b;refine⟨a.1,?_⟩;cases e:aZ M d Z with
 | nil=>rw[e] at b;simp at b
 | cons x r=>exact⟨x,r,rfl⟩
theorem Bh{l:List Nat}{x:Ad}:x∈aU M Z l↔∃d∈l,x=⟨(d:Int),(aZ M d Z).headD 0⟩:=by
 unfold aU;rw[List.mem_map];exact⟨fun ⟨d,a,b⟩=>⟨d,a,b.symm⟩,fun ⟨d,a,b⟩=>⟨d,a,b.symm⟩⟩
theorem Ig{l:List Nat}(f:d∈l)(a:aZ M d Z=x::r):aZ (M++aU M Z l) d Z=r:=by
 obtain⟨t,rfl,-,-,-,-,c⟩:=oO a;rw[←c];refine mV fun s _ _=>?_
 unfold dX;rw[decide_eq_decide,List.mem_append,List.mem_append,Bh,List.mem_singleton];refine or_congr Iff.rfl ⟨?_,fun h=>⟨d,f,by rw[h,a];rfl⟩⟩;rintro⟨e,i,h⟩;have b:d=e:=by have:=congrArg Ad.dev h;simp only at this;omega
 subst b;rw[h,a];rfl
theorem zY{l:List Nat}(c:bL (bN M D Z) th cp=some l):bN (M++aU M Z l) D Z=fK (bN M D Z) l:=by
 have a:=eM c;refine MA (by rw[Au,jA,jA]) fun d b=>?_
 rw[jA] at b;rw[Av l _ a.2.2.2.1 (fun i j=>(a.2.2.2.2 i j).1),oX _ b,oX _ b]
 by_cases h:d∈l
 ·obtain⟨-,x,r,f⟩:=zX c h
  rw[if_pos h,Ig h f,f];simp
 ·rw[if_neg h,xA h]
  omega
theorem Ih(h:gJ th cp fr (n+1)):∃l,bL fr th cp=some l/\gJ th cp (fK fr l) n:=by
 cases h with
 | more a b=>exact⟨_,a,b⟩
theorem Ii(h:gJ th cp fr 0):bL fr th cp=none:=by
 cases h with
 | none a=>exact a
theorem MB(h:gJ th cp fr n)(b:0<cp):n≤jD fr:=by
 induction h with
 | none _=>exact Nat.zero_le _
 | more a _ c =>
   have:=Ba a b;omega
theorem oZ(L:List Ad)(D Z:Nat):jD (bN L D Z)≤D*Z:=by
 unfold jD bN
 induction D with
 | zero=>simp
 | succ D a =>
   rw[List.range_succ,List.map_append,List.map_append,List.sum_append,Nat.succ_mul];have:=uM L D Z;simp only[List.map_cons,List.map_nil,List.sum_cons,List.sum_nil,Int.toNat_natCast];omega
theorem AD(h:2≤D/\D≤8/\8≤Z/\Z≤4096)(b:th.length=D)(c:1≤cp)(f:cp≤3):iT (bN L D Z) th (cp:Int)=true:=by
 unfold iT wZ;rw[jA];simp only[Bool.and_eq_true,decide_eq_true_eq,List.all_eq_true];refine⟨⟨⟨⟨⟨by omega,by omega⟩,b⟩,by omega⟩,by omega⟩,fun x a=>?_⟩;unfold bN at a;obtain⟨d,-,rfl⟩:=List.mem_map.1 a;have:=uM L d Z;exact⟨by omega,by omega⟩
theorem CS{l:List Nat}(m:2≤D/\D≤8/\8≤Z/\Z≤4096)(o:bL (bN M D Z) th cp=some l){x:Ad}(p:x∈aU M Z l):fL x (D:Int) (Z:Int)=true/\x ∉ M/\∃d t:Nat,x=⟨(d:Int),(t:Int)⟩/\d∈l/\∀s,5≤s->s<t->dX M d s=true:=by
 obtain⟨d,a,rfl⟩:=Bh.1 p;obtain⟨c,y,r,b⟩:=zX o a;obtain⟨t,rfl,f,h,i,j,-⟩:=oO b;rw[b];show fL ⟨(d:Int),(t:Int)⟩ _ _=true/\(⟨(d:Int),(t:Int)⟩:Ad) ∉ M/\_;exact⟨OO m c h f,of_decide_eq_false i,d,t,rfl,a,j⟩
theorem F9{l:List Nat}(a:bL (bN M D Z) th cp=some l):(aU M Z l).Nodup:=by
 unfold aU;rw[List.Nodup,List.pairwise_map];refine List.Pairwise.imp ?_ (eM a).2.2.2.1;intro d e b h;have:=congrArg Ad.dev h;simp only at this;omega
def jV:Value:=.agg (Array.replicate 64 (.int .u64 0)++#[.chan none])
theorem Nw:(prog.info? 158).map (fun i=>(i.zero,i.size,i.bytes))=some (some jV,65,520):=by kernel_rfl
theorem Bz{p:Array Oper}{rest:List Oper}{o:Oper}{a:Act}{Q:Exit->Act->World->Prop}(I:o.guard=none)(l c:Operand)(t:o.op=Op.makeSlice 159 l c)
 (n:Nat) (K:a.eval l=.int .i64 (n:Int)) (G:a.eval c=.int .i64 (n:Int)) (P:n≤8)
 (F:∀w',bT w' w.heap.size (fun _=>none) n []->aA aB w w'->wpList prog p Q rest (a.put o.dst (.slice (w.heap.size) n n)) w') :
 wpList prog p Q (o::rest) a w:=by
 have h:(prog.info? 158).map (fun i=>(i.zero,i.size,i.bytes))=some (some jV,65,520):=Nw;obtain⟨i,J,N⟩:=Option.map_eq_some_iff.1 h;injection N with u b
 injection b with b v
 refine wpList_make_full w I l c 159 t w.heap.size 158 i jV 65 underlying159 J u b .i64 .i64 n n n K G rfl rfl (by rw[v];omega) (by unfold maxLen;omega) (Nat.le_refl _) ?_;intro w' A B;have s:aA aB w w':=by have:=aA.of_grown B;exact this.mono fun k _ h=>by cases h
 rcases A.2 with⟨q,-⟩|⟨g,cap,cur,q,R,C,S,T,y,E⟩
 ·cases q
 ·cases q
  have m:cur=madeCells jV.cells (n*65):=by
   apply Array.toList_inj.1;rw[←E,List.take_of_length_le (by rw[Array.length_toList,y];exact Nat.le_refl _)]
  have f:∀j,j<n*65->cur[j]?=some (jV.cells[j % 65]!):=fun j z=>by
   rw[m];unfold madeCells;rw[Array.getElem?_map,Array.getElem?_range,if_pos z];show some (jV.cells[j % jV.cells.size]!)=_;rw[show jV.cells.size=65 from by simp[jV,Value.cells]]
  refine F w' ⟨cur,C,y,fun d H k s=>⟨0#64,?_,fun j z=>?_⟩,fun d H=>?_⟩ s
  ·rw[f _ (by omega),show (d*65+k) % 65=k by omega]
   have e:jV.cells[k]! = .int .u64 0:=by
    show (Array.replicate 64 (Value.int .u64 0)++#[Value.chan none])[k]! = _;rw[getElem!_pos _ _ (by simp;omega),Array.getElem_append_left (by simpa using s),Array.getElem_replicate]
   rw[e];rfl
  ·simp[dX]
  ·rw[f _ (by omega),show (d*65+64) % 65=64 by omega]
   rfl
def rM(D S:Int)(u:List Ad):Bool:=decide (2≤D) && decide (D≤8) && decide (8≤S) && decide (S≤4096) && u.all fun x=>fL x D S
def oF(w:World)(D S:Int)(u:List Ad)(e:Ending)(w':World):Prop:=
 if rM D S u then ∃a b c,e=.returned (.tuple #[.pointer (some ⟨a,0,none⟩),.int .i64 0])/\dA w' w.heap.size a b c D.toNat S.toNat u/\aA aB w w'
 else e=.returned (.tuple #[.pointer none,.int .i64 2])/\aA aB w w'
theorem BB(w:World)(D S:Int)(v:Value)(l:List Ad)(hr:Rd w 2 v l.length (aJ l)):Calls prog 105 #[.int .i64 D,.int .i64 S,v] w (oF w D S l):=by
 obtain⟨W,qa⟩:=zX9 (rM D S l)
 have H:=O qa;have I:Hid (W=false->∀w',aA aB w w'->∀e,e=.returned (.tuple #[.pointer none,.int .i64 2])->oF w D S l e w'):=O (fun h w' k e he=>by unfold oF;rw[qa,h,if_neg (by decide)];exact⟨he,k⟩);have zn:Hid (W=true->∀w' a b c,dA w' w.heap.size a b c D.toNat S.toNat l->aA aB w w'->∀e,e=.returned (.tuple #[.pointer (some ⟨a,0,none⟩),.int .i64 0])->oF w D S l e w'):=O (fun h w' a b c hl k e he=>by unfold oF;rw[qa,h,if_pos rfl];exact⟨a,b,c,he,hl,k⟩);have R:=O (aA.refl aB w);clear qa;obtain⟨oa,ca,rfl,-,zw⟩:=hr.form;have J:l.length≤maxLen:=by have h:=hr.2;obtain⟨a',q9,h1,h2,h3,-⟩:=h;omega
 unfold maxLen at J;clear zw;have HR:=O hr;obtain⟨n,F⟩:=zX9 l.length
 have HN:=O F;rw[F] at HR J
 try rw[F]
 clear hr F
 by_cases h1:2≤D
 ·by_cases h2:D≤8
  ·by_cases h3:8≤S
   ·by_cases h4:S≤4096
    ·obtain⟨d,rfl⟩:∃d:Nat,D=(d:Int):=⟨D.toNat,by omega⟩
     obtain⟨z,rfl⟩:∃z:Nat,S=(z:Int):=⟨S.toNat,by omega⟩
     have qr:2≤d/\d≤8/\8≤z/\z≤4096:=by omega
     have qe:W=l.all fun x=>fL x (d:Int) (z:Int):=by
      rw[←H.out];unfold rM;rw[decide_eq_true h1,decide_eq_true h2,decide_eq_true h3,decide_eq_true h4];rfl
     have qc:=O qe;have i1:¬(d:Int)<2:=by omega
     have i2:¬8<(d:Int):=by omega
     have i3:¬(z:Int)<8:=by omega
     have i4:¬4096<(z:Int):=by omega
     have d1:decide ((d:Int)<2)=false:=decide_eq_false i1;have d2:decide (8<(d:Int))=false:=decide_eq_false i2;have d3:decide ((z:Int)<8)=false:=decide_eq_false i3;have d4:decide (4096<(z:Int))=false:=decide_eq_false i4;clear qe;go_in
     go_wp2_with (first
      | ((with_reducible show WL _ (.makeSlice _ _ _));refine Bz rfl (.tmp 26) (.tmp 26) rfl d rfl rfl (by omega) ?_
         intro w1 qy zg;obtain⟨w2,zy,qu,zd,zx⟩:=aM w1 #[.int .i64 (z:Int),.slice (w.heap.size) d d] 161;have qm:=O (qy.keep qu id);have qj:Hid (iC w2 w1.heap.size (z:Int) (w.heap.size) d):=O zd;have q3:=O (zg.trans qu);have zt:=qy.lt;clear qy zg qu zd zx))
     clear zy;obtain⟨B,hB⟩:=zX9 w.heap.size
     obtain⟨A,hA⟩:=zX9 w1.heap.size
     have Q:=O hB;rw[hB,hA] at qj zt;rw[hB] at qm ⊢
     try rw[hA]
     have za:A≠B:=by omega
     clear hB hA
     go_loopw [32] (fun i wr=>∃k:Nat,k≤n/\i=.int .i64 k/\Hid (bT wr B (fun _=>none) d (l.take k))/\Hid (iC wr A (z:Int) (some ⟨B,0,none⟩) d)/\Hid (aA aB w wr)/\Hid (((l.take k).all fun x=>fL x (d:Int) (z:Int))=true)) (fun i _=>n-(intOf i).toNat)
     case atStart=>exact⟨0,Nat.zero_le _,rfl,qm,qj,q3,O (by simp)⟩
     case round =>
     clear qm qj q3;obtain⟨k,hk,rfl,HW,HT,HK,HA⟩:=hrel
     by_cases zv:k<n
     ·have z7:(k:Int)<(n:Int):=by omega
      have z6:(0:Int)≤(k:Int):=by omega
      have zo:=O (HR.keep HK.out fun _ _=>id);have ze:B<wr.heap.size:=HW.lt;obtain⟨x,qp⟩:∃x,l[k]?=some x:=⟨l[k]'(by rw[HN.out];exact zv),List.getElem?_eq_getElem _⟩
      have qo:=zo.out;rw[←HN.out] at qo;obtain⟨gl,ol,q9,zb,qd⟩:=fT qo qp;have e1:oa=some ⟨gl,ol,none⟩:=by cases zb;rfl
      subst e1;have HX:=O qd;have HE:=O qp;clear qp qo zb qd
      go_wp2_with (first
       | ((with_reducible show WL _ (.load 93 (.tmp 34)));refine wpList_load_mid rfl 93 (.tmp 34) rfl gl (ol+k*2) rfl (aO x) _ HX.out bY rfl cK ?_)
       | ((with_reducible show WL (some 10) (.alloc 93));refine aG rfl 93 rfl eN eI #[.int .i64 0,.int .i64 0] rfl ?_)
       | ((with_reducible show WL none (.store 93 (.tmp 10) (.tmp 35)));refine aE rfl 93 (.tmp 10) (.tmp 35) rfl wr.heap.size 0 (aO x) rfl rfl #[.int .i64 0,.int .i64 0] 93 (heap_alloc_new _ _) (Nat.le_refl _) cK (bV _) ?_
          intro w3 qq zh;rw[aI _ _ (by rfl)] at qq;have E:aA aB wr w3:=((aA.refl aB wr).alloc _).tT zh (fun i hi e=>by omega);have P:=O qq;have o:=O E;clear qq zh E)
       | ((with_reducible show WL _ (.load 93 (.tmp 10)));refine wpList_load_mid rfl 93 (.tmp 10) rfl wr.heap.size 0 rfl (aO x) _ (aD P.out) bY rfl cK ?_))
      have q4:=O (HK.trans o.out);have q7:=O (HW.keep o.out id);have qk:=O (HT.keep o.out id);obtain⟨X,hX⟩:=zX9 wr.heap.size
      rw[hX] at P ze ⊢;have xa:w.heap.size≤X:=by rw[←hX];exact HK.size
      clear hX HX o HW HT HK;have HP:=J3 w3 A d (z:Int) _ qk.out x;obtain⟨mb,qw⟩:=zX9 (fL x (d:Int) (z:Int))
      rw[qw] at HP;have qh:=O qw;have HP:=O HP;clear qw;refine HP.mono ?_;rintro e w4 ⟨rfl,E⟩;have o:=O (q4.trans E);have V:=O (q7.keep E id);have T:=O (qk.keep E id);have qf:=O (E.blk P.out id);clear E q4 q7 qk P HP;cases mb
      ·have C:W=false:=by
        rw[qc.out,List.all_eq_false];exact⟨x,List.mem_of_getElem? HE.out,by rw[qh.out];decide⟩
       go_wp2
       go_ret2
       exact I.out C _ o.out _ rfl
      ·obtain⟨e,s,rfl,hd,h5,hs⟩:=Ew qh.out
       have q1:Hid (((l.take (k+1)).all fun x=>fL x (d:Int) (z:Int))=true):=O (by rw[List.take_add_one,HE.out,List.all_append,HA.out];simpa using qh.out);have HU:=O (fun wx (kk:aA aB w4 wx)=>Ms wx B d (fun _=>none) (l.take k) (V.keep kk id) e s hd (by omega));obtain⟨ub,qx⟩:=zX9 (dX (l.take k) e s)
       rw[qx] at HU;have q5:=O qx;have qt:=T.c1;have qz:w4.cell? ⟨X,0,none⟩=some (.int .i64 (e:Int)):=aC qf.out rfl;have q0:w4.cell? ⟨X,1,none⟩=some (.int .i64 (s:Int)):=aC qf.out rfl;have z2:(e:Int)<(d:Int):=by omega
       have z1:(0:Int)≤(e:Int):=by omega
       clear qx;go_wp2_with fail;obtain⟨S,Y⟩:∃S:World->Prop,S=fun w'=>aA aB w4 w':=⟨_,rfl⟩
       have p:=O (show ∀w',S w'->aA aB w4 w' from fun w' h=>by rw[Y] at h;exact h);have qi:=O (show ∀w',aA aB w4 w'->S w' from fun w' h=>by rw[Y];exact h);have G:S w4.drew:=by rw[Y];exact(aA.refl _ _).drew
       clear Y;refine wp_region_held (S:=S) (by kernel_rfl) ?_;change wpAnyH _ _ _ _ _ _ _ _ w4.drew;generalize w4.drew=N at G ⊢;refine tka 0 (.pointer (some ⟨A,0,none⟩)) rfl G ?_;simp only[Act.put,List.setIfInBounds_toArray,List.set_cons_zero,List.set_cons_succ,List.getElem_toArray,List.getElem_cons_zero];refine tnb 1 (.pointer (some ⟨A,0,none⟩)) rfl G ?_;refine tnb 2 (.pointer (some ⟨A,1,none⟩)) rfl G ?_;refine tnd 3 (.slice (some ⟨B,0,none⟩) d d) rfl (.inl ⟨by rfl,fun w' K=>by have c:=(p w' K).cell qt id;go_simp⟩) G ?_;refine tnb 4 (.pointer (some ⟨X,0,none⟩)) rfl G ?_;refine tnd 5 (.int .i64 (e:Int)) rfl (.inl ⟨by rfl,fun w' K=>by have c:=(p w' K).cell qz id;go_simp⟩) G ?_;refine tnb 6 (.pointer (some ⟨B,e*65,none⟩)) rfl G ?_;refine tnb 7 (.pointer (some ⟨X,1,none⟩)) rfl G ?_;refine tnd 8 (.int .i64 (s:Int)) rfl (.inl ⟨by rfl,fun w' K=>by have c:=(p w' K).cell q0 id;go_simp⟩) G ?_;refine wA9 9 ?_;go_wp2_with fail;refine(HU _ (p _ G)).mono ?_;rintro e zz ⟨rfl,rfl⟩;have hk:=aA.refl aB N;have q:=qi.out _ ((p _ G).trans hk);clear G hk;go_wp2_with fail;refine⟨q,?_⟩;cases ub
       ·refine tnb 10 (.bool true) rfl q ?_
        refine tna 11 (.bool true) rfl q ?_;refine wpAnyH_done (by kernel_rfl) ?_ _;have f:=O (p _ q);clear q p qi;have qg:=O (o.trans f.out);have qn:=O (V.keep f.out id);have ql:=O (T.keep f.out id);have qt:=f.cell qt id;have qz:=f.cell qz id;have q0:=f.cell q0 id;clear f HU o V T qf;go_wp2_with fail
        have HC:=O (fun wx (kk:aA aB N wx)=>CQ wx B d (fun _=>none) (l.take k) (l.take k++[⟨(e:Int),(s:Int)⟩]) (qn.keep kk id) e s hd (by omega) (fun e' t _ _=>by
         rw[qB]
         by_cases h1:e'=e/\t=s
         ·obtain⟨rfl,rfl⟩:=h1
          rw[q5.out];simp
         ·have:(decide (e'=e) && decide (t=s))=false:=by
           rw[Bool.and_eq_false_iff,decide_eq_false_iff_not,decide_eq_false_iff_not]
           by_cases h2:e'=e
           ·exact .inr fun h3=>h1 ⟨h2,h3⟩
           ·exact .inl h2
          rw[this];simp))
        obtain⟨dd,zf⟩:=zX9 (e*65)
        rw[zf] at HC
        go_still_tail 9,(by kernel_rfl)
        go_wp2_with fail
        try rw[zf]
        refine(HC _ (aA.refl aB _).drew).mono ?_;rintro e5 w6 ⟨rfl,zj,zi⟩;have zq:Hid (bT w6 B (fun _=>none) d (l.take (k+1))):=O (by rw[List.take_add_one,HE.out];exact zj);have qv:=(aA.refl (fun j=>j=B) N).drew.trans zi;have zp:=O (ql.keep qv za);have zk:=O (qg.trans' qv (U:=aB) (fun _ _ h=>h) (fun i hi e=>by have:=Q.out;omega));clear zj zi qv HC;go_wp2
        go_roundw
        case rel=>exact⟨k+1,by omega,by go_num,zq,zp,zk,q1⟩
        case measure=>simp[intOf];omega
       ·refine tnb 10 (.bool false) rfl q ?_
        refine tna 11 (.bool false) rfl q ?_;refine wpAnyH_done (by kernel_rfl) ?_ _;have f:=O (p _ q);clear q p qi;have qg:=O (o.trans f.out);have ql:=O (T.keep f.out id)
        have qn:Hid (bT _ B (fun _=>none) d (l.take (k+1))):=O ((V.keep f.out id).congr fun y=>by
         rw[List.take_add_one,HE.out];show y∈l.take k↔y∈l.take k++[_];rw[List.mem_append,List.mem_singleton];refine⟨.inl,fun h=>h.elim id fun h=>?_⟩;rw[h];exact of_decide_eq_true q5.out)
        clear f HU;go_wp2
        go_roundw
        case rel=>exact⟨k+1,by omega,by go_num,qn,ql,qg,q1⟩
        case measure=>simp[intOf];omega
     ·obtain rfl:n=k:=by omega
      have zu:W=true:=by
       rw[qc.out];have h:=HA.out
       rwa [List.take_of_length_le (by rw[HN.out];exact Nat.le_refl _)] at h
      have hw:=HW.out;rw[List.take_of_length_le (by rw[HN.out];exact Nat.le_refl _)] at hw;have ze:B<wr.heap.size:=hw.lt;have HC:=O (J4 wr A B d z _ l HT.out hw qr.2.1 (by omega) qr.2.2.2);clear hw;go_wp2_with fail;refine HC.mono ?_;rintro e w6 ⟨rfl,c',g1,g2,g3,g4⟩;have xb:=HK.size;have zr:w.heap.size≤A:=by have:=Q.out;omega
      have zm:Hid (dA w6 w.heap.size A B c' ((d:Int).toNat) ((z:Int).toNat) l):=O (by
       rw[Int.toNat_natCast,Int.toNat_natCast];refine⟨HT.keep g4 za,g1,fun d' hd=>?_,g3,qr,zr,by have:=Q.out;omega,fun d' g hd hg=>?_⟩
       ·obtain⟨g,h5,-,h6⟩:=g2 d' hd
        exact⟨g,h5,h6⟩
       ·obtain⟨g',h5,h6,-⟩:=g2 d' hd
        rw[hg] at h5;cases h5
        omega)
      have zl:=O (HK.trans' g4 (U:=aB) (fun _ _ h=>h) (fun i hi e=>by have:=Q.out;omega));clear g1 g2 g3 g4 HC;go_wp2
      go_ret2
      exact zn.out zu _ _ _ _ zm.out zl.out _ rfl
    ·have C:W=false:=by
      rw[←H.out];unfold rM;simp[h4]
     have i1:¬D<2:=by omega
     have i2:¬8<D:=by omega
     have i3:¬S<8:=by omega
     have i4:4096<S:=by omega
     have d1:decide (D<2)=false:=decide_eq_false i1;have d2:decide (8<D)=false:=decide_eq_false i2;have d3:decide (S<8)=false:=decide_eq_false i3;have d4:decide (4096<S)=true:=decide_eq_true i4;go_in;go_wp2
     go_ret2
     exact I.out C _ R.out _ rfl
   ·have C:W=false:=by
     rw[←H.out];unfold rM;simp[h3]
    have i1:¬D<2:=by omega
    have i2:¬8<D:=by omega
    have i3:S<8:=by omega
    have d1:decide (D<2)=false:=decide_eq_false i1;have d2:decide (8<D)=false:=decide_eq_false i2;have d3:decide (S<8)=true:=decide_eq_true i3;go_in;go_wp2
    go_ret2
    exact I.out C _ R.out _ rfl
  ·have C:W=false:=by
    rw[←H.out];unfold rM;simp[h2]
   have i1:¬D<2:=by omega
   have i2:8<D:=by omega
   have d1:decide (D<2)=false:=decide_eq_false i1;have d2:decide (8<D)=true:=decide_eq_true i2;go_in;go_wp2
   go_ret2
   exact I.out C _ R.out _ rfl
 ·have C:W=false:=by
   rw[←H.out];unfold rM;simp[h1]
  have i1:D<2:=by omega
  have d1:decide (D<2)=true:=decide_eq_true i1;go_in;go_wp2
  go_ret2
  exact I.out C _ R.out _ rfl
end
end Go.Proofs.YtoeinblfcbpcmaaGreatDoor
