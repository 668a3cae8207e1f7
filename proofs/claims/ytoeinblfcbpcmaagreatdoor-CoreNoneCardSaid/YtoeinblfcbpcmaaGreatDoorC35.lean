import Derived.Test.YtoeinblfcbpcmaaGreatDoorC34
import Derived.Handy
namespace Go.Proofs.YtoeinblfcbpcmaaGreatDoor
open Tryz
set_option maxHeartbeats 0
set_option maxRecDepth 100000
set_option linter.unusedVariables false
section
open Go.RowKit Go.Maps Go.ChangeMaps
variable{p:Value×Ub}{es:List (Value×Ub)}{k n B:Nat}{w:World}
theorem yO:∀a b:List UInt8,Op.bytesLess a b=jM a b
 | _,[]=>by
   rename_i a;cases a<;>rfl
 | [],y::b=>rfl
 | x::a,y::b=>by
   unfold Op.bytesLess;rw[yO a b];unfold jM
   conv=>rhs;unfold Lib.compareBytes
   by_cases c:x<y
   ·rw[if_pos c,decide_eq_true c];rfl
   ·rw[if_neg c,decide_eq_false c,Bool.false_or]
    by_cases d:y<x
    ·rw[if_pos d]
     have f:(x == y)=false:=by
      rw[beq_eq_false_iff_ne];intro e;subst e;exact c d
     rw[f];rfl
    ·rw[if_neg d]
     have g:x=y:=UInt8.le_antisymm (UInt8.not_lt.1 d) (UInt8.not_lt.1 c);subst g;rw[beq_self_eq_true,Bool.true_and]
def cY(p:Value×Ub):List Value:=aV p.1 p.2++[.string (fG (aY p.2))]
def eP(es:List (Value×Ub)):List Value:=es.flatMap cY
theorem eZ(h:p.2.root.sum.length=32/\p.2.pool.length=32):(cY p).length=70:=by
 unfold cY;rw[List.length_append,bZ h.1 h.2];rfl
theorem BO(h:gU es):(eP es).length=es.length*70:=qM fun p a=>eZ (h p a)
theorem LG(h:gU es)(b:es[k]?=some p){j:Nat}(a:j<70):(eP es)[k*70+j]?=(cY p)[j]?:=
 nK (fun p c=>eZ (h p c)) b a
theorem DY(a b:List (Value×Ub)):eP (a++b)=eP a++eP b:=by simp[eP]
theorem Je(p:Value×Ub):eP [p]=cY p:=by simp[eP]
theorem gG:prog.underlying 287=some (.struct (prog.fieldsOf 287)):=by kernel_rfl
theorem PC:(prog.info? 287).map (·.size)=some 70:=by kernel_rfl
theorem cQ{l:List Value}(h:l.length=70):(prog.info? 287).map (·.size)=some l.length:=by rw[h];exact PC
theorem uC{v:Value}(e:gU es)(h:Rd w 70 v es.length (eP es))(d:es[k]?=some p) :
 ∃g o b,v=.slice (some ⟨g,o,none⟩) es.length b/\w.rangeAt g (o+k*70) (cY p):=by
 obtain⟨h0,a,b,rfl,q,r,s,i⟩:=h;have m:=(List.getElem?_eq_some_iff.1 d).1;obtain⟨g,o,rfl,l⟩:=i (by rw[BO e];omega);refine⟨g,o,b,rfl,fun j u f=>?_⟩;have c:j<70:=by have:=(List.getElem?_eq_some_iff.1 f).1;rwa [eZ (e p (List.mem_of_getElem? d))] at this
 have:=l (k*70+j) u (by rw[LG e d c];exact f)
 rwa [←Nat.add_assoc] at this
theorem jX{oa:Option Addr}{ca:Nat}(u:Ub):∀x∈cY (.slice oa n ca,u),x.oneCell'=true:=by
 intro x a;rcases List.mem_append.1 a with a|a
 ·exact fV u x a
 ·obtain rfl:x=.string (fG (aY u)):=by simpa using a
  rfl
theorem PD{α:Type}{f:α->List Value}{sz:Nat}(l:List α)(x:α)(i:Nat)(A:i<l.length)(u:∀y∈l,(f y).length=sz)(t:(f x).length=sz)(cur:Array Value)(H:l.length*sz≤cur.size)(E:cur.toList.take (l.length*sz)=l.flatMap f) :
 (spl cur (i*sz) (f x)).toList.take (l.length*sz)=(l.set i x).flatMap f:=by
 have c:∀y∈l.set i x,(f y).length=sz:=fun y F=>by
  rcases List.mem_or_eq_of_mem_set F with h|h
  ·exact u y h
  ·rw[h];exact t
 have G:i*sz+sz≤l.length*sz:=by rw[←Nat.succ_mul];exact Nat.mul_le_mul_right _ A
 apply List.ext_getElem?;intro j;rw[List.getElem?_take]
 by_cases d:j<l.length*sz
 ·rw[if_pos d]
  have h0:0<sz:=by
   rcases Nat.eq_zero_or_pos sz with h|h
   ·subst h;simp at d
   ·exact h
  have e:j=(j / sz)*sz+j % sz:=by rw[Nat.mul_comm];exact(Nat.div_add_mod j sz).symm
  have s:j % sz<sz:=Nat.mod_lt _ h0;have o:j / sz<l.length:=(Nat.div_lt_iff_lt_mul h0).2 d;obtain⟨q,g⟩:=zX9 (j / sz)
  obtain⟨r,m⟩:=zX9 (j % sz)
  rw[g,m] at e;rw[m] at s;rw[g] at o
  have C:(l.set i x)[q]?=some (if i=q then x else l[q]):=by
   rw[List.getElem?_set]
   by_cases h:i=q
   ·subst h;rw[if_pos rfl,if_pos o,if_pos rfl]
   ·rw[if_neg h,if_neg h,List.getElem?_eq_getElem o]
  have z:=nK c C s;rw[Array.getElem?_toList,jR _ _ _ _ (by rw[t];omega),t];rw[e,z]
  by_cases h:i=q
  ·subst h
   rw[if_pos (by omega),if_pos rfl,show i*sz+r-i*sz=r by omega]
  ·have D:¬(i*sz≤q*sz+r/\q*sz+r<i*sz+sz):=by
    intro ⟨a,b⟩;rcases Nat.lt_or_gt_of_ne h with h|h
    ·have:(i+1)*sz≤q*sz:=Nat.mul_le_mul_right _ h
     rw[Nat.succ_mul] at this;omega
    ·have:(q+1)*sz≤i*sz:=Nat.mul_le_mul_right _ h
     rw[Nat.succ_mul] at this;omega
   rw[if_neg D,if_neg h];have v:=nK u (List.getElem?_eq_getElem o) s;rw[←v,←E,List.getElem?_take,if_pos (by rw[←e];exact d),Array.getElem?_toList]
 ·rw[if_neg d]
  symm;rw[List.getElem?_eq_none_iff,qM c,List.length_set];omega
theorem AW{t:World}{g b:Nat}(r:gU es)(h:w.ownsRow B 287 70 (.slice g es.length b) es.length (eP es)){i:Nat}(A:i<es.length)(s:p.2.root.sum.length=32/\p.2.pool.length=32)
 {cur:Array Value}(z:w.heap[g]?=some (.cells cur 287 (0,0))) (d:t.heap[g]?=some (.cells (spl cur (i*70) (cY p)) 287 (0,0))) :
 t.ownsRow B 287 70 (.slice g (es.set i p).length b) (es.set i p).length (eP (es.set i p)):=by
 have e:gU (es.set i p):=fun q C=>by
  rcases List.mem_or_eq_of_mem_set C with h|h
  ·exact r q h
  ·rw[h];exact s
 refine⟨BO e,.inr ?_⟩;rcases h.2 with⟨a,-⟩|⟨E,f,j,a,u,l,m,v,o,x⟩
 ·cases a
 ·injection a with a _ c
  injection a with a
  injection a with a
  subst a;subst c;rw[z] at l;cases l
  refine⟨g,b,_,rfl,u,d,by rw[List.length_set];exact m,v,by rw[cU,o],?_⟩;rw[List.length_set];exact PD es p i A (fun y D=>eZ (r y D)) (eZ s) cur (by rw[o];exact Nat.mul_le_mul_right _ m) x
theorem nL{c:Nat}{a:Option Addr}{l:List Value}(h:w.ownsRow B 287 70 (.slice a n c) n l)(q:0<n):∃g cur,a=some ⟨g,0,none⟩/\w.heap[g]?=some (.cells cur 287 (0,0))/\n*70≤cur.size/\B≤g:=by
 rcases h.2 with⟨b,-⟩|⟨g,d,cur,b,i,j,e,o,f,-⟩
 ·cases b;omega
 ·injection b with b _ m
  refine⟨g,cur,b,j,?_,i⟩;rw[f];exact Nat.mul_le_mul_right 70 e
def Cz(x y:Value×Ub):Int:=if y.2.txg<x.2.txg then -1 else if x.2.txg<y.2.txg then 1 else Lib.compareBytes (aY x.2) (aY y.2)
theorem BP:∀a b:List UInt8,-1≤Lib.compareBytes a b/\Lib.compareBytes a b≤1
 | [],[]=>by decide
 | [],_::_=>by simp[Lib.compareBytes]
 | _::_,[]=>by simp[Lib.compareBytes]
 | x::a,y::b=>by
   have:=BP a b;unfold Lib.compareBytes;split
   ·omega
   ·split
    ·omega
    ·exact this
theorem LH(x y:Value×Ub):decide (Cz x y<0)=aS x y:=by
 unfold Cz aS ltU jM
 by_cases a:y.2.txg<x.2.txg
 ·rw[if_pos a,decide_eq_true a];rfl
 ·rw[if_neg a,decide_eq_false a,Bool.false_or]
  by_cases b:x.2.txg<y.2.txg
  ·rw[if_pos b]
   have:(x.2.txg == y.2.txg)=false:=by rw[beq_eq_false_iff_ne];omega
   rw[this];rfl
  ·rw[if_neg b]
   have:(x.2.txg == y.2.txg)=true:=by rw[beq_iff_eq];omega
   rw[this,Bool.true_and]
def iB(w:World)(j:Int)(e:Ending)(a:World):Prop:=e=.returned (.int .i64 j)/\aA aB w a
theorem FD(w:World)(n:Int):Calls prog 241 #[.int .i64 n] w (bM w false):=by
 go_in;go_wp2;go_ret;exact⟨by simp,aA.refl _ _⟩
theorem FE(w:World)(s:ByteArray):Calls prog 315 #[.string s] w (bM w false):=by
 go_in;go_wp2;go_ret;exact⟨by simp,aA.refl _ _⟩
def nM(a b:Int):Int:=if a<b then -1 else if b<a then 1 else 0
theorem NU(w:World)(a b:Int):Calls prog 207 #[.int .i64 a,.int .i64 b] w (iB w (nM a b)):=by
 go_in;go_wp2_with fail;refine(FD _ a).mono ?_;rintro e o ⟨rfl,g⟩;have d:=O g;clear g;go_wp2_with fail;refine(FD _ b).mono ?_;rintro e j ⟨rfl,g⟩;have d:=O (d.trans g);clear g
 by_cases h:a<b
 ·have c:iB w (nM a b) (.returned (.int .i64 (-1))) j:=⟨by unfold nM;rw[if_pos h],d.out⟩
  have f:=O c;clear c;go_wp2;go_ret;exact f.out
 ·have l:decide (a<b)=false:=decide_eq_false h
  by_cases i:b<a
  ·have c:iB w (nM a b) (.returned (.int .i64 1)) j:=⟨by unfold nM;rw[if_neg h,if_pos i],d.out⟩
   have f:=O c;clear c;go_wp2;go_ret;exact f.out
  ·have m:decide (b<a)=false:=decide_eq_false i
   have c:iB w (nM a b) (.returned (.int .i64 0)) j:=⟨by unfold nM;rw[if_neg h,if_neg i],d.out⟩
   have f:=O c;clear c;go_wp2;go_ret;exact f.out
theorem LI(a b:List UInt8):Op.bytesLess (fG a).toList (fG b).toList=jM a b:=by
 have e:∀l:List UInt8,(fG l).toList=l:=fun l=>by unfold fG;rw[ByteArray.toList_mk]
 rw[e,e,yO]
theorem NV(w:World)(a ys:List UInt8):Calls prog 314 #[.string (fG a),.string (fG ys)] w (iB w (Lib.compareBytes a ys)):=by
 have b:=BP a ys;have f:=LI a ys;have c:=yZ a ys;obtain⟨t,m⟩:=zX9 (fG a)
 obtain⟨u,o⟩:=zX9 (fG ys)
 rw[m,o] at f c ⊢;clear m o;go_in;go_wp2_with fail;refine(FE _ t).mono ?_;rintro e v ⟨rfl,l⟩;have h:=O l;clear l;go_wp2_with fail;refine(FE _ u).mono ?_;rintro e q ⟨rfl,l⟩;have h:=O (h.trans l);clear l
 by_cases j:Lib.compareBytes a ys<0
 ·rw[show jM a ys=true from decide_eq_true j] at f
  have d:iB w (Lib.compareBytes a ys) (.returned (.int .i64 (-1))) q:=⟨by rw[show Lib.compareBytes a ys=-1 by omega],h.out⟩
  have i:=O d;clear d c b j;go_wp2;go_ret;exact i.out
 ·rw[show jM a ys=false from decide_eq_false j] at f
  by_cases g:a=ys
  ·rw[decide_eq_true g] at c
   have d:iB w (Lib.compareBytes a ys) (.returned (.int .i64 0)) q:=⟨by rw[g,yI],h.out⟩
   have i:=O d;clear d b j g;go_wp2;go_ret;exact i.out
  ·rw[decide_eq_false g] at c
   have r:Lib.compareBytes a ys≠0:=fun e=>g (AV e)
   have d:iB w (Lib.compareBytes a ys) (.returned (.int .i64 1)) q:=⟨by rw[show Lib.compareBytes a ys=1 by omega],h.out⟩
   have i:=O d;clear d b r j g;go_wp2;go_ret;exact i.out
theorem PE(w:World)(g:Nat)(a b:Int)(e:w.heap[g]?=some (.cells #[.int .i64 a,.int .i64 b] 3 (0,0))):Calls prog 245 #[.slice g 2 2] w (iB w (if a=0 then b else a)):=by
 have h0:=aC (i:=0) (v:=.int .i64 a) e rfl;have j:=aC (i:=1) (v:=.int .i64 b) e rfl;clear e
 by_cases d:a=0
 ·subst d
  rw[if_pos rfl]
  by_cases c:b=0
  ·subst c
   go_in;go_wp2
   go_rounds 3
   go_ret;exact⟨rfl,aA.refl _ _⟩
  ·have h:(b == 0)=false:=by simpa using c
   go_in;go_wp2
   go_rounds 3
   go_ret;exact⟨rfl,aA.refl _ _⟩
 ·rw[if_neg d]
  have f:(a == 0)=false:=by simpa using d
  go_in;go_wp2
  go_rounds 3
  go_ret;exact⟨rfl,aA.refl _ _⟩
theorem Jf(w:World)(va z:Value)(x y:Ub)(Z:x.root.sum.length=32/\x.pool.length=32)(hy:y.root.sum.length=32/\y.pool.length=32):Calls prog 313 #[.agg (cY (va,x)).toArray,.agg (cY (z,y)).toArray] w (iB w (Cz (va,x) (z,y))):=by
 obtain⟨w1,qe,k1,j,s1⟩:=aM w (cY (va,x)).toArray 287;obtain⟨A,qf,k2,u,s2⟩:=aM w1 (cY (z,y)).toArray 287;have j:=k2.blk j id;rw[s1] at u;have HK:=O (k1.trans k2);have F:=aC (i:=0) (v:=.int .i64 x.txg) j rfl;have H:=aC (i:=0) (v:=.int .i64 y.txg) u rfl;have G:=aC (i:=69) (v:=.string (fG (aY x))) j (by rw[List.getElem?_toArray];unfold cY;rw[List.getElem?_append_right (by rw[bZ Z.1 Z.2];omega),bZ Z.1 Z.2];rfl);have m:=aC (i:=69) (v:=.string (fG (aY y))) u (by rw[List.getElem?_toArray];unfold cY;rw[List.getElem?_append_right (by rw[bZ hy.1 hy.2];omega),bZ hy.1 hy.2];rfl);obtain⟨b,hb⟩:=zX9 w.heap.size
 have qg:b+1<A.heap.size:=by omega
 have qc:A.frozen? ⟨b,0,none⟩=false:=by rw[←hb];exact bP j 0
 rw[hb] at F H G m
 have HP:Hid (∀d,aA aB w d->iB w (Cz (va,x) (z,y)) (.returned (.int .i64 (if nM y.txg x.txg=0 then Lib.compareBytes (aY x) (aY y) else nM y.txg x.txg))) d):=O (fun d k=>⟨by
  unfold Cz nM
  by_cases X:y.txg<x.txg
  ·rw[if_pos X,if_pos X];rfl
  ·rw[if_neg X,if_neg X]
   by_cases Y:x.txg<y.txg
   ·rw[if_pos Y,if_pos Y];rfl
   ·rw[if_neg Y,if_neg Y,if_pos rfl],k⟩)
 obtain⟨M,J⟩:=zX9 x.txg
 obtain⟨N,L⟩:=zX9 y.txg
 obtain⟨W,I⟩:=zX9 (aY x)
 obtain⟨ys,K⟩:=zX9 (aY y)
 rw[J,L,I,K] at HP;rw[J] at F;rw[L] at H;rw[I] at G;rw[K] at m;clear k1 k2 j u s2 J L I K;go_in;go_wp2_with fail;clear qe qf s1 hb qc;obtain⟨S,q⟩:∃S:World->Prop,S=fun d=>aA aB A d:=⟨_,rfl⟩
 have a:=O (show ∀d,S d->aA aB A d from fun d h=>by rw[q] at h;exact h);have l:=O (show ∀d,aA aB A d->S d from fun d h=>by rw[q];exact h);have g:S A.drew:=by rw[q];exact(aA.refl _ _).drew
 clear q;refine wp_region_held (S:=S) (by kernel_rfl) ?_;change wpAnyH _ _ _ _ _ _ _ _ A.drew;generalize A.drew=wb at g ⊢;refine tkb 0 (.pointer (some ⟨(b+1),0,none⟩)) rfl g ?_;simp only[Act.put,List.setIfInBounds_toArray,List.set_cons_zero,List.set_cons_succ,List.getElem_toArray,List.getElem_cons_zero];refine tnb 1 (.pointer (some ⟨(b+1),0,none⟩)) rfl g ?_;refine tnd 2 (.int .i64 N) rfl (.inl ⟨by rfl,fun d f=>by have c:=(a d f).cell H id;go_simp⟩) g ?_;refine tnb 3 (.pointer (some ⟨b,0,none⟩)) rfl g ?_;refine tnb 4 (.pointer (some ⟨b,0,none⟩)) rfl g ?_;refine tnd 5 (.int .i64 M) rfl (.inl ⟨by rfl,fun d f=>by have c:=(a d f).cell F id;go_simp⟩) g ?_;refine tnb 7 (.pointer (some ⟨b,69,none⟩)) rfl g ?_;refine tnd 8 (.string (fG W)) rfl (.inl ⟨by rfl,fun d f=>by have c:=(a d f).cell G id;go_simp⟩) g ?_;refine tnb 9 (.pointer (some ⟨(b+1),69,none⟩)) rfl g ?_;refine tnd 10 (.string (fG ys)) rfl (.inl ⟨by rfl,fun d f=>by have c:=(a d f).cell m id;go_simp⟩) g ?_;refine wA9 6 ?_;go_wp2_with fail;refine(NU wb N M).mono ?_;rintro e wc ⟨rfl,o⟩;have C:=l.out _ ((a _ g).trans o);clear g o;go_wp2_with fail;refine⟨C,?_⟩;refine wA9 11 ?_;go_wp2_with fail;refine(NV wc W ys).mono ?_;rintro e wd ⟨rfl,o⟩;have D:=l.out _ ((a _ C).trans o);clear C o;go_wp2_with fail;refine⟨D,?_⟩;refine wA9 12 ?_;obtain⟨we,V,o,R,qd⟩:=aM wd #[.int .i64 (nM N M),.int .i64 (Lib.compareBytes W ys)] 3;have P:=O R;clear R qd;go_wp2_with fail
 try rw[V]
 clear V;obtain⟨b9,T⟩:=zX9 wd.heap.size
 rw[T] at P ⊢;clear T;have E:=l.out _ ((a _ D).trans o);clear D o;refine⟨E,?_⟩;obtain⟨rr,U⟩:=zX9 ((if nM N M=0 then Lib.compareBytes W ys else nM N M))
 have Q:=O U;clear U;refine wA9 13 ?_;go_wp2_with fail;refine((show Calls _ _ _ _ (iB _ rr) from by rw[←Q.out];exact PE we b9 (nM N M) (Lib.compareBytes W ys) P.out)).mono ?_;rintro e wf ⟨rfl,o⟩;have s:=l.out _ ((a _ E).trans o);clear E o;go_wp2_with fail;refine⟨s,?_⟩;refine tna 14 (.int .i64 rr) rfl s ?_;refine wpAnyH_done (by kernel_rfl) ?_ _;have qa:=O (a _ s);clear s a l;have HK:=O (HK.trans qa.out);go_wp2;go_ret;have hp:=HP.out _ HK.out;rw[Q.out] at hp;exact hp
theorem sO(w:World)(v:Value)(es:List (Value×Ub))(W:Rd w 70 v es.length (eP es))(K:gU es)(i k:Nat)(iv kv:Int)(U:iv=(i:Int))(V:kv=(k:Int))(Y:i<es.length)(J:k<es.length) :
 Calls prog 311 #[v,.int .i64 iv,.int .i64 kv] w (bM w (aS (gD es i) (gD es k))):=by
 subst U;subst V;have m:=nF Y;have q:=nF J;obtain⟨⟨N,M⟩,hx⟩:∃x,gD es i=x:=⟨_,rfl⟩
 obtain⟨⟨Q,P⟩,hy⟩:∃y,gD es k=y:=⟨_,rfl⟩
 rw[hx] at m ⊢;rw[hy] at q ⊢;have D:=K _ (List.mem_of_getElem? m);have E:=K _ (List.mem_of_getElem? q);obtain⟨g,o,I,hv,f⟩:=uC K W m;obtain⟨g2,o2,X,L,j⟩:=uC K W q;subst hv;have e1:g=g2/\o=o2:=by cases L;exact⟨rfl,rfl⟩
 obtain⟨rfl,rfl⟩:=e1;have u:=eZ D;have z:=eZ E;have C:=O (fun a=>Jf a N Q M P D E);obtain⟨n,hn⟩:=zX9 es.length
 rw[hn] at Y J ⊢;obtain⟨lx,s⟩:=zX9 (cY (N,M))
 obtain⟨ly,t⟩:=zX9 (cY (Q,P))
 rw[s] at C u f;rw[t] at C z j;obtain⟨r,A⟩:=zX9 (Cz (N,M) (Q,P))
 have HL:Hid (decide (r<0)=aS (N,M) (Q,P)):=O (by rw[←A];exact LH _ _);rw[A] at C;have F:=O f;have G:=O j;have R:=O (aA.refl aB w);have qd:(i:Int)<(n:Int):=by omega
 have qc:(0:Int)≤(i:Int):=by omega
 have qa:(k:Int)<(n:Int):=by omega
 have Z:(0:Int)≤(k:Int):=by omega
 clear W K f j L m q hx hy s t D E hn A;go_in;go_wp2_with fail;obtain⟨S,l⟩:∃S:World->Prop,S=fun a=>aA aB w a:=⟨_,rfl⟩
 have b:=O (show ∀a,S a->aA aB w a from fun a h=>by rw[l] at h;exact h);have H:=O (show ∀a,aA aB w a->S a from fun a h=>by rw[l];exact h);have c:S w.drew:=by rw[l];exact(aA.refl _ _).drew
 clear l;refine wp_region_held (S:=S) (by kernel_rfl) ?_;change wpAnyH _ _ _ _ _ _ _ _ w.drew;generalize w.drew=wb at c ⊢;refine tka 0 (.slice (some ⟨g,o,none⟩) n I) rfl c ?_;simp only[Act.put,List.setIfInBounds_toArray,List.set_cons_zero,List.set_cons_succ,List.getElem_toArray,List.getElem_cons_zero];refine tna 1 (.int .i64 (i:Int)) rfl c ?_;refine tnb 2 (.pointer (some ⟨g,o+i*70,none⟩)) rfl c ?_;refine tnd 3 (.agg (lx).toArray) rfl (yieldsIf_load_mid (by rfl) 287 (.tmp 9) rfl (g) (o+i*70) rfl (lx) _ (fun a h=>(b a h).rangeAt F.out) gG rfl (by first|exact cQ u|exact cQ z)) c ?_;refine tna 4 (.slice (some ⟨g,o,none⟩) n I) rfl c ?_;refine tna 5 (.int .i64 (k:Int)) rfl c ?_;refine tnb 6 (.pointer (some ⟨g,o+k*70,none⟩)) rfl c ?_;refine tnd 7 (.agg (ly).toArray) rfl (yieldsIf_load_mid (by rfl) 287 (.tmp 13) rfl (g) (o+k*70) rfl (ly) _ (fun a h=>(b a h).rangeAt G.out) gG rfl (by first|exact cQ u|exact cQ z)) c ?_;refine wA9 8 ?_;go_wp2_with fail;refine(C.out wb).mono ?_;rintro e wc ⟨rfl,J⟩;have d:=H.out _ ((b _ c).trans J);clear c J;go_wp2_with fail;refine⟨d,?_⟩;refine tnb 9 (.bool (decide (r<0))) rfl d ?_;refine tna 10 (.bool (decide (r<0))) rfl d ?_;refine wpAnyH_done (by kernel_rfl) ?_ _;have T:=O (b _ d);clear d b H;have R:=O (R.trans T.out);go_wp2;go_ret;exact⟨by rw[←HL.out];rfl,R.out⟩
theorem AX(w:World)(B g o:Nat)(es:List (Value×Ub))(ho:w.ownsRow B 287 70 (.slice g es.length o) es.length (eP es))(X:gU es)(H:∀e∈es,∃a n c,e.1=.slice a n c)(i k:Nat)(iv kv:Int)(ql:iv=(i:Int))(qm:kv=(k:Int))(hi:i<es.length)(r:k<es.length) :
 Calls prog 312 #[.slice g es.length o,.int .i64 iv,.int .i64 kv] w fun e C=>e=.returned (.tuple #[])/\C.ownsRow B 287 70 (.slice g es.length o) es.length (eP (eD es i k))/\aA (fun j=>j=g) w C:=by
 subst ql;subst qm;have I:=nF hi;have J:=nF r;obtain⟨x,hx⟩:=zX9 (gD es i)
 obtain⟨y,hy⟩:=zX9 (gD es k)
 rw[hx] at I;rw[hy] at J;have Y:=X _ (List.mem_of_getElem? I);have L:=X _ (List.mem_of_getElem? J);have hr:=Rd.of_owns ho;obtain⟨g1,o1,qp,hv,E⟩:=uC X hr I;obtain⟨g2,o2,qq,qk,F⟩:=uC X hr J;have e1:g=g1/\0=o1:=by cases hv;exact⟨rfl,rfl⟩
 obtain⟨rfl,rfl⟩:=e1;have e1:g=g2/\0=o2:=by cases qk;exact⟨rfl,rfl⟩
 obtain⟨rfl,rfl⟩:=e1;obtain⟨g3,cur,qi,G,qo,-⟩:=nL ho (by omega);have e1:g=g3:=by cases qi;rfl
 subst e1;have v:=eZ Y;have z:=eZ L
 have V:∀u∈cY x,u.oneCell'=true:=by
  obtain⟨a,n,c,h⟩:=H x (List.mem_of_getElem? I);obtain⟨xv,xu⟩:=x;subst h;exact jX xu
 have W:∀u∈cY y,u.oneCell'=true:=by
  obtain⟨a,n,c,h⟩:=H y (List.mem_of_getElem? J);obtain⟨yv,yu⟩:=y;subst h;exact jX yu
 have HS:Hid (∀wa wb:World,wa.heap[g]?=some (.cells (spl cur (i*70) (cY y)) 287 (0,0))->wb.heap[g]?=some (.cells (spl (spl cur (i*70) (cY y)) (k*70) (cY x)) 287 (0,0)) ->
  wb.ownsRow B 287 70 (.slice g es.length o) es.length (eP (eD es i k))):=O (fun wa wb ha hb=>by
  have h1:=AW X ho hi L G ha
  have qn:gU (es.set i y):=fun q hq=>by
   rcases List.mem_or_eq_of_mem_set hq with h|h
   ·exact X q h
   ·rw[h];exact L
  have h2:=AW qn h1 (by rw[List.length_set];exact r) Y ha hb;rw[List.length_set,List.length_set] at h2;unfold eD;rw[hx,hy];exact h2)
 have qg:i*70+70≤cur.size:=by have:(i+1)*70≤es.length*70:=Nat.mul_le_mul_right _ hi;omega
 have qh:k*70+70≤cur.size:=by have:(k+1)*70≤es.length*70:=Nat.mul_le_mul_right _ r;omega
 obtain⟨n,hn⟩:=zX9 es.length
 rw[hn] at hi r HS ⊢;obtain⟨lx,M⟩:=zX9 (cY x)
 obtain⟨Z,N⟩:=zX9 (cY y)
 rw[M] at v E V HS;rw[N] at z F W HS;have qd:=O E;have qe:=O F;have HK:=O (aA.refl aB w);have qf:=O G;have qa:=O V;have qc:=O W;obtain⟨sw,qj⟩:=zX9 (eD es i k)
 rw[qj] at HS ⊢;have qv:(i:Int)<(n:Int):=by omega
 have qu:(0:Int)≤(i:Int):=by omega
 have qt:(k:Int)<(n:Int):=by omega
 have qr:(0:Int)≤(k:Int):=by omega
 clear hr X E F hv qk I J hx hy M N Y L hn G H V W ho qo qi qj;go_in;go_wp2_with fail;obtain⟨S,K⟩:∃S:World->Prop,S=fun C=>aA (fun j=>j=g) w C:=⟨_,rfl⟩
 have m:=O (show ∀C,S C->aA (fun j=>j=g) w C from fun C h=>by rw[K] at h;exact h);have A:=O (show ∀C,aA (fun j=>j=g) w C->S C from fun C h=>by rw[K];exact h);have d:S w.drew:=by rw[K];exact(aA.refl _ _).drew
 clear K;refine wp_region_held (S:=S) (by kernel_rfl) ?_;change wpAnyH _ _ _ _ _ _ _ _ w.drew;have T:w.drew.heap[g]?=some (.cells cur 287 (0,0)):=qf.out;have P:w.drew.rangeAt g (i*70) lx:=by have h:=qd.out;rw[Nat.zero_add] at h;exact h
 have R:w.drew.rangeAt g (k*70) Z:=by have h:=qe.out;rw[Nat.zero_add] at h;exact h
 generalize w.drew=wb at d T P R ⊢;refine tka 0 (.slice g n o) rfl d ?_;simp only[Act.put,List.setIfInBounds_toArray,List.set_cons_zero,List.set_cons_succ,List.getElem_toArray,List.getElem_cons_zero];refine tna 1 (.int .i64 (i:Int)) rfl d ?_;refine tna 2 (.slice g n o) rfl d ?_;refine tna 3 (.int .i64 (k:Int)) rfl d ?_;refine tna 4 (.slice g n o) rfl d ?_;refine tna 5 (.int .i64 (k:Int)) rfl d ?_;refine tnb 6 (.pointer (some ⟨g,k*70,none⟩)) rfl d ?_;refine tna 8 (.slice g n o) rfl d ?_;refine tna 9 (.int .i64 (i:Int)) rfl d ?_;refine tnb 10 (.pointer (some ⟨g,i*70,none⟩)) rfl d ?_;refine kT (k:=7) (l:=11) rfl rfl (by kernel_rfl) ?_ ?_
 ·refine wpList_load_mid (by rfl) 287 (.tmp 12) (by rfl) g (k*70) (by rfl) Z _ R gG rfl (cQ z) ?_
  go_wp2_with fail;refine⟨d,?_⟩;refine wA9 11 ?_;refine wpList_load_mid (by rfl) 287 (.tmp 16) (by rfl) g (i*70) (by rfl) lx _ P gG rfl (cQ v) ?_;go_wp2_with fail;refine⟨d,?_⟩;refine tnb 12 (.pointer (some ⟨g,i*70,none⟩)) rfl d ?_;refine wA9 13 ?_;refine aE (by rfl) 287 (.tmp 18) (.tmp 13) (by rfl) g (i*70) Z (by rfl) (by rfl) (cur) 287 T (by rw[z];exact qg) (cQ z) qc.out ?_;intro wc b r;have D:=O b;clear b;have f:=A.out _ ((m _ d).trans r);clear d r;go_wp2_with fail;refine⟨f,?_⟩;refine tnb 14 (.pointer (some ⟨g,k*70,none⟩)) rfl f ?_;refine wA9 15 ?_;refine aE (by rfl) 287 (.tmp 19) (.tmp 17) (by rfl) g (k*70) lx (by rfl) (by rfl) (spl cur (i*70) Z) 287 D.out (by rw[v,cU];exact qh) (cQ v) qa.out ?_;intro wd b r;have Q:=O b;clear b;have t:=A.out _ ((m _ f).trans r);clear f r;go_wp2_with fail;refine⟨t,?_⟩;refine wpAnyH_done (by kernel_rfl) ?_ _;have U:=O (m _ t);clear t m A;go_wp2_with fail
  go_end0
  exact⟨rfl,HS _ _ D.out Q.out,U.out⟩
 ·refine wpList_load_mid (by rfl) 287 (.tmp 16) (by rfl) g (i*70) (by rfl) lx _ P gG rfl (cQ v) ?_
  go_wp2_with fail;refine⟨d,?_⟩;refine wA9 7 ?_;refine wpList_load_mid (by rfl) 287 (.tmp 12) (by rfl) g (k*70) (by rfl) Z _ R gG rfl (cQ z) ?_;go_wp2_with fail;refine⟨d,?_⟩;refine tnb 12 (.pointer (some ⟨g,i*70,none⟩)) rfl d ?_;refine wA9 13 ?_;refine aE (by rfl) 287 (.tmp 18) (.tmp 13) (by rfl) g (i*70) Z (by rfl) (by rfl) (cur) 287 T (by rw[z];exact qg) (cQ z) qc.out ?_;intro wc b r;have D:=O b;clear b;have f:=A.out _ ((m _ d).trans r);clear d r;go_wp2_with fail;refine⟨f,?_⟩;refine tnb 14 (.pointer (some ⟨g,k*70,none⟩)) rfl f ?_;refine wA9 15 ?_;refine aE (by rfl) 287 (.tmp 19) (.tmp 17) (by rfl) g (k*70) lx (by rfl) (by rfl) (spl cur (i*70) Z) 287 D.out (by rw[v,cU];exact qh) (cQ v) qa.out ?_;intro wd b r;have Q:=O b;clear b;have t:=A.out _ ((m _ f).trans r);clear f r;go_wp2_with fail;refine⟨t,?_⟩;refine wpAnyH_done (by kernel_rfl) ?_ _;have U:=O (m _ t);clear t m A;go_wp2_with fail
  go_end0
  exact⟨rfl,HS _ _ D.out Q.out,U.out⟩
end
end Go.Proofs.YtoeinblfcbpcmaaGreatDoor
