import Derived.Test.YtoeinblfcbpcmaaGreatR31
namespace Go.Proofs.YtoeinblfcbpcmaaGreat
open Tryz
set_option maxHeartbeats 0
set_option maxRecDepth 100000
set_option linter.unusedVariables false
section
open Go.RowKit Go.Maps Go.ChangeMaps
variable{k s l n g cap b c b11 b12 b14:Nat}{w w' w1 w2:World}{v u kv ov v' cv:Value}{xs pc:List Value}{a:Int}{p q:Pt}{t:TypeId}{fr:Nat×Nat}{S T:Kor}{B:Nat->Prop}{tot ns:List Nat}{vs us:Nat->Value}{qs:List (Value×Pt)}
theorem zN{α:Type}{f:α->List Value}:∀{l:List α},(∀y∈l,(f y).length=k)->∀(i:Nat){y:α},l[i]?=some y->∀j,j<k->(l.flatMap f)[i*k+j]?=(f y)[j]?
 | [],_,_,_,d,_,_=>by simp at d
 | x::l,h,0,y,d,j,m=>by
   have e:x=y:=by simpa using d
   subst e;rw[List.flatMap_cons,Nat.zero_mul,Nat.zero_add,List.getElem?_append_left (by rw[h x (List.mem_cons_self ..)];exact m)]
 | x::l,h,i+1,y,d,j,m=>by
   rw[List.flatMap_cons,List.getElem?_append_right (by rw[h x (List.mem_cons_self ..),Nat.succ_mul];omega),h x (List.mem_cons_self ..),show (i+1)*k+j-k=i*k+j by rw[Nat.succ_mul];omega];exact zN (fun y d=>h y (List.mem_cons_of_mem _ d)) i (by simpa using d) j m
theorem yN{α:Type}{f:α->List Value}{l:List α}(m:∀y∈l,(f y).length=s)(E:0<s)(h:Rd w s v l.length (l.flatMap f)){x:α}(i:l[k]?=some x) :
 ∃g o cap,v=.slice (some ⟨g,o,none⟩) l.length cap/\w.rangeAt g (o+k*s) (f x):=by
 obtain⟨h0,a,cap,rfl,F,G,H,z⟩:=h;have D:=(List.getElem?_eq_some_iff.1 i).1;have d:0<l.length*s:=Nat.mul_pos (by omega) E;obtain⟨g,o,rfl,C⟩:=z (by rw[h0];exact d);refine⟨g,o,cap,rfl,fun j u r=>?_⟩;have e:j<s:=by have:=(List.getElem?_eq_some_iff.1 r).1;rwa [m x (List.mem_of_getElem? i)] at this
 have A:=zN (f:=f) (k:=s) (l:=l) m k i j e;have:=C (k*s+j) u (A.trans r)
 rwa [←Nat.add_assoc] at this
theorem Fv{base:Nat}{e:TypeId}{g:Option Addr}{ys:List Value}(h:w.ownsRow base e s (.slice g (n+1) cap) (n+1) (xs++ys))(i:xs.length=n*s):w.ownsRow base e s (.slice g n cap) n xs:=by
 rcases h.2 with⟨d,m⟩|⟨o,j,cur,d,m,r,z,x,h6,h7⟩
 ·omega
 ·injection d with d f y
  subst d y;refine⟨i,.inr ⟨o,cap,cur,rfl,m,r,by omega,x,h6,?_⟩⟩;have f:=congrArg (List.take (n*s)) h7;rw[List.take_take,←i,List.take_left,i] at f;rw[show min (n*s) ((n+1)*s)=n*s from Nat.min_eq_left (Nat.mul_le_mul_right s (Nat.le_succ n))] at f;exact f
theorem rK{α:Type}(R:α->Prop)(wt:α->Nat):∀(n:Nat),(∃a,R a/\wt a≤n)->∃a,R a/\∀b,R b->wt a≤wt b
 | 0,⟨a,d,h⟩=>⟨a,d,fun b _=>by omega⟩
 | n+1,⟨a,d,h⟩=>by
   by_cases c:∃b,R b/\wt b≤n
   ·exact rK R wt n c
   ·exact⟨a,d,fun b f=>by
     have:¬wt b≤n:=fun e=>c ⟨b,f,e⟩
     omega⟩
open Classical in
noncomputable def kK{α:Type}(R:α->Prop)(wt:α->Nat):Nat:=if h:∃a,R a/\∀b,R b->wt a≤wt b then wt h.choose else 0
theorem Lv{α:Type}{R:α->Prop}{wt:α->Nat}{a:α}(d:R a):∃b,R b/\kK R wt=wt b:=by
 have h:∃a,R a/\∀b,R b->wt a≤wt b:=rK R wt (wt a) ⟨a,d,Nat.le_refl _⟩;refine⟨h.choose,h.choose_spec.1,?_⟩;unfold kK;rw[dif_pos h]
theorem xY{α:Type}{R:α->Prop}{wt:α->Nat}{a:α}(d:R a):kK R wt≤wt a:=by
 have h:∃a,R a/\∀b,R b->wt a≤wt b:=rK R wt (wt a) ⟨a,d,Nat.le_refl _⟩;unfold kK;rw[dif_pos h];exact h.choose_spec.2 a d
structure Ent where
 s:Tr
 t:Tr
 sv:Value
 tv:Value
 l:Nat
 a:Nat
def gB(v u:Value)(p q:Pt)(l a:Int):List Value:=aE v p++(aE u q++[.int .i64 l,.int .i64 a])
def jF(e:Ent):List Value:=gB e.sv e.tv e.s.ptr e.t.ptr (e.l:Int) (e.a:Int)
theorem vT{l:Int}(d:p.sum.length=32)(e:q.sum.length=32):(gB v u p q l a).length=72:=by
 unfold gB;rw[List.length_append,List.length_append,aF d,aF e];rfl
theorem Fw{l:Int}(e:PtV w v p)(f:PtV w u q):∀x∈gB v u p q l a,x.oneCell'=true:=by
 intro x d;unfold gB at d;rcases List.mem_append.1 d with d|d
 ·exact aL e x d
 ·rcases List.mem_append.1 d with d|d
  ·exact aL f x d
  ·simp only[List.mem_cons,List.not_mem_nil,or_false] at d
   rcases d with rfl|rfl<;>rfl
theorem Lx{l:Int}(h:w.heap[b]?=some (.cells (gB v u p q l a).toArray t fr)):w.rangeAt b 0 (aE v p):=fun j x d =>
 aC h (by
  rw[List.getElem?_toArray,Nat.zero_add];unfold gB;rw[List.getElem?_append_left (List.getElem?_eq_some_iff.1 d).1];exact d)
theorem Ly{l:Int}(d:p.sum.length=32)(h:w.heap[b]?=some (.cells (gB v u p q l a).toArray t fr)):w.rangeAt b 35 (aE u q):=fun j x e =>
 aC h (by
  rw[List.getElem?_toArray];unfold gB;rw[List.getElem?_append_right (by rw[aF d];omega),aF d,show 35+j-35=j by omega,List.getElem?_append_left (List.getElem?_eq_some_iff.1 e).1];exact e)
theorem tS{l:Int}(d:p.sum.length=32)(e:q.sum.length=32)(h:w.heap[b]?=some (.cells (gB v u p q l a).toArray t fr)):w.cell? ⟨b,70,none⟩=some (.int .i64 l):=
 aC h (by
  rw[List.getElem?_toArray];unfold gB;rw[List.getElem?_append_right (by rw[aF d];omega),aF d,List.getElem?_append_right (by rw[aF e];omega),aF e];rfl)
theorem Lz{l:Int}(d:p.sum.length=32)(e:q.sum.length=32)(h:w.heap[b]?=some (.cells (gB v u p q l a).toArray t fr)):w.cell? ⟨b,71,none⟩=some (.int .i64 a):=
 aC h (by
  rw[List.getElem?_toArray];unfold gB;rw[List.getElem?_append_right (by rw[aF d];omega),aF d,List.getElem?_append_right (by rw[aF e];omega),aF e];rfl)
def mB(e:Ent):List Nat:=unl e.l e.s e.t e.a
def oB:Nat->Nat
 | 0=>1
 | l+1=>4*oB l+1
def wtE(d:List Ent):Nat:=(d.map fun e=>oB e.l).sum
theorem Ax(l:Nat):1≤oB l:=by cases l<;>(unfold oB;omega)
theorem qL(d fs:List Ent):wtE (d++fs)=wtE d+wtE fs:=by unfold wtE;rw[List.map_append,List.sum_append]
theorem Cf:∀(d:List Ent),d.length≤wtE d
 | []=>Nat.zero_le _
 | e::d=>by
   have f:=Cf d;have h:=Ax e.l;unfold wtE at f ⊢;rw[List.map_cons,List.sum_cons,List.length_cons];omega
structure lO(S:Kor)(B:Nat->Prop)(w:World)(kv ov:Value)(e:Ent):Prop where
 s:Tr.Ok S e.l e.s
 t:Tr.Ok S e.l e.t
 l3:e.l≤3
 a64:e.a+4 ^ e.l≤64
 sp:aU w B e.sv e.s.ptr
 tp:aU w B e.tv e.t.ptr
 off:∀i,e.sv.ownBlock=some i\/e.tv.ownBlock=some i->kv.ownBlock≠some i/\ov.ownBlock≠some i
theorem lO.len{e:Ent}(h:lO S B w kv ov e):(jF e).length=72:=vT h.sp.pt.sum h.tp.pt.sum
theorem lO.keep0{e:Ent}(h:lO S B w kv ov e)(k:aA aB w w'):lO S B w' kv ov e:=⟨h.s,h.t,h.l3,h.a64,h.sp.keep0 k,h.tp.keep0 k,h.off⟩
theorem lO.turn{T:Nat->Prop}{f j:Value}{e:Ent}(h:lO S B w kv ov e)(k:aA T w w')(m:∀i,T i->kv.ownBlock=some i\/ov.ownBlock=some i)(o:∀i,f.ownBlock=some i->kv.ownBlock=some i\/w.heap.size≤i)(r:∀i,j.ownBlock=some i->ov.ownBlock=some i\/w.heap.size≤i):lO S B w' f j e:=by
 have x:∀i,e.sv.ownBlock=some i->¬T i:=fun i d e=>(m i e).elim (h.off i (.inl d)).1 (h.off i (.inl d)).2
 have y:∀i,e.tv.ownBlock=some i->¬T i:=fun i d e=>(m i e).elim (h.off i (.inr d)).1 (h.off i (.inr d)).2
 have lt:∀i,e.sv.ownBlock=some i\/e.tv.ownBlock=some i->i<w.heap.size:=fun i d=>d.elim (fun d=>(h.sp.off i d).2.lt) fun d=>(h.tp.off i d).2.lt
 refine⟨h.s,h.t,h.l3,h.a64,h.sp.keepT k x,h.tp.keepT k y,fun i d=>⟨fun e=>?_,fun e=>?_⟩⟩
 ·exact(o i e).elim (h.off i d).1 fun e=>by have:=lt i d;omega
 ·exact(r i e).elim (h.off i d).2 fun e=>by have:=lt i d;omega
structure UnI(w:World)(c:Nat)(S:Kor)(B:Nat->Prop)(tot:List Nat)(wr:World)(kv ov:Value)(es:List Ent)(ns:List Nat):Prop where
 keep:aA aB w wr
 ki:KI wr c S B
 stk:wr.ownsRow w.heap.size 85 72 kv es.length (es.flatMap jF)
 out:wr.ownsRow w.heap.size 3 1 ov ns.length (jR ns)
 ap:∀i,kv.ownBlock=some i->ov.ownBlock≠some i
 ents:∀e∈es,lO S B wr kv ov e
 tot:ns++es.reverse.flatMap mB=tot
 wt:wtE es≤85
 bl:∀i,B i->i<w.heap.size
theorem tU:∀{l:Nat}{s t:Tr}{a:Nat},(unl l s t a).length≤4 ^ l
 | 0,s,t,a=>by rw[nZ];split<;>simp
 | l+1,s,t,a=>by
   rw[iK];split
   ·simp
   ·have h0:=tU (l:=l) (s:=s.kid 0) (t:=t.kid 0) (a:=a+0*4 ^ l);have d:=tU (l:=l) (s:=s.kid 1) (t:=t.kid 1) (a:=a+1*4 ^ l)
    have e:=tU (l:=l) (s:=s.kid 2) (t:=t.kid 2) (a:=a+2*4 ^ l);have f:=tU (l:=l) (s:=s.kid 3) (t:=t.kid 3) (a:=a+3*4 ^ l);rw[show List.range 4=[0,1,2,3] from rfl];simp only[List.flatMap_cons,List.flatMap_nil,List.append_nil,List.length_append];rw[Nat.pow_succ];omega
def Fx(e:Ent)(l:Nat)(vs us:Nat->Value)(i:Nat):Ent:=⟨e.s.kid i,e.t.kid i,vs i,us i,l,e.a+i*4 ^ l⟩
def gY(e:Ent)(l:Nat)(vs us:Nat->Value)(k:Nat):List Ent:=(List.range k).map fun j=>Fx e l vs us (3-j)
theorem LA(e:Ent)(l:Nat)(vs us:Nat->Value)(k:Nat):(gY e l vs us k).length=k:=by unfold gY;rw[List.length_map,List.length_range]
theorem By(e:Ent)(l:Nat)(vs us:Nat->Value)(k:Nat):gY e l vs us (k+1)=gY e l vs us k++[Fx e l vs us (3-k)]:=by unfold gY;rw[List.range_succ,List.map_append];rfl
theorem LB{e:Ent}(d:e.l=l+1)(f:e.s.ptr.eqB e.t.ptr=false):(gY e l vs us 4).reverse.flatMap mB=mB e:=by
 unfold mB;rw[d,iK,f];rfl
theorem Fy(e:Ent)(l:Nat)(vs us:Nat->Value):∀k,wtE (gY e l vs us k)=k*oB l
 | 0=>by rw[Nat.zero_mul];rfl
 | k+1=>by
   rw[By,qL,Fy e l vs us k,Nat.succ_mul];rfl
theorem UnI.skip{wr:World}{f:List Ent}{e:Ent}(o:f.length=n)(h:UnI w c S B tot wr (.slice g (n+1) cap) ov (f++[e]) ns)(m:mB e=[]):UnI w c S B tot wr (.slice g n cap) ov f ns:=by
 subst o;refine⟨h.keep,h.ki,?_,h.out,h.ap,fun y i=>?_,?_,?_,h.bl⟩
 ·have d:=h.stk
  rw[List.length_append,List.length_singleton,List.flatMap_append] at d;refine Fv d ?_;have j:∀y∈f,(jF y).length=72:=fun y i=>(h.ents y (List.mem_append_left _ i)).len
  clear h d
  induction f with
  | nil=>rfl
  | cons y f x=>rw[List.flatMap_cons,List.length_append,j y (List.mem_cons_self ..),x fun z r=>j z (List.mem_cons_of_mem _ r),List.length_cons,Nat.succ_mul];omega
 ·have d:=h.ents y (List.mem_append_left _ i)
  exact⟨d.s,d.t,d.l3,d.a64,d.sp,d.tp,d.off⟩
 ·have d:=h.tot
  rw[List.reverse_append,List.flatMap_append,List.reverse_singleton,List.flatMap_cons,List.flatMap_nil,List.append_nil,m,List.nil_append] at d;exact d
 ·have d:=h.wt
  rw[qL] at d;omega
structure UnP(w:World)(c:Nat)(S:Kor)(B:Nat->Prop)(tot:List Nat)(wr:World)(kv ov:Value)(es:List Ent)(e:Ent)(ns:List Nat):Prop where
 keep:aA aB w wr
 ki:KI wr c S B
 stk:wr.ownsRow w.heap.size 85 72 kv es.length (es.flatMap jF)
 out:wr.ownsRow w.heap.size 3 1 ov ns.length (jR ns)
 ap:∀i,kv.ownBlock=some i->ov.ownBlock≠some i
 ents:∀y∈es,lO S B wr kv ov y
 top:lO S B wr kv ov e
 tot:ns++(mB e++es.reverse.flatMap mB)=tot
 wt:wtE es+oB e.l≤85
 bl:∀i,B i->i<w.heap.size
theorem UnI.pops{wr:World}{f:List Ent}{e:Ent}(m:f.length=n)(h:UnI w c S B tot wr (.slice g (n+1) cap) ov (f++[e]) ns):UnP w c S B tot wr (.slice g n cap) ov f e ns:=by
 subst m;refine⟨h.keep,h.ki,?_,h.out,h.ap,fun y i=>?_,?_,?_,?_,h.bl⟩
 ·have d:=h.stk
  rw[List.length_append,List.length_singleton,List.flatMap_append] at d;refine Fv d ?_;have j:∀y∈f,(jF y).length=72:=fun y i=>(h.ents y (List.mem_append_left _ i)).len
  clear h d
  induction f with
  | nil=>rfl
  | cons y f r=>rw[List.flatMap_cons,List.length_append,j y (List.mem_cons_self ..),r fun z o=>j z (List.mem_cons_of_mem _ o),List.length_cons,Nat.succ_mul];omega
 ·have d:=h.ents y (List.mem_append_left _ i)
  exact⟨d.s,d.t,d.l3,d.a64,d.sp,d.tp,d.off⟩
 ·have d:=h.ents e (List.mem_append_right _ (List.mem_singleton.2 rfl))
  exact⟨d.s,d.t,d.l3,d.a64,d.sp,d.tp,d.off⟩
 ·have d:=h.tot
  rw[List.reverse_append,List.flatMap_append,List.reverse_singleton,List.flatMap_cons,List.flatMap_nil,List.append_nil] at d;exact d
 ·have d:=h.wt
  rw[qL] at d;exact d
theorem UnP.keep0{wr:World}{d:List Ent}{e:Ent}(h:UnP w c S B tot wr kv ov d e ns)(k:aA aB wr w'):UnP w c S B tot w' kv ov d e ns:=
 ⟨h.keep.trans k,h.ki.keep0 k,k.owns h.stk fun _ _=>id,k.owns h.out fun _ _=>id,h.ap,fun e f=>(h.ents e f).keep0 k,h.top.keep0 k,h.tot,h.wt,h.bl⟩
theorem UnP.skip{wr:World}{d:List Ent}{e:Ent}(h:UnP w c S B tot wr kv ov d e ns)(i:mB e=[]):UnI w c S B tot wr kv ov d ns:=
 ⟨h.keep,h.ki,h.stk,h.out,h.ap,h.ents,by have f:=h.tot;rw[i,List.nil_append] at f;exact f,by have:=h.wt;omega,h.bl⟩
theorem UnP.tell{wr:World}{r:List Ent}{e:Ent}(h:UnP w c S B tot wr kv ov r e ns)(C:mB e=[e.a])(F:aA aB wr w1)(D:w2.ownsRow w.heap.size 3 1 v' (ns.length+1) (jR ns++[.int .i64 (e.a:Int)]))(m:aA (fun i=>ov.ownBlock=some i) w1 w2)(z:v'.ownBlock=ov.ownBlock\/v'.ownBlock=some w1.heap.size):UnI w c S B tot w2 kv v' r (ns++[e.a]):=by
 have h0:=h.keep0 F
 have j:∀i,v'.ownBlock=some i->ov.ownBlock=some i\/w1.heap.size≤i:=fun i d=>by
  rcases z with e|e
  ·exact .inl (e▸d)
  ·have G:w1.heap.size=i:=Option.some.inj (e.symm.trans d)
   exact .inr (by omega)
 have f:∀i,ov.ownBlock=some i->w.heap.size≤i:=fun i d=>aW h.out d
 refine⟨h0.keep.tT m fun i d e=>by have:=f i e;omega,h0.ki.keepT m fun i d e=>by have o:=f i d;have H:=h.bl i e;omega,m.owns h0.stk fun i d e=>h0.ap i d e,?_,fun i d e=>?_,fun y E=>(h0.ents y E).turn m (fun i d=>.inr d) (fun i d=>.inl d) j,?_,by have:=h.wt;omega,h.bl⟩
 ·rw[List.length_append,List.length_singleton]
  have x:jR (ns++[e.a])=jR ns++[.int .i64 (e.a:Int)]:=by unfold jR;rw[List.map_append];rfl
  rw[x];exact D
 ·rcases j i e with e|e
  ·exact h0.ap i d e
  ·obtain⟨cur,A⟩:=aJ h0.stk d
   have:=lt_of_block A;omega
 ·have o:=h.tot
  rw[C] at o;rw[List.append_assoc];exact o
structure UnQ(w:World)(c:Nat)(S:Kor)(B:Nat->Prop)(tot:List Nat)(wr:World)(kv ov:Value)(es:List Ent)(e:Ent)(l:Nat)(ns:List Nat)(vs us:Nat->Value)(b11 b12 b14 k:Nat):Prop where
 keep:aA aB w wr
 ki:KI wr c S B
 stk:wr.ownsRow w.heap.size 85 72 kv (es.length+k) ((es++gY e l vs us k).flatMap jF)
 out:wr.ownsRow w.heap.size 3 1 ov ns.length (jR ns)
 ap:∀i,kv.ownBlock=some i->ov.ownBlock≠some i/\i≠b11/\i≠b12/\i≠b14
 ents:∀y∈es++gY e l vs us k,lO S B wr kv ov y
 vs_:bL wr B vs (fun i=>(e.s.kid i).ptr)
 us_:bL wr B us (fun i=>(e.t.kid i).ptr)
 off:∀q,q<4->∀i,(vs q).ownBlock=some i\/(us q).ownBlock=some i->kv.ownBlock≠some i/\ov.ownBlock≠some i
 h11:wr.heap[b11]?=some (.cells (jF e).toArray 85 (0,0))
 h12:wr.heap[b12]?=some (.cells (bS ((l+1:Nat):Int) vs (fun i=>(e.s.kid i).ptr)).toArray 89 (0,0))
 h14:wr.heap[b14]?=some (.cells (bS ((l+1:Nat):Int) us (fun i=>(e.t.kid i).ptr)).toArray 89 (0,0))
 el:e.l=l+1
 es_:Tr.Ok S (l+1) e.s
 et:Tr.Ok S (l+1) e.t
 l2:l≤2
 a64:e.a+4 ^ (l+1)≤64
 ne:e.s.ptr.eqB e.t.ptr=false
 tot:ns++(mB e++es.reverse.flatMap mB)=tot
 wt:wtE es+oB e.l≤85
 bl:∀i,B i->i<w.heap.size
theorem UnQ.keep0{wr:World}{d:List Ent}{e:Ent}(h:UnQ w c S B tot wr kv ov d e l ns vs us b11 b12 b14 k)(q:aA aB wr w'):UnQ w c S B tot w' kv ov d e l ns vs us b11 b12 b14 k:=
 ⟨h.keep.trans q,h.ki.keep0 q,q.owns h.stk fun _ _=>id,q.owns h.out fun _ _=>id,h.ap,fun e f=>(h.ents e f).keep0 q,h.vs_.keep0 q,h.us_.keep0 q,h.off,q.blk h.h11 id,q.blk h.h12 id,q.blk h.h14 id,h.el,h.es_,h.et,h.l2,h.a64,h.ne,h.tot,h.wt,h.bl⟩
theorem UnQ.push{wr:World}{G:List Ent}{e:Ent}{j:Nat}(h:UnQ w c S B tot wr kv ov G e l ns vs us b11 b12 b14 k)(R:k+j=3)(N:aA aB wr w1)
 (M:w2.ownsRow w.heap.size 85 72 v' (G.length+k+1) ((G++gY e l vs us k).flatMap jF++jF (Fx e l vs us j))) (o:aA (fun i=>kv.ownBlock=some i) w1 w2) (J:v'.ownBlock=kv.ownBlock\/v'.ownBlock=some w1.heap.size):UnQ w c S B tot w2 v' ov G e l ns vs us b11 b12 b14 (k+1):=by
 have h0:=h.keep0 N
 have x:∀i,v'.ownBlock=some i->kv.ownBlock=some i\/w1.heap.size≤i:=fun i d=>by
  rcases J with e|e
  ·exact .inl (e▸d)
  ·have H:w1.heap.size=i:=Option.some.inj (e.symm.trans d)
   exact .inr (by omega)
 have A:∀i,kv.ownBlock=some i->w.heap.size≤i:=fun i d=>aW h.stk d
 have h11:=lt_of_block h0.h11;have h12:=lt_of_block h0.h12;have h14:=lt_of_block h0.h14;have F:∀q,q<4->∀i,(vs q).ownBlock=some i\/(us q).ownBlock=some i->i<w1.heap.size:=fun q m i d=>d.elim (fun d=>((h0.vs_ q m).off i d).2.lt) fun d=>((h0.us_ q m).off i d).2.lt
 have r:∀q,q<4->∀i,(vs q).ownBlock=some i\/(us q).ownBlock=some i->v'.ownBlock≠some i/\ov.ownBlock≠some i:=fun q m i d=>⟨fun e=>(x i e).elim (h.off q m i d).1 fun e=>by have:=F q m i d;omega,(h.off q m i d).2⟩
 have E:bL w2 B vs (fun i=>(e.s.kid i).ptr):=h0.vs_.keepT o fun q m i d=>(h.off q m i (.inl d)).1
 have D:bL w2 B us (fun i=>(e.t.kid i).ptr):=h0.us_.keepT o fun q m i d=>(h.off q m i (.inr d)).1
 have C:gY e l vs us (k+1)=gY e l vs us k++[Fx e l vs us j]:=by rw[By,show 3-k=j by omega]
 have f:j<4:=by omega
 refine⟨h0.keep.tT o fun i d e=>by have:=A i e;omega,h0.ki.keepT o fun i d e=>by have P:=A i d;have Q:=h.bl i e;omega,?_,o.owns h0.out fun i d e=>(h.ap i e).1 d,fun i d=>?_,fun y z=>?_,E,D,r,o.blk h0.h11 fun e=>(h.ap _ e).2.1 rfl,o.blk h0.h12 fun e=>(h.ap _ e).2.2.1 rfl,o.blk h0.h14 fun e=>(h.ap _ e).2.2.2 rfl,h.el,h.es_,h.et,h.l2,h.a64,h.ne,h.tot,h.wt,h.bl⟩
 ·rw[C,←List.append_assoc,List.flatMap_append,List.flatMap_cons,List.flatMap_nil,List.append_nil,←Nat.add_assoc]
  exact M
 ·rcases x i d with e|e
  ·exact h.ap i e
  ·refine⟨fun H=>?_,by omega,by omega,by omega⟩
   obtain⟨cur,K⟩:=aJ h0.out H;have:=lt_of_block K;omega
 ·rw[C,←List.append_assoc] at z
  rcases List.mem_append.1 z with z|z
  ·exact(h0.ents y z).turn o (fun i d=>.inl d) x (fun i d=>.inl d)
  ·rw[List.mem_singleton] at z
   subst z;have L:(j+1)*4 ^ l≤4*4 ^ l:=Nat.mul_le_mul_right _ (by omega);have I:=h.a64;rw[Nat.succ_mul] at L;rw[Nat.pow_succ] at I;exact⟨h.es_.kid f,h.et.kid f,by show l≤3;have:=h.l2;omega,by show e.a+j*4 ^ l+4 ^ l≤64;omega,E j f,D j f,fun i d=>r j f i d⟩
theorem UnQ.fin{wr:World}{d:List Ent}{e:Ent}(h:UnQ w c S B tot wr kv ov d e l ns vs us b11 b12 b14 4):UnI w c S B tot wr kv ov (d++gY e l vs us 4) ns/\wtE (d++gY e l vs us 4)<wtE d+oB e.l:=by
 have j:wtE (d++gY e l vs us 4)+1=wtE d+oB e.l:=by
  rw[qL,Fy,h.el];show wtE d+4*oB l+1=wtE d+(4*oB l+1);omega
 refine⟨⟨h.keep,h.ki,by rw[List.length_append,LA];exact h.stk,h.out,fun i f=>(h.ap i f).1,h.ents,?_,by have:=h.wt;omega,h.bl⟩,by omega⟩;rw[List.reverse_append,List.flatMap_append,LB h.el h.ne];exact h.tot
theorem Rb{P:Program}{j:Array Oper}{rest:List Oper}{o:Oper}{a:Act}{Q:Exit->Act->World->Prop}(t e:TypeId)(x y:Operand)(G:P.underlying t=some (.slice e)){z:Value}{size bytes:Nat}(f:(P.info? e).map (fun i=>(i.zero,i.size,i.bytes))=some (some z,size,bytes))(m:0<size)
 (vs us:List Value) (A:vs.length=size) (r:us.length=size) (d:2*size≤2 ^ 24) (h:∀b w',w.heap.size=b->aA aB w w'->w'.heap[b]?=some (.cells (vs++us).toArray e (0,0))->wpList P j Q rest (a.put o.dst (.slice (some ⟨b,0,none⟩) 2 2)) w')
 (H:a.eval x=.agg vs.toArray:=by rfl) (I:a.eval y=.agg us.toArray:=by rfl) (E:o.guard=none:=by rfl) (F:o.op=.buildSlice t 2 #[(0,x),(1,y)]:=by rfl):wpList P j Q (o::rest) a w:=by
 refine pQ E t e 2 _ F G f m [vs,us] (fun l C=>?_) rfl (by decide) d ?_ (h _ _ rfl ((aA.refl _ _).alloc _) ?_)
 ·simp only[List.mem_cons,List.not_mem_nil,or_false] at C
  rcases C with rfl|rfl
  ·exact A
  ·exact r
 ·simp[jX,H,I]
 ·have D:[vs,us].flatten=vs++us:=by simp
  rw[D];exact heap_alloc_new _ _
structure yO(w:World)(g n:Nat)(vs:Nat->Value)(ps:Nat->Pt):Prop where
 v:∀k,k<n->PtV w (vs k) (ps k)
 r:∀k,k<n->(ps k).root=true
 a:∀k,k<n->w.rangeAt g (k*35) (aE (vs k) (ps k))
theorem yO.keep0{e:Nat->Pt}(h:yO w g n vs e)(k:aA aB w w'):yO w' g n vs e:=⟨fun i d=>(h.v i d).keep k fun _ _=>id,h.r,fun i d=>k.rangeAt (h.a i d)⟩
theorem Fz(M:KI w c S B)(Z:n≤100)(vs:Nat->Value)(N:Nat->Pt)(R:yO w g n vs N):Calls prog 36 #[.pointer c,.slice g n n] w (aH w (.int .i64 0)):=by
 have F:=O (by have:=M.bd.c1;omega:¬((S.cp:Nat):Int)=0);have E:=O M;have K:=O R;have m:=lN w;clear M R;go_in;go_wp2_with fail;refine((KI.copies E.out:Ka w (aH w (.int .i64 (S.cp:Int))))).mono ?_;rintro e w1 ⟨rfl,d⟩;replace m:=kL m d;replace E:=O (KI.keep0 E.out d);replace K:=O (K.keep0 d);clear d;have y:=F.out;have W:decide (((S.cp:Nat):Int)=0)=false:=decide_eq_false y;have X:(((S.cp:Nat):Int) == 0)=false:=by rw[beq_eq_false_iff_ne];exact y
 go_wp2_with fail;have G:=O m.keep;clear m E
 go_loopw [13] (fun i wr=>∃k:Nat,k≤n/\i=.int .i64 (k:Int)/\Hid (aA aB w1 wr)) (fun i _=>n-(intOf i).toNat)
 case atStart=>exact⟨0,by omega,rfl,O (aA.refl _ _)⟩
 case round =>
  obtain⟨k,d,rfl,z⟩:=hrel
  by_cases C:k<n
  ·have A:(0:Int)≤(k:Int):=by omega
   have U:(k:Int)<(n:Int):=by omega
   have m:=lN wr;have o:=K.keep0 z.out;have h:=O (o.v k C);have L:=O (o.r k C);obtain⟨pc,f⟩:=zX9 (aE (vs k) (N k))
   have J:=O f;have r:pc.length=35:=by rw[←f];exact aF h.sum
   have I:Hid (∀u∈pc,u.oneCell'=true):=O (by rw[←f];exact aL h.out);have j:Hid (wr.rangeAt g (k*35) pc):=O (by rw[←f];exact o.a k C);clear o f
   go_wp2_with (first
    | refine ldP g (k*35) pc (j.out) r ?_
    | refine alA aZ ?_)
   intro V w2 D A x
   go_wp2_with refine stW x r aG (szP9 r) I.out ?_
   intro P d Q;replace d:=tX A d (fun i Y e=>by omega);replace m:=lW m D d Q;replace h:=O (h.keep d fun _ _=>id);replace j:=O (d.rangeAt j.out);clear D d Q A x
   go_wp2_with refine ldQ (m.b 0) r ?_
   refine((by rw[←J.out];exact sU P (vs k) (N k) h.out L.out:Ka P (aH P (.int .i64 0)))).mono ?_;rintro e w4 ⟨rfl,d⟩;replace m:=kL m d;replace h:=O (h.keep d fun _ _=>id);replace j:=O (d.rangeAt j.out);clear d;have H:=O (z.trans m.keep);go_wp2
   go_roundw
   case rel=>exact⟨k+1,by omega,by go_num,H⟩
   case measure=>simp[intOf];omega
  ·obtain rfl:k=n:=by omega
   go_wp2;go_ret;exact⟨rfl,G.trans z.out⟩
def Bz:List Value:=gB (.slice none 0 0) (.slice none 0 0) zPt zPt 0 0
theorem Jm:Bz.length=72:=rfl
theorem Qq:Hid (∀w,(zeroValue 85).run prog w=.ok (.agg Bz.toArray) w):=O fun w=>by kernel_rfl
theorem LC:(prog.info? 85).map (·.size)=some 72:=by kernel_rfl
theorem Ay:(prog.info? 85).map (fun i=>(i.zero,i.size,i.bytes))=some (some (.agg Bz.toArray),72,160):=by kernel_rfl
theorem Jn(f g:Nat->Value)(l a:Int):prog.built 85 [(0,.agg ((List.range 35).map f).toArray),(1,.agg ((List.range 35).map g).toArray),(2,.int .i64 l),(3,.int .i64 a)]=some ((List.range 35).map f++((List.range 35).map g++[Value.int .i64 l,.int .i64 a])).toArray:=by kernel_rfl
theorem Dj(v u:Value)(p q:Pt)(l a:Int)(d:p.sum.length=32)(e:q.sum.length=32)(w:World):(Instr.build 85 #[(0,.agg (aE v p).toArray),(1,.agg (aE u q).toArray),(2,.int .i64 l),(3,.int .i64 a)]).run prog w=.ok (.agg (gB v u p q l a).toArray) w:=by
 refine run_build w 85 _ _ ?_;unfold gB;rw[yK (aE v p) (aF d),yK (aE u q) (aF e)];exact Jn _ _ _ _
theorem UnI.top{wr:World}{A:Option Addr}{I j:Nat}{d:List Ent}{e:Ent}(h:UnI w c S B tot wr (.slice A I j) ov (d++[e]) ns):∃g,A=some ⟨g,0,none⟩/\wr.rangeAt g (d.length*72) (jF e)/\d.length+1≤j/\j≤maxLen/\j≤9223372036854775807:=by
 have G:(d++[e])[d.length]?=some e:=by rw[List.getElem?_append_right (Nat.le_refl _),Nat.sub_self];rfl
 obtain⟨g,o,cap,F,z⟩:=yN (f:=jF) (s:=72) (fun y H=>(h.ents y H).len) (by decide) (Rd.of_owns h.stk) G;rcases h.stk.2 with⟨i,x⟩|⟨C,r,cur,i,x,J,D,E,h6,h7⟩
 ·rw[List.length_append,List.length_singleton] at x
  omega
 ·injection i with i K L
  injection F with h10 h11 h12
  rw[i] at h10;injection h10 with h10
  injection h10 with m h14
  subst m;rw[←h14,Nat.zero_add] at z;rw[List.length_append,List.length_singleton] at D;exact⟨C,i,z,by omega,by omega,by unfold maxLen at E;omega⟩
theorem Qr{p q:List Value}(h:w.heap[b]?=some (.cells (p++q).toArray t fr)):w.rangeAt b (0*35) p:=fun j x d =>
 aC h (by rw[List.getElem?_toArray,Nat.zero_mul,Nat.zero_add,List.getElem?_append_left (List.getElem?_eq_some_iff.1 d).1];exact d)
theorem Qs{p q:List Value}(e:p.length=35)(h:w.heap[b]?=some (.cells (p++q).toArray t fr)):w.rangeAt b (1*35) q:=fun j x d =>
 aC h (by rw[List.getElem?_toArray,List.getElem?_append_right (by omega),e,show 1*35+j-35=j by omega];exact d)
theorem Rd.slice_len{m:Nat}{a:Option Addr}(h:Rd w s (.slice a m c) n xs):m=n:=by
 obtain⟨d,f,e,-,-⟩:=h.form;injection e
theorem vU(hK:KI w c S B)(pv qv:Value)(s t:Tr)(hs:Tr.Ok S 3 s)(ht:Tr.Ok S 3 t)(hp:aU w B pv s.ptr)(hq:aU w B qv t.ptr):Calls prog 17 #[.pointer c,.agg (aE pv s.ptr).toArray,.agg (aE qv t.ptr).toArray] w (fR w (unl 3 s t 0)):=by
 have um:=O hs;have uo:=O ht;have J:=O hK;have zn:Hid (s.ptr.root=true/\t.ptr.root=true):=O ⟨hs.root,ht.root⟩;obtain⟨p,xy⟩:=zX9 s.ptr
 obtain⟨q,xz⟩:=zX9 t.ptr
 have xl:=O xy;have xm:=O xz;rw[xy] at hp zn ⊢;rw[xz] at hq zn ⊢;have K:=O hp;have L:=O hq;have qh:=aF (v:=pv) hp.pt.sum;have qp:=aF (v:=qv) hq.pt.sum;have zg:=Dj pv qv p q 3 0 hp.pt.sum hq.pt.sum;obtain⟨pc,G⟩:=zX9 (aE pv p)
 obtain⟨qc,H⟩:=zX9 (aE qv q)
 obtain⟨xc,I⟩:=zX9 (gB pv qv p q 3 0)
 have ua:Hid (∀u∈pc,u.oneCell'=true):=O (by rw[←G];exact aL hp.pt);have uc:Hid (∀u∈qc,u.oneCell'=true):=O (by rw[←H];exact aL hq.pt);have qd:xc.length=72:=by rw[←I];exact vT hp.pt.sum hq.pt.sum
 have qw:=O G;have qx:=O H;have M:=O I;rw[G] at qh zg ⊢;rw[H] at qp zg ⊢;rw[I] at zg;have vw:=O zg;have x6:=O (fun i (e:B i)=>hK.lt e);have uf:=O (fun i E=>(hp.off i E).2.lt);have ui:=O (fun i E=>(hq.off i E).2.lt);clear G H I hp hq hs ht hK xy xz zg;have f:=lN w;go_in
 go_wp2_with refine bxM f (pc.toArray) ?_
 intro b4 w1 d f;replace K:=pK K d;replace L:=pK L d;replace J:=O (KI.keep0 J.out d);clear d
 go_wp2_with refine bxM f (qc.toArray) ?_
 intro b5 w2 d f;replace K:=pK K d;replace L:=pK L d;replace J:=O (KI.keep0 J.out d);clear d
 go_wp2_with ((with_reducible show WL _ _);first
  | refine ldQ (f.b 1) qh ?_
  | refine ldQ (f.b 0) qp ?_
  | refine Rb 40 30 (.tmp 17) (.tmp 18) underlying40 lK (by omega) pc qc qh qp (by omega) ?_)
 intro xo w3 z d U;replace f:=lW f z d U;replace K:=pK K d;replace L:=pK L d;replace J:=O (KI.keep0 J.out d);clear z d U;go_wp2_with fail
 refine((Fz J.out (g:=xo) (n:=2) (by omega) (fun k=>if k=0 then pv else qv) (fun k=>if k=0 then p else q) ⟨fun k d=>by
  have:k=0\/k=1:=by omega
  rcases this with rfl|rfl
  ·exact K.pt
  ·exact L.pt,fun k d=>by
  have:k=0\/k=1:=by omega
  rcases this with rfl|rfl
  ·exact zn.1
  ·exact zn.2,fun k d=>by
  have h:=f.b 0;have:k=0\/k=1:=by omega
  rcases this with rfl|rfl
  ·show World.rangeAt _ xo (0*35) (aE pv p)
   rw[qw.out];exact Qr h
  ·show World.rangeAt _ xo (1*35) (aE qv q)
   rw[qx.out];exact Qs qh h⟩:Ka w3 (aH w3 (.int .i64 0)))).mono ?_
 rintro e w4 ⟨rfl,d⟩;replace f:=kL f d;replace K:=pK K d;replace L:=pK L d;replace J:=O (KI.keep0 J.out d);clear d
 go_wp2_with ((with_reducible show WL _ _);first
  | refine ldQ (f.b 2) qh ?_
  | refine ldQ (f.b 1) qp ?_
  | refine bld 85 #[(0,.tmp 24),(1,.tmp 25),(2,.const (.int .i64 3)),(3,.const (.int .i64 0))] [(0,.agg pc.toArray),(1,.agg qc.toArray),(2,.int .i64 3),(3,.int .i64 0)] (.agg xc.toArray) vw.out ?_
  | refine bsA 86 85 (.tmp 26) underlying86 Ay (by omega) xc qd (by omega) ?_)
 intro qm w5 z d U;have xk:=O (show w.heap.size≤qm from by have h:=f.keep.size;omega);have u8:=O (show w4.heap.size=qm from z);replace f:=kL f d;have x5:=O U;replace K:=pK K d;replace L:=pK L d;replace J:=O (KI.keep0 J.out d)
 have ul:Hid (∃A ns,UnI w c S B (unl 3 s t 0) w5 (.slice qm 1 1) (.slice none 0 0) A ns):=O ⟨[⟨s,t,pv,qv,3,0⟩],[],f.keep,J.out,by
  refine⟨by rw[List.flatMap_cons,List.flatMap_nil,List.append_nil];show (gB pv qv s.ptr t.ptr 3 0).length=1*72;rw[xl.out,xm.out,M.out,qd],.inr ⟨qm,1,xc.toArray,rfl,xk.out,U,Nat.le_refl _,by unfold maxLen;omega,by rw[List.size_toArray,qd],?_⟩⟩;rw[List.flatMap_cons,List.flatMap_nil,List.append_nil];show xc.take 72=gB pv qv s.ptr t.ptr 3 0;rw[xl.out,xm.out,M.out,←qd,List.take_length],World.ownsRow_nil _ _ _ _,fun i E e=>(by cases e),fun e he=>by
  rw[List.mem_singleton] at he;subst he;refine⟨um.out,uo.out,Nat.le_refl _,by show 0+4 ^ 3≤64;decide,by show aU _ B pv s.ptr;rw[xl.out];exact K.out,by show aU _ B qv t.ptr;rw[xm.out];exact L.out,fun i E=>⟨fun e=>?_,fun e=>by cases e⟩⟩;have e2:qm=i:=Option.some.inj e
  have h1:i<w5.heap.size/\i≠qm:=by
   rcases E with E|E
   ·have h2:=uf.out i E;have h3:=xk.out;exact⟨by have h4:=lt_of_block U;omega,by omega⟩
   ·have h2:=ui.out i E;have h3:=xk.out;exact⟨by have h4:=lt_of_block U;omega,by omega⟩
  exact h1.2 e2.symm,by rw[List.nil_append];show ([⟨s,t,pv,qv,3,0⟩]:List Ent).flatMap mB=_;rw[List.flatMap_cons,List.flatMap_nil,List.append_nil];rfl,Nat.le_refl 85,x6.out⟩
 clear z d U f J K L x5;go_wp2_with fail
 go_loopw [9,10] (fun o k wr=>∃(Z:Option Addr) (on oc:Nat) (ka:Option Addr) (kn X:Nat),o=.slice Z on oc/\k=.slice ka kn X/\Hid (∃A ns,UnI w c S B (unl 3 s t 0) wr (.slice ka kn X) (.slice Z on oc) A ns)) (fun o k wr=>kK (fun A=>∃ns,UnI w c S B (unl 3 s t 0) wr k o A ns) wtE)
 case atStart=>exact⟨none,0,0,some ⟨qm,0,none⟩,1,1,rfl,rfl,ul⟩
 case round =>
  obtain⟨Z,on,oc,ka,kn,X,rfl,rfl,HU⟩:=hrel;obtain⟨ur,u2,vh⟩:=HU.out;obtain⟨A,⟨ns,hU⟩,vj⟩:=Lv (R:=fun A=>∃ns,UnI w c S B (unl 3 s t 0) wr (.slice ka kn X) (.slice Z on oc) A ns) (wt:=wtE) (a:=ur) ⟨u2,vh⟩;have zr:=O vj;have vq:on=ns.length:=(Rd.of_owns hU.out).slice_len;have q0:kn=A.length:=(Rd.of_owns hU.stk).slice_len;have va:=O vq;clear HU vh vj vq;rcases List.eq_nil_or_concat A with rfl|⟨A,e,rfl⟩
  ·have zw:kn=0:=q0
   clear q0;subst zw
   have HP:Hid (fR w (unl 3 s t 0) (.returned (.tuple #[.slice Z on oc,.int .i64 0])) wr):=O (by
    have h1:=hU.tot;rw[List.reverse_nil,List.flatMap_nil,List.append_nil] at h1;rw[←h1];exact⟨_,rfl,hU.out,hU.keep⟩)
   clear hU;go_wp2
   go_ret2
   exact HP.out
  ·rw[List.concat_eq_append] at hU q0 zr
   rw[List.length_append,List.length_singleton] at q0;obtain⟨n,hn⟩:=zX9 A.length
   have q5:=O hn;rw[hn] at q0;subst q0;clear hn;obtain⟨g,rfl,zm,ux,je,u5⟩:=hU.top;rw[q5.out] at zm ux;have m:=O (hU.pops q5.out);have vc:=O (hU.pops q5.out);have V:=(hU.pops q5.out).top;have xf:=Cf A;have zl:=hU.wt;rw[qL] at zl;rw[q5.out] at xf;have u7:n≤85:=by omega
   have xn:Hid (wtE (A++[e])=wtE A+oB e.l):=O (by rw[qL];unfold wtE;simp);clear xf zl hU;obtain⟨p1,zx⟩:=zX9 e.s.ptr
   obtain⟨q1,zy⟩:=zX9 e.t.ptr
   obtain⟨sv,z0⟩:=zX9 e.sv
   obtain⟨tv,z3⟩:=zX9 e.tv
   obtain⟨l,hl⟩:=zX9 e.l
   obtain⟨a,ha⟩:=zX9 e.a
   have HE:=O (And.intro zx (And.intro zy (And.intro z0 (And.intro z3 (And.intro hl ha)))));have qi:=V.sp;have qj:=V.tp;have qt:=V.a64;rw[z0,zx] at qi;rw[z3,zy] at qj;rw[ha,hl] at qt;have C:=O qi;have D:=O qj;have r:Hid (p1.sum.length=32/\q1.sum.length=32):=O ⟨qi.pt.sum,qj.pt.sum⟩;have qd:(gB sv tv p1 q1 (l:Int) (a:Int)).length=72:=vT qi.pt.sum qj.pt.sum;have xi:Hid (jF e=gB sv tv p1 q1 (l:Int) (a:Int)):=O (by unfold jF;rw[z0,z3,zx,zy,hl,ha]);rw[xi.out] at zm;obtain⟨xc,I⟩:=zX9 (gB sv tv p1 q1 (l:Int) (a:Int))
   have ud:Hid (∀u∈xc,u.oneCell'=true):=O (by rw[←I];exact Fw qi.pt qj.pt);have M:=O I;rw[I] at zm qd;have zt:=O zm;obtain⟨pc,G⟩:=zX9 (aE sv p1)
   obtain⟨qc,H⟩:=zX9 (aE tv q1)
   have qw:=O G;have qx:=O H;have qh:pc.length=35:=by rw[←G];exact aF qi.pt.sum
   have qp:qc.length=35:=by rw[←H];exact aF qj.pt.sum
   have ua:Hid (∀u∈pc,u.oneCell'=true):=O (by rw[←G];exact aL qi.pt);have uc:Hid (∀u∈qc,u.oneCell'=true):=O (by rw[←H];exact aL qj.pt);have ze:Hid (Tr.Ok S l e.s/\Tr.Ok S l e.t/\l≤3):=O (by rw[←hl];exact⟨V.s,V.t,V.l3⟩);have x4:=O qt;have ut:a≤64:=Nat.le_trans (Nat.le_add_right _ _) qt;have jf:l≤3:=ze.2.2;have f:=lN wr;have jh:(0:Int)<(n:Int)+1:=by omega
   clear V zx zy z0 z3 hl ha qi qj qt zm I G H
   go_wp2_with (first
    | refine ldM g (n*72) xc zt.out underlying85 (by rw[qd];exact LC) ?_
    | refine alA Qq ?_)
   intro b11 w7 z zw xe
   go_wp2_with ((with_reducible show WL _ _);refine stW xe qd Jm (by rw[qd];exact LC) ud.out ?_)
   intro w8 d U;replace d:=tX zw d (fun i E e=>by omega);replace f:=lW f z d U;replace m:=O (m.keep0 d);replace C:=pK C d;replace D:=pK D d;replace zt:=O (d.rangeAt zt.out);clear z d U zw xe;clear zt
   go_wp2_with (first
    | refine ldP b11 0 pc (by rw[←qw.out];exact Lx (by have h:=f.b 0;rw[←M.out] at h;exact h)) qh ?_
    | refine ldP b11 35 qc (by rw[←qx.out];exact Ly r.1 (by have h:=f.b 0;rw[←M.out] at h;exact h)) qp ?_)
   refine((by rw[←qw.out,←qx.out];exact uO w8 sv tv p1 q1 C.pt D.pt:Ka w8 (aN w8 (p1.eqB q1)))).mono ?_;rintro e w9 ⟨rfl,d⟩;replace f:=kL f d;replace m:=O (m.keep0 d);replace C:=pK C d;replace D:=pK D d;clear d;obtain⟨eb,xt⟩:=zX9 (p1.eqB q1)
   rw[xt];have xh:=O xt;clear xt;cases eb with
   | true =>
     have Q:Hid (UnI w c S B (unl 3 s t 0) w9 (.slice g n X) (.slice Z on oc) A ns):=O (m.skip (by
      have h:=HE.out;unfold mB;have e1:e.s.ptr.eqB e.t.ptr=true:=by rw[h.1,h.2.1];exact xh.out
      cases e.l with
      | zero=>rw[nZ,e1];rfl
      | succ l=>rw[iK,e1];rfl))
     have za:Hid (∃es_ qq,UnI w c S B (unl 3 s t 0) w9 (.slice g n X) (.slice Z on oc) es_ qq):=O ⟨_,_,Q.out⟩
     have q3:Hid (kK (fun es_=>∃qq,UnI w c S B (unl 3 s t 0) w9 (.slice g n X) (.slice Z on oc) es_ qq) wtE<kK (fun A=>∃ns,UnI w c S B (unl 3 s t 0) wr (.slice g (n+1) X) (.slice Z on oc) A ns) wtE):=O (by
      rw[zr.out,xn.out];refine Nat.lt_of_le_of_lt (xY (a:=A) ⟨_,Q.out⟩) ?_;have:=Ax e.l;omega)
     clear Q m C D f;go_wp2
     go_roundw
     case rel=>exact⟨Z,on,oc,some ⟨g,0,none⟩,n,X,rfl,rfl,za⟩
     case measure=>exact q3.out
   | false =>
     rcases l with _|l
     ·have c1:w9.cell? ⟨b11,70,none⟩=some (.int .i64 0):=(tS r.1 r.2 (by have h:=f.b 0;rw[←M.out] at h;exact h))
      have c2:w9.cell? ⟨b11,71,none⟩=some (.int .i64 (a:Int)):=(Lz r.1 r.2 (by have h:=f.b 0;rw[←M.out] at h;exact h))
      go_wp2_with ((with_reducible show WL _ _);refine bs1 48 3 (.tmp 52) (.int .i64 (a:Int)) (by kernel_rfl) (by kernel_rfl) underlying48 rfl ?_)
      clear c1 c2;intro vg wa z d U;have zd:Hid (Rd wa 1 (.slice vg 1 1) 1 [.int .i64 (a:Int)]):=O (dX (n:=1) (size:=1) U rfl (by unfold maxLen;omega));have ug:=m;have v4:=O d;replace m:=O (m.keep0 d);clear z d U f
      have vd:Hid (mB e=[e.a]):=O (by
       have h:=HE.out;unfold mB;rw[h.2.2.2.2.1,nZ,h.1,h.2.1,xh.out];rfl)
      have x9:Hid (ns.length+1≤100):=O (by
       have h1:=congrArg List.length m.tot;have h2:=tU (l:=3) (s:=s) (t:=t) (a:=0);rw[List.length_append,vd.out,List.length_append,List.length_singleton] at h1;have h3:4 ^ 3=64:=rfl;omega)
      have ql:Hid (ns.length+1≤maxLen/\(ns.length+1)*8≤140737488355328/\w.heap.size≤wa.heap.size):=O ⟨by have:=x9.out;unfold maxLen;omega,by have:=x9.out;omega,m.keep.size⟩
      go_wp2_with (at_builtin;refine aM rfl (.tmp 50) (.tmp 53) 48 rfl w.heap.size 3 (.int .i64 0) 1 8 underlying48 Ft rfl (by decide) (.slice Z on oc) ns.length (jR ns) rfl m.out.out (.slice vg 1 1) 1 [.int .i64 (a:Int)] rfl zd.out (by intro u hu;rcases List.mem_singleton.1 hu with rfl;rfl) ql.1 ql.2.1 ql.2.2 ?_)
      intro v2 w8 qo qz xw zf;obtain⟨z5,z6,rfl,-,-⟩:=(Rd.of_owns qo).form
      have Q:Hid (UnI w c S B (unl 3 s t 0) w8 (.slice g n X) (.slice z5 (ns.length+1) z6) A (ns++[e.a])):=O (by
       have h:=HE.out;refine UnP.tell m.out vd.out (aA.refl _ _) ?_ qz zf;rw[h.2.2.2.2.2];exact qo)
      have za:Hid (∃es_ qq,UnI w c S B (unl 3 s t 0) w8 (.slice g n X) (.slice z5 (ns.length+1) z6) es_ qq):=O ⟨_,_,Q.out⟩
      have q3:Hid (kK (fun es_=>∃qq,UnI w c S B (unl 3 s t 0) w8 (.slice g n X) (.slice z5 (ns.length+1) z6) es_ qq) wtE<kK (fun A=>∃ns,UnI w c S B (unl 3 s t 0) wr (.slice g (n+1) X) (.slice Z on oc) A ns) wtE):=O (by
       rw[zr.out,xn.out];refine Nat.lt_of_le_of_lt (xY (a:=A) ⟨_,Q.out⟩) ?_;have:=Ax e.l;omega)
      clear Q m ug C D qo qz xw zf zd v4;go_wp2
      go_roundw
      case rel=>exact⟨z5,ns.length+1,z6,some ⟨g,0,none⟩,n,X,rfl,rfl,za⟩
      case measure=>exact q3.out
     ·have jg:(((l:Int)+1) == 0)=false:=by rw[beq_eq_false_iff_ne];omega
      have u6:¬((l:Int)+1=0):=by omega
      have xu:l≤2:=by omega
      have c1:w9.cell? ⟨b11,70,none⟩=some (.int .i64 ((l+1:Nat):Int)):=(tS r.1 r.2 (by have h:=f.b 0;rw[←M.out] at h;exact h))
      have c2:w9.cell? ⟨b11,70,none⟩=some (.int .i64 ((l+1:Nat):Int)):=(tS r.1 r.2 (by have h:=f.b 0;rw[←M.out] at h;exact h))
      go_wp2_with ((with_reducible show WL _ _);refine ldP b11 0 pc (by rw[←qw.out];exact Lx (by have h:=f.b 0;rw[←M.out] at h;exact h)) qh ?_)
      clear c1 c2;have ve:=O (And.intro f.keep.size (show w9.heap.size≤w9.heap.size from Nat.le_refl _));refine((by rw[←qw.out,←HE.1];exact sB m.ki xu sv e.s ze.1 (by rw[HE.1];exact C.pt):Ka w9 (eE w9 B l e.s))).mono ?_;rintro e wb ⟨vs,rfl,qb,qg,d⟩;have N:=O qb;have z9:Hid (∀q,q<4->∀i,(vs q).ownBlock=some i->w9.heap.size≤i):=O qg;have xx:=cP ((l+1:Nat):Int) vs qb.nv;have zb:=cQ ((l+1:Nat):Int) qb.nv;obtain⟨nn,F⟩:=zX9 (bS ((l+1:Nat):Int) vs (fun i=>(e.s.kid i).ptr))
      have va:Hid (∀u∈nn,u.oneCell'=true):=O (by rw[←F];exact zb);have vz:=O F;rw[F] at xx ⊢;clear zb F qb qg;replace f:=kL f d;replace m:=O (m.keep0 d);replace C:=pK C d;replace D:=pK D d;clear d
      go_wp2_with ((with_reducible show WL _ _);refine alW gV xx cW (by rw[xx];exact cU) va.out ?_)
      intro b12 wd z d U
      have v7:=O (show wb.heap.size≤b12 from Nat.le_of_eq z);replace f:=lW f z d U;replace m:=O (m.keep0 d);replace C:=pK C d;replace D:=pK D d;replace N:=O (bL.keep0 N.out d);clear z d U;have c1:wd.cell? ⟨b11,70,none⟩=some (.int .i64 ((l+1:Nat):Int)):=(tS r.1 r.2 (by have h:=f.b 1;rw[←M.out] at h;exact h))
      go_wp2_with ((with_reducible show WL _ _);refine ldP b11 35 qc (by rw[←qx.out];exact Ly r.1 (by have h:=f.b 1;rw[←M.out] at h;exact h)) qp ?_)
      clear c1;have vf:=O (And.intro f.keep.size (show wd.heap.size≤wd.heap.size from Nat.le_refl _));refine((by rw[←qx.out,←HE.2.1];exact sB m.ki xu tv e.t ze.2.1 (by rw[HE.2.1];exact D.pt):Ka wd (eE wd B l e.t))).mono ?_;rintro e we ⟨us,rfl,qb,qg,d⟩;have qr:=O qb;have z7:Hid (∀q,q<4->∀i,(us q).ownBlock=some i->wd.heap.size≤i):=O qg;have xv:=cP ((l+1:Nat):Int) us qb.nv;have zb:=cQ ((l+1:Nat):Int) qb.nv;obtain⟨mm,F⟩:=zX9 (bS ((l+1:Nat):Int) us (fun i=>(e.t.kid i).ptr))
      have v9:Hid (∀u∈mm,u.oneCell'=true):=O (by rw[←F];exact zb);have vy:=O F;rw[F] at xv ⊢;clear zb F qb qg;replace f:=kL f d;replace m:=O (m.keep0 d);replace C:=pK C d;replace D:=pK D d;replace N:=O (bL.keep0 N.out d);clear d
      go_wp2_with ((with_reducible show WL _ _);refine alW gV xv cW (by rw[xv];exact cU) v9.out ?_)
      intro b14 wg z d U
      have v8:=O (show we.heap.size≤b14 from Nat.le_of_eq z);replace f:=lW f z d U;replace m:=O (m.keep0 d);replace C:=pK C d;replace D:=pK D d;replace N:=O (bL.keep0 N.out d);replace qr:=O (bL.keep0 qr.out d);clear z d U;go_wp2_with fail
      have uj:Hid (UnQ w c S B (unl 3 s t 0) wg (.slice g n X) (.slice Z on oc) A e l ns vs us b11 b12 b14 0):=O (by
       have h:=HE.out;have zz:∀i,(Value.slice g n X).ownBlock=some i->i<wr.heap.size:=fun i E=>by (obtain⟨cur,hc⟩:=aJ vc.stk E;exact lt_of_block hc)
       have uy:∀i,(Value.slice Z on oc).ownBlock=some i->i<wr.heap.size:=fun i E=>by (obtain⟨cur,hc⟩:=aJ vc.out.out E;exact lt_of_block hc)
       have u9:=(f.lt 2).1;have ja:=(f.lt 1).1;have jb:=(f.lt 0).1;have z1:=ve.1;have z2:=vf.1;have h0:=m.out;have uw:e.l=l+1:=h.2.2.2.2.1;refine⟨h0.keep,h0.ki,?_,h0.out,fun i E=>⟨h0.ap i E,?_,?_,?_⟩,fun y hy=>h0.ents y (by rw[show gY e l vs us 0=[] from rfl,List.append_nil] at hy;exact hy),N.out,qr.out,fun q hq i E=>⟨fun e1=>?_,fun e1=>?_⟩,?_,?_,?_,uw,ze.1,ze.2.1,xu,by rw[h.2.2.2.2.2];exact x4.out,by rw[h.1,h.2.1];exact xh.out,h0.tot,h0.wt,h0.bl⟩
       ·rw[show gY e l vs us 0=[] from rfl,List.append_nil,Nat.add_zero]
        exact h0.stk
       ·have:=zz i E;omega
       ·have:=zz i E;omega
       ·have:=zz i E;omega
       ·have h3:=zz i e1
        exact E.elim (fun E=>by have:=z9.out q hq i E;omega) fun E=>by have:=z7.out q hq i E;omega
       ·have h3:=uy i e1
        exact E.elim (fun E=>by have:=z9.out q hq i E;omega) fun E=>by have:=z7.out q hq i E;omega
       ·have h4:=f.b 2
        rw[xi.out,M.out];exact h4
       ·have h4:=f.b 1
        rw[←vz.out] at h4;exact h4
       ·have h4:=f.b 0
        rw[←vy.out] at h4;exact h4)
      have x8:=O (fun(vu:Value) (w9:World) (xp:List Ent) (u1:List Nat) (h:UnI w c S B (unl 3 s t 0) w9 vu (.slice Z on oc) xp u1) (hw:wtE xp<wtE A+oB e.l)=>show kK (fun A=>∃ns,UnI w c S B (unl 3 s t 0) w9 vu (.slice Z on oc) A ns) wtE<kK (fun A=>∃ns,UnI w c S B (unl 3 s t 0) wr (.slice g (n+1) X) (.slice Z on oc) A ns) wtE from by
       rw[zr.out,xn.out];exact Nat.lt_of_le_of_lt (xY (a:=xp) ⟨_,h⟩) hw)
      clear f m C D N qr
      go_loopw [10,15] (fun kk i wq=>∃(k j kn:Nat) (ka:Option Addr) (X:Nat) (ij:Int),k+j=4/\ij=(j:Int)-1/\i=.int .i64 ij/\kk=.slice ka kn X/\Hid (UnQ w c S B (unl 3 s t 0) wq (.slice ka kn X) (.slice Z on oc) A e l ns vs us b11 b12 b14 k)) (fun _ i _=>(intOf i+1).toNat)
      case atStart=>exact⟨0,4,n,some ⟨g,0,none⟩,X,3,rfl,rfl,rfl,rfl,uj⟩
      case round =>
       obtain⟨k,j1,kn,ka,qk,ij,vo,vn,rfl,rfl,P⟩:=hrel;rcases j1 with _|j
       ·obtain rfl:k=4:=by omega
        obtain rfl:ij=-1:=by omega
        have xj:=O P.fin;have Q:=O xj.1;have za:Hid (∃A ns,UnI w c S B (unl 3 s t 0) wr (.slice ka kn qk) (.slice Z on oc) A ns):=O ⟨_,_,Q.out⟩;have q3:=O (x8 _ _ _ _ Q.out xj.2);clear Q P xj vn vo;go_wp2
        go_roundw
        case rel=>exact⟨Z,on,oc,ka,kn,qk,rfl,rfl,za⟩
        case measure=>exact q3.out
       ·obtain rfl:ij=(j:Int):=by omega
        have vp:k+j=3:=by omega
        have zu:j<4:=by omega
        have jc:(0:Int)≤(j:Int):=by omega
        have jd:(j:Int)<4:=by omega
        clear vn vo;have v3:=O vp;have zq:=O (P.vs_ j zu);have zp:=O (P.us_ j zu);have x0:=kD P.vs_.nv (aD P.h12) zu;have x1:=kD P.us_.nv (aD P.h14) zu;have h11:=P.h11;rw[xi.out] at h11;have H7:=O (tS r.1 r.2 h11);have H8:=O (Lz r.1 r.2 h11);have q9:=O (show ¬(Value.slice ka kn qk).ownBlock=some b11/\¬(Value.slice ka kn qk).ownBlock=some b12/\¬(Value.slice ka kn qk).ownBlock=some b14 from⟨fun e=>(P.ap _ e).2.1 rfl,fun e=>(P.ap _ e).2.2.1 rfl,fun e=>(P.ap _ e).2.2.2 rfl⟩);obtain⟨W,hW⟩:∃W:Nat,4 ^ l=W:=⟨_,rfl⟩
        have HW:=O hW
        have vi:W≤16:=by
         have:l=0\/l=1\/l=2:=by omega
         rcases this with rfl|rfl|rfl<;>omega
        obtain⟨jw,zv⟩:∃q:Nat,j*W=q:=⟨_,rfl⟩
        have uu:jw≤48:=by rw[←zv];exact Nat.le_trans (Nat.mul_le_mul (by omega:j≤3) vi) (by decide)
        have u4:(j:Int)*(W:Int)=(jw:Int):=by rw[←zv];push_cast;rfl
        obtain⟨aj,vm⟩:=zX9 (a+jw)
        have u3:(a:Int)+(jw:Int)=(aj:Int):=by omega
        have v1:Hid (jF (Fx e l vs us j)=gB (vs j) (us j) (e.s.kid j).ptr (e.t.kid j).ptr (l:Int) (aj:Int)):=O (by
         show gB (vs j) (us j) (e.s.kid j).ptr (e.t.kid j).ptr (l:Int) ((e.a+j*4 ^ l:Nat):Int)=_;rw[HE.2.2.2.2.2,hW,zv,vm])
        have zh:=Dj (vs j) (us j) (e.s.kid j).ptr (e.t.kid j).ptr (l:Int) (aj:Int) zq.pt.sum zp.pt.sum;have x2:(gB (vs j) (us j) (e.s.kid j).ptr (e.t.kid j).ptr (l:Int) (aj:Int)).length=72:=vT zq.pt.sum zp.pt.sum;obtain⟨yc,qu⟩:=zX9 (gB (vs j) (us j) (e.s.kid j).ptr (e.t.kid j).ptr (l:Int) (aj:Int))
        have ue:Hid (∀u∈yc,u.oneCell'=true):=O (by rw[←qu];exact Fw zq.pt zp.pt);have uq:=O qu;obtain⟨rc,zi⟩:=zX9 (aE (vs j) (e.s.kid j).ptr)
        obtain⟨tc,zj⟩:=zX9 (aE (us j) (e.t.kid j).ptr)
        have uz:rc.length=35:=by rw[←zi];exact aF zq.pt.sum
        have u0:tc.length=35:=by rw[←zj];exact aF zp.pt.sum
        rw[zi] at x0 zh;rw[zj] at x1 zh;rw[qu] at zh x2;have vx:=O zh;have qe:=O x0;have qf:=O x1;have f:=lN wr
        have x7:Hid (A.length+k+1≤100):=O (by
         have h1:=Cf A;have h2:=P.wt;omega)
        clear x0 x1 h11 hW zv vm zh qu zi zj;go_wp2_with fail;refine dwA (fun i=>(Value.slice ka kn qk).ownBlock=some i) (by kernel_rfl) ?_;intro wr S qa zo Y qn;replace f:=kL f qn;replace P:=O (P.keep0 qn);replace qe:=O (qn.rangeAt qe.out);replace qf:=O (qn.rangeAt qf.out);replace H7:=O (qn.cell H7.out id);replace H8:=O (qn.cell H8.out id);clear qn;have v5:=f;have uk:=P;have xa:=qe;have xb:=qf;have xg:=H7;have x3:=H8;refine tna 0 (.slice ka kn qk) rfl Y ?_;refine tna 1 (.int .i64 (j:Int)) rfl Y ?_;refine tnb 2 (.pointer (some ⟨b12,1,none⟩)) rfl Y ?_;refine tnd 3 (.pointer (some ⟨b12,1+j*35,none⟩)) rfl (.inl ⟨by rfl,fun _ _=>by go_simp<;>omega⟩) Y ?_;refine tnd 4 (.agg rc.toArray) rfl (yieldsIf_load_mid (by rfl) 30 (.tmp 86) rfl b12 (1+j*35) rfl rc _ (fun w' h=>(qa w' h).rangeAt2 xa.out q9.2.1) aI rfl (szP9 uz)) Y ?_;refine tna 5 (.int .i64 (j:Int)) rfl Y ?_;refine tnb 6 (.pointer (some ⟨b14,1,none⟩)) rfl Y ?_;refine tnd 7 (.pointer (some ⟨b14,1+j*35,none⟩)) rfl (.inl ⟨by rfl,fun _ _=>by go_simp<;>omega⟩) Y ?_;refine tnd 8 (.agg tc.toArray) rfl (yieldsIf_load_mid (by rfl) 30 (.tmp 90) rfl b14 (1+j*35) rfl tc _ (fun w' h=>(qa w' h).rangeAt2 xb.out q9.2.2) aI rfl (szP9 u0)) Y ?_;refine tnb 9 (.pointer (some ⟨b11,70,none⟩)) rfl Y ?_;refine tnd 10 (.int .i64 ((l+1:Nat):Int)) rfl (.inl ⟨by rfl,fun w' zk=>by have c:World.cell? w' ⟨b11,70,none⟩=some (.int .i64 ((l+1:Nat):Int)):=(qa w' zk).cell xg.out q9.1;go_simp⟩) Y ?_;refine tnd 11 (.int .i64 (l:Int)) rfl (.inl ⟨by rfl,fun _ _=>by go_simp;exact IntWalk.i64_in _ (by omega)⟩) Y ?_;refine tnb 12 (.pointer (some ⟨b11,71,none⟩)) rfl Y ?_;refine tnd 13 (.int .i64 (a:Int)) rfl (.inl ⟨by rfl,fun w' zk=>by have c:World.cell? w' ⟨b11,71,none⟩=some (.int .i64 (a:Int)):=(qa w' zk).cell x3.out q9.1;go_simp⟩) Y ?_;refine tna 14 (.int .i64 (j:Int)) rfl Y ?_;refine tnb 15 (.pointer (some ⟨b11,70,none⟩)) rfl Y ?_;refine tnd 16 (.int .i64 ((l+1:Nat):Int)) rfl (.inl ⟨by rfl,fun w' zk=>by have c:World.cell? w' ⟨b11,70,none⟩=some (.int .i64 ((l+1:Nat):Int)):=(qa w' zk).cell xg.out q9.1;go_simp⟩) Y ?_;refine tnd 17 (.int .i64 (l:Int)) rfl (.inl ⟨by rfl,fun _ _=>by go_simp;exact IntWalk.i64_in _ (by omega)⟩) Y ?_;refine wA9 18 ?_;go_wp2_with fail;refine((by rw[←HW.out];exact vJ wr l (by omega):Ka wr (aH wr (.int .i64 (W:Int))))).mono ?_;rintro e ws ⟨rfl,d⟩;have qy:=zo.out _ ((qa _ Y).trans d.any);replace f:=kL f d;replace P:=O (P.keep0 d);replace qe:=O (d.rangeAt qe.out);replace qf:=O (d.rangeAt qf.out);replace H7:=O (d.cell H7.out id);replace H8:=O (d.cell H8.out id);clear Y d;go_wp2_with fail;refine⟨qy,?_⟩;refine tnd 19 (.int .i64 (jw:Int)) rfl (.inl ⟨by rfl,fun _ _=>by go_simp;exact IntWalk.i64_in _ (by omega)⟩) qy ?_;refine tnd 20 (.int .i64 (aj:Int)) rfl (.inl ⟨by rfl,fun _ _=>by go_simp;exact IntWalk.i64_in _ (by omega)⟩) qy ?_;refine tnd 21 (.agg yc.toArray) rfl (fC 85 #[(0,.tmp 87),(1,.tmp 91),(2,.tmp 94),(3,.tmp 103)] [(0,.agg rc.toArray),(1,.agg tc.toArray),(2,.int .i64 (l:Int)),(3,.int .i64 (aj:Int))] (.agg yc.toArray) vx.out) qy ?_;refine wA9 22 ?_;refine bsA 86 85 (.tmp 104) underlying86 Ay (by omega) yc x2 (by omega) ?_;intro xd wt z d U;have xq:=zo.out _ ((qa _ qy).trans d.any);have zd:Hid (Rd wt 72 (.slice xd 1 1) 1 yc):=O (dX (n:=1) (size:=72) U (by rw[x2]) (by unfold maxLen;omega));replace f:=kL f d;replace P:=O (P.keep0 d);replace qe:=O (d.rangeAt qe.out);replace qf:=O (d.rangeAt qf.out);replace H7:=O (d.cell H7.out id);replace H8:=O (d.cell H8.out id);clear z d U qy;refine wpList_nil ?_;refine⟨xq,?_⟩;refine wA9 23 ?_;have ql:Hid (A.length+k+1≤maxLen/\(A.length+k+1)*160≤140737488355328/\w.heap.size≤wt.heap.size):=O ⟨by have:=x7.out;unfold maxLen;omega,by have:=x7.out;omega,P.keep.size⟩;refine aM rfl (.tmp 83) (.tmp 105) 86 rfl w.heap.size 85 (.agg Bz.toArray) 72 160 underlying86 Ay rfl (by decide) (.slice ka kn qk) (A.length+k) ((A++gY e l vs us k).flatMap jF) rfl P.stk (.slice xd 1 1) 1 yc rfl zd.out ue.out ql.1 ql.2.1 ql.2.2 ?_;intro v2 wu qo qz xw zf;obtain⟨vr,vt,rfl,-,-⟩:=(Rd.of_owns qo).form;have xr:=zo.out _ ((qa _ xq).trans qz);have v6:=O (P.push (j:=j) v3.out (aA.refl _ _) (by rw[v1.out,uq.out];exact qo) qz zf);clear xq qo qz xw zf zd P qe qf H7 H8 f;refine wpList_nil ?_;refine⟨xr,?_⟩;refine tna 24 (.slice vr (A.length+k+1) vt) rfl xr ?_;refine wpAnyH_done (by kernel_rfl) ?_ _;clear xr qa zo v5 uk xa xb xg x3;go_wp2
        go_roundw
        case rel=>exact⟨k+1,j,A.length+k+1,vr,vt,(j:Int)-1,by omega,rfl,by go_num,rfl,v6⟩
        case measure=>simp[intOf]<;>omega
structure rL(w:World)(v:Value)(qs:List (Value×Pt)):Prop where
 rd:Rd w 35 v qs.length (qs.flatMap fun x=>aE x.1 x.2)
 at_:∀x∈qs,PtV w x.1 x.2
theorem rL.keep0(h:rL w v qs)(k:aA aB w w'):rL w' v qs:=⟨h.rd.keep k fun _ _=>id,fun x d=>(h.at_ x d).keep k fun _ _=>id⟩
def gW(qs:List (Value×Pt)):List Ad:=qs.flatMap fun x=>x.2.addrs
theorem Dk{x:Value×Pt}(h:qs[k]?=some x):gW (qs.take (k+1))=gW (qs.take k)++x.2.addrs:=by
 unfold gW;rw[List.take_add_one,h,List.flatMap_append];simp
theorem Hg(h:∀x∈qs,x.2.addrs.length≤20):(gW qs).length≤20*qs.length:=by
 induction qs with
 | nil=>exact Nat.zero_le _
 | cons x qs f =>
   have d:=f fun y e=>h y (List.mem_cons_of_mem _ e)
   have i:=h x (List.mem_cons_self ..);unfold gW at d ⊢;rw[List.flatMap_cons,List.length_append,List.length_cons];omega
theorem rL.ok(h:rL w v qs):kR (gW qs):=fun a e=>by
 obtain⟨x,f,d⟩:=List.mem_flatMap.1 e;exact(h.at_ x f).ads a d
theorem Pq:(prog.info? 59).map (fun i=>(i.zero,i.size,i.bytes))=some (some (.agg #[.int .i64 0,.int .i64 0]),2,16):=by kernel_rfl
theorem BB(w:World)(v:Value)(qs:List (Value×Pt))(h:rL w v qs)(hq:qs.length≤1000)(h8:∀x∈qs,x.2.addrs.length≤20):Calls prog 11 #[v] w (nD w (iB (gW qs))):=by
 obtain⟨va,vc,rfl,-,-⟩:=h.rd.form;obtain⟨q,M⟩:=zX9 qs.length
 have C:=O M;have HP:=O h;have H8:=O h8;have HQ:=O hq;rw[M] at hq ⊢;clear h h8 M;go_in;go_wp2_with fail
 go_loopw [3,8] (fun a i wr=>∃(k m:Nat) (U:Option Addr) (pc:Nat),k≤q/\i=.int .i64 (k:Int)/\a=.slice U m pc/\Hid ((gW (qs.take k)).length=m)/\Hid (aA aB w wr)/\Hid (wr.ownsRow w.heap.size 59 2 (.slice U m pc) m (aR (gW (qs.take k))))) (fun _ i _=>q-(intOf i).toNat)
 case atStart=>exact⟨0,0,none,0,by omega,rfl,rfl,O rfl,O (aA.refl _ _),O (World.ownsRow_nil _ _ _ _)⟩
 case round =>
  obtain⟨k,m,U,z,r,rfl,rfl,HM,V,I⟩:=hrel
  by_cases qb:k<q
  ·have J:(0:Int)≤(k:Int):=by omega
   have qr:(k:Int)<(q:Int):=by omega
   obtain⟨x,hx⟩:∃x,qs[k]?=some x:=⟨qs[k]'(by rw[C.out];exact qb),List.getElem?_eq_getElem (by rw[C.out];exact qb)⟩
   have P:=List.mem_of_getElem? hx;have hP:=HP.keep0 V.out;have L:=hP.at_ x P;obtain⟨g,o,cap,he,hr⟩:=yN (f:=fun(x:Value×Pt)=>aE x.1 x.2) (s:=35) (fun y hy=>aF (hP.at_ y hy).sum) (by decide) hP.rd hx;rw[C.out] at he;injection he with qm qn qo
   subst qm;obtain⟨⟨pv,p⟩,rfl⟩:∃y,y=x:=⟨_,rfl⟩
   have j:Hid (PtV wr pv p):=O L;have HX:=O hx;have Y:Hid (p.addrs.length≤20):=O (H8 _ P);have D:=aF (v:=pv) L.sum;obtain⟨pc,d⟩:=zX9 (aE pv p)
   have qj:Hid (∀u∈pc,u.oneCell'=true):=O (by rw[←d];exact aL j.out);have qk:=O d;have N:wr.rangeAt g (o+k*35) (aE pv p):=hr;rw[d] at N D;have Q:=O N;have W:=lN wr;clear hx P hP L hr N d qn qo
   go_wp2_with (first
    | refine ldP g (o+k*35) pc Q.out D ?_
    | refine alA aZ ?_)
   intro b5 wb Z J F
   go_wp2_with refine stW F D aG (szP9 D) qj.out ?_
   intro wc r hb;replace r:=tX J r (fun i hi e=>by omega);replace W:=lW W Z r hb;replace j:=O (j.keep r fun _ _=>id);replace Q:=O (r.rangeAt Q.out);replace I:=O (r.owns I.out fun _ _=>id);clear Z r hb J F;clear Q;obtain⟨qe,qf,qq,-,-⟩:=j.rd.form;subst qq;have H:=O (V.trans W.keep)
   have X:Hid (m≤20000):=O (by
    have E:=Hg (qs:=qs.take k) fun y hy=>H8.out y (List.mem_of_mem_take hy)
    rw[HM.out,List.length_take] at E;have R:=HQ.out;omega)
   have G:Hid (m+p.addrs.length≤maxLen/\(m+p.addrs.length)*16≤140737488355328/\w.heap.size≤wc.heap.size):=O ⟨by have E:=X.out;have R:=Y.out;unfold maxLen;omega,by have E:=X.out;have R:=Y.out;omega,H.size⟩;have c1:wc.cell? ⟨b5,0,none⟩=some (.slice qe p.addrs.length qf):=(aC (i:=0) (W.b 0) (by rw[←qk.out];rfl))
   go_wp2_with (first
    | (at_builtin;refine aM rfl (.tmp 12) (.tmp 14) 26 rfl w.heap.size 59 (.agg #[.int .i64 0,.int .i64 0]) 2 16 underlying26 Pq rfl (by decide) (.slice U m z) m (aR (gW (qs.take k))) rfl I.out (.slice qe p.addrs.length qf) p.addrs.length (aR p.addrs) rfl j.rd (zA _) G.1 G.2.1 G.2.2 ?_))
   clear c1;intro v2 w8 K qa qp ql;obtain⟨qc,qd,rfl,-,-⟩:=(Rd.of_owns K).form;have qi:Hid ((gW (qs.take (k+1))).length=m+p.addrs.length):=O (by rw[Dk HX.out,List.length_append,HM.out]);have A:Hid (w8.ownsRow w.heap.size 59 2 (.slice qc (m+p.addrs.length) qd) (m+p.addrs.length) (aR (gW (qs.take (k+1))))):=O (by rw[Dk HX.out,nC];exact K);have qg:=O (H.tT qa fun i hi e=>by have E:=aW I.out e;omega);clear K qa qp ql I j V H W;go_wp2
   go_roundw
   case rel=>exact⟨k+1,m+p.addrs.length,qc,qd,by omega,by go_num,rfl,qi,qg,A⟩
   case measure=>simp[intOf];omega
  ·obtain rfl:k=q:=by omega
   have A:Hid (wr.ownsRow w.heap.size 59 2 (.slice U m z) (gW qs).length (aR (gW qs))):=O (by
    have E:=I.out;have R:=HM.out;rw[List.take_of_length_le (by rw[C.out];exact Nat.le_refl _)] at E R;rw[R];exact E)
   have qh:Hid ((gW qs).length≤65536):=O (by
    have E:=Hg H8.out;have R:=HQ.out;omega)
   clear I HM;go_wp2_with fail;refine(L6 wr (.slice U m z) (gW qs) HP.ok (Rd.of_owns A.out) qh.out).mono ?_;rintro e w9 ⟨v9,rfl,ho,r⟩;have Q:Hid (nD w (iB (gW qs)) (.returned v9) w9):=O ⟨v9,rfl,bA ho V.size,V.trans r⟩;clear ho r A;go_wp2;go_ret;exact Q.out
def xZ(qs:List (Value×Pt)):List Value:=qs.map fun x=>.int .i64 x.2.level
def Hh(w:World)(qs:List (Value×Pt))(e:Ending)(w':World):Prop:=∃v,e=.returned v/\w'.ownsRow w.heap.size 3 1 v qs.length (xZ qs)/\aA aB w w'
theorem BC(w:World)(v:Value)(qs:List (Value×Pt))(h:rL w v qs)(hq:qs.length≤1000):Calls prog 16 #[v] w (Hh w qs):=by
 obtain⟨va,vc,rfl,-,-⟩:=h.rd.form;obtain⟨q,E⟩:=zX9 qs.length
 have d:=O E;have HP:=O h;have HQ:=O hq;rw[E] at hq ⊢;clear h E;go_in;go_wp2_with fail
 go_loopw [3,4] (fun a i wr=>∃(k:Nat) (P:Option Addr) (pc:Nat),k≤q/\i=.int .i64 (k:Int)/\a=.slice P k pc/\Hid (aA aB w wr)/\Hid (wr.ownsRow w.heap.size 3 1 (.slice P k pc) k (xZ (qs.take k)))) (fun _ i _=>q-(intOf i).toNat)
 case atStart=>exact⟨0,none,0,by omega,rfl,rfl,O (aA.refl _ _),O (World.ownsRow_nil _ _ _ _)⟩
 case round =>
  obtain⟨k,P,r,L,rfl,rfl,R,A⟩:=hrel
  by_cases N:k<q
  ·have qe:(0:Int)≤(k:Int):=by omega
   have qf:(k:Int)<(q:Int):=by omega
   obtain⟨x,hx⟩:∃x,qs[k]?=some x:=⟨qs[k]'(by rw[d.out];exact N),List.getElem?_eq_getElem (by rw[d.out];exact N)⟩
   have Y:=HP.keep0 R.out;obtain⟨g,o,cap,he,hr⟩:=yN (f:=fun(x:Value×Pt)=>aE x.1 x.2) (s:=35) (fun y hy=>aF (Y.at_ y hy).sum) (by decide) Y.rd hx;rw[d.out] at he;injection he with qa qb qc
   subst qa;have HX:=O hx;obtain⟨lv,C⟩:=zX9 x.2.level
   have Q:Hid (wr.cell? ⟨g,o+k*35+2,none⟩=some (.int .i64 lv)):=O (hr 2 _ (by rw[←C];rfl));have V:=O C;have G:=lN wr;clear hx Y hr qb qc C;have c1:wr.cell? ⟨g,o+k*35+2,none⟩=some (.int .i64 lv):=Q.out
   go_wp2_with ((with_reducible show WL _ _);refine bs1 48 3 (.tmp 16) (.int .i64 lv) (by kernel_rfl) (by kernel_rfl) underlying48 rfl ?_)
   clear c1;intro J wb K L hb;replace G:=lW G K L hb;replace A:=O (L.owns A.out fun _ _=>id);replace Q:=O (L.cell Q.out id);clear K L hb;have m:Rd wb 1 (.slice J 1 1) 1 [.int .i64 lv]:=dX (n:=1) (size:=1) (G.b 0) rfl (by unfold maxLen;omega);have j:=O m;have I:=A;have z:=O G.keep;clear m
   go_wp2_with (first
    | (at_builtin;refine aM rfl (.tmp 11) (.tmp 17) 48 rfl w.heap.size 3 (.int .i64 0) 1 8 underlying48 E0 rfl (by decide) (.slice P k r) k (xZ (qs.take k)) rfl A.out (.slice J 1 1) 1 [.int .i64 lv] rfl j.out (by intro u hu;rcases List.mem_singleton.1 hu with rfl;rfl) (by unfold maxLen;omega) (by omega) (Nat.le_trans R.size z.size) ?_))
   intro v2 w8 D M qd Z;obtain⟨g2,c2,rfl⟩:=ownsRow_succ D;have H:=O D;have F:=O M;clear D M qd Z j G A Q;go_wp2_with fail
   have W:Hid (w8.ownsRow w.heap.size 3 1 (.slice g2 (k+1) c2) (k+1) (xZ (qs.take (k+1)))):=O (by
    have e:xZ (qs.take (k+1))=xZ (qs.take k)++[.int .i64 lv]:=by
     unfold xZ;rw[List.take_add_one,HX.out,List.map_append,←V.out];rfl
    rw[e];exact H.out)
   have U:=O (Ak R.out I.out z.out F.out);clear H F I z
   go_roundw
   case rel=>exact⟨k+1,some ⟨g2,0,none⟩,c2,by omega,by go_num,rfl,U,W⟩
   case measure=>simp[intOf];omega
  ·obtain rfl:k=q:=by omega
   have X:Hid (Hh w qs (.returned (.slice P k r)) wr):=O ⟨_,rfl,by have h1:=A.out;rw[List.take_of_length_le (by rw[d.out];exact Nat.le_refl _)] at h1;rw[d.out];exact h1,R.out⟩;clear A;go_wp2;go_ret;exact X.out
theorem FA(o:S.Bd){b:List UInt8}(r:b≠zB){u:Tr}(h:S.leaf b=(some u,T)):∃p,u=.leaf p b/\p.birth=S.txg+1/\p.level=0/\p.addrs.length=S.cp:=by
 unfold Kor.leaf at h;rw[if_neg r] at h;cases e:S.put 0 b with
 | none=>rw[e] at h;injection h with d m;cases d
 | some x =>
   obtain⟨p,U⟩:=x;rw[e] at h;injection h with d m
   injection d with d
   obtain⟨f,i,j⟩:=Bt o e;exact⟨p,d.symm,i,j,f⟩
theorem NI(r:S.Bd){k:Nat->Tr}{u:Tr}(h:S.lay l k=(some u,T))(y:u≠.hole):∃p,u=.node p k/\p.birth=S.txg+1/\p.level=(l:Int)/\p.addrs.length=S.cp:=by
 unfold Kor.lay at h
 by_cases i:gK k=true
 ·rw[if_pos i] at h
  injection h with d f
  injection d with d
  exact absurd d.symm y
 ·rw[if_neg i] at h
  cases e:S.put l (cX l (fI k)) with
  | none=>rw[e] at h;injection h with d f;cases d
  | some x =>
    obtain⟨p,U⟩:=x;rw[e] at h;injection h with d f
    injection d with d
    obtain⟨j,m,o⟩:=Bt r e;exact⟨p,d.symm,m,o,j⟩
theorem oC(I:l≤2)(r:S.Bd){t:Tr}(y:Tr.Ok S (l+1) t){b:List UInt8}(i:b.length=256)(F:b≠zB){u:Tr}(h:eD (l+1) S t n b=(some u,T)) :
 ∃z A p,eD l S (t.kid (n / 4 ^ l % 4)) n b=(some z,A)/\u=.node p (eN t.kid (n / 4 ^ l % 4) z)/\p.birth=S.txg+1/\p.level=((l+1:Nat):Int)/\p.addrs.length=S.cp:=by
 have m:=(qI i n (by omega) r y h).2 u rfl
 have j:u≠.hole:=fun e=>by
  have f:=m.2.1 n;rw[if_pos rfl,e,Tr.blk_hole] at f;exact F f.symm
 unfold eD at h;cases x:eD l S (t.kid (n / 4 ^ l % 4)) n b with
 | mk G C =>
   rw[x] at h;cases G with
   | none=>injection h with f o;cases f
   | some H =>
     have d:=(qI i n (by omega) r (y.kid (eO n l)) x).1;obtain⟨p,f,o,D,E⟩:=NI d.bd h j;exact⟨H,C,p,rfl,f,by rw[o,d.txg],D,by rw[E,d.ext.cp]⟩
structure NJ(u1 u2:Tr):Prop where
 lv1:(cR 3 u1).map (·.level)=[3,2,1,0]
 len1:∀x∈cR 3 u1,x.addrs.length=2
 b1:bks (aV 1) 3 u2 0=[6]
 s1:((thr (aV 1) 3 u2 0).map (·.1)).map (·.level)=[3,2,1,0]
 s2:thr (aV 2) 3 u2 0=[]
 b0:bks (aV 0) 3 u2 0=[5,6]
 un:unl 3 u1 u2 0=[6]
 uh:unl 3 u1 .hole 0=[5]
theorem kM(h:p.birth≠q.birth):p.eqB q=false:=by
 cases e:p.eqB q with
 | false=>rfl
 | true=>exact absurd (congrArg Pt.birth (A6 e)) h
theorem Rc{j:Kor}(m:S.Bd)(e:j.Bd)(h:S.txg=0)(L:j.txg=1)(K:S.cp=2){b:List UInt8}(d:b.length=256)(f:b≠zB){r u2:Tr}{T1 T2:Kor}(h1:eD 3 S .hole 5 b=(some r,T1))(o:Tr.Ok j 3 r)(h2:eD 3 j r 6 b=(some u2,T2)):NJ r u2:=by
 obtain⟨a2,A2,p3,Z,rfl,J,g3,l3⟩:=oC (by omega) m (Tr.ok_hole S 3) d f h1;obtain⟨a1,A1,p2,Y,rfl,I,g2,l2⟩:=oC (by omega) m (Tr.ok_hole S 2) d f Z;obtain⟨a0,A0,p1,X,rfl,H,g1,N⟩:=oC (by omega) m (Tr.ok_hole S 1) d f Y;obtain⟨p0,rfl,G,g0,M⟩:=FA m f X;obtain⟨c2,C2,q3,W,rfl,F,U,L3⟩:=oC (by omega) e o d f h2;obtain⟨c1,C1,q2,d2,rfl,E,R,L2⟩:=oC (by omega) e (o.kid (i:=0) (by omega)) d f W;obtain⟨c0,C0,q1,V,rfl,D,Q,L1⟩:=oC (by omega) e ((o.kid (i:=0) (by omega)).kid (i:=1) (by omega)) d f d2;obtain⟨q0,rfl,C,P,L0⟩:=FA e f V;clear X Y Z V d2 W h1 h2 o;rw[h] at G H I J;rw[L] at C D E F;rw[K] at M N l2 l3;clear L0 L1 L2 L3;obtain⟨A3,B3,V3,X3⟩:=p3;obtain⟨A,B2,V2,X2⟩:=p2;obtain⟨z,B1,V1,X1⟩:=p1;obtain⟨y,B0,V0,X0⟩:=p0;obtain⟨a3,b3,v3,x3⟩:=q3;obtain⟨a2,b2,v2,x2⟩:=q2;obtain⟨a1,b1,v1,x1⟩:=q1;obtain⟨a0,b0,v0,x0⟩:=q0;simp only at G H I J C D E F g0 g1 g2 g3 P Q R U M N l2 l3;subst G H I J C D E F g0 g1 g2 g3 P Q R U;refine⟨rfl,?_,rfl,rfl,rfl,rfl,?_,?_⟩
 ·intro x h
  have h:x∈[(⟨A3,0+1,((2+1:Nat):Int),X3⟩:Pt),⟨A,0+1,((1+1:Nat):Int),X2⟩,⟨z,0+1,((0+1:Nat):Int),X1⟩,⟨y,0+1,0,X0⟩]:=h;simp only[List.mem_cons,List.not_mem_nil,or_false] at h;rcases h with rfl|rfl|rfl|rfl
  ·exact l3
  ·exact l2
  ·exact N
  ·exact M
 ·rw[iK,kM (by show (0+1:Int)≠1+1;decide),if_neg (by decide)]
  show unl 2 _ _ _++(unl 2 .hole .hole _++(unl 2 .hole .hole _++(unl 2 .hole .hole _++[])))=[6];simp only[mA,List.append_nil];rw[iK,kM (by show (0+1:Int)≠1+1;decide),if_neg (by decide)];show unl 1 .hole .hole _++(unl 1 _ _ _++(unl 1 .hole .hole _++(unl 1 .hole .hole _++[])))=[6];simp only[mA,List.nil_append,List.append_nil];rw[iK,kM (by show (0+1:Int)≠1+1;decide),if_neg (by decide)];show unl 0 .hole .hole _++(unl 0 (.leaf _ b) (.leaf _ b) _++(unl 0 .hole (.leaf _ b) _++(unl 0 .hole .hole _++[])))=[6];simp only[mA,List.nil_append,List.append_nil];rw[nZ,kM (by show (0:Int)≠1+1;decide),if_neg (by decide)]
 ·rw[iK,kM (by show (0+1:Int)≠0;decide),if_neg (by decide)]
  show unl 2 _ .hole _++(unl 2 .hole .hole _++(unl 2 .hole .hole _++(unl 2 .hole .hole _++[])))=[5];simp only[mA,List.append_nil];rw[iK,kM (by show (0+1:Int)≠0;decide),if_neg (by decide)];show unl 1 .hole .hole _++(unl 1 _ .hole _++(unl 1 .hole .hole _++(unl 1 .hole .hole _++[])))=[5];simp only[mA,List.nil_append,List.append_nil];rw[iK,kM (by show (0+1:Int)≠0;decide),if_neg (by decide)];show unl 0 .hole .hole _++(unl 0 (.leaf _ b) .hole _++(unl 0 .hole .hole _++(unl 0 .hole .hole _++[])))=[5];simp only[mA,List.nil_append,List.append_nil];rw[nZ,kM (by show (0+1:Int)≠0;decide),if_neg (by decide)]
theorem FB{α:Type}[DecidableEq α]:∀{l m:List α},l.Nodup->(∀x∈l,x∈m)->l.length≤m.length
 | [],m,_,_=>Nat.zero_le _
 | x::l,m,o,d=>by
   obtain⟨i,j⟩:=List.nodup_cons.1 o;have f:=d x (List.mem_cons_self ..);have:=FB (l:=l) (m:=m.erase x) j fun y h=>(List.mem_erase_of_ne fun e=>i (by rw[←e];exact h)).2 (d y (List.mem_cons_of_mem _ h))
   rw[List.length_erase_of_mem f] at this;have r:0<m.length:=List.length_pos_of_mem f;rw[List.length_cons];omega
theorem zO{l:List Ad}(h:l.Nodup):(iB l).length=l.length:=
 Nat.le_antisymm (Cv l) (FB h fun x d=>wM.2 d)
theorem Az{t:Tr}(h:qs.map (·.2)=cR l t):gW qs=eH l t:=by
 unfold gW eH;rw[show (qs.flatMap fun x=>x.2.addrs)=(qs.map (·.2)).flatMap fun p=>p.addrs by rw[List.flatMap_map],h];unfold cR;rw[List.flatMap_map]
theorem AA:∀{l:List Pt},(∀x∈l,x.addrs.length=2)->(l.flatMap fun p=>p.addrs).length=2*l.length
 | [],_=>rfl
 | x::l,h=>by
   have:=AA fun y d=>h y (List.mem_cons_of_mem _ d)
   rw[List.flatMap_cons,List.length_append,this,h x (List.mem_cons_self ..),List.length_cons];omega
theorem NT(p:Pt):p.eqB p=true:=by unfold Pt.eqB;simp
theorem Gx(w:World)(v u:Value)(qs rs:List (Value×Pt))(h:rL w v qs)(h2:rL w u rs)(J:qs.map (·.2)=rs.map (·.2))(hq:qs.length≤1000):Calls prog 13 #[v,u] w (aN w true):=by
 obtain⟨va,vc,rfl,-,-⟩:=h.rd.form;obtain⟨ua,uc,rfl,-,-⟩:=h2.rd.form;obtain⟨q,Y⟩:=zX9 qs.length
 have Z:rs.length=q:=by have:=congrArg List.length J;simp only[List.length_map] at this;omega
 have Q:=O Y;have R:=O Z;have HP:=O h;have HQ:=O h2;have HE:=O J;rw[Y] at hq ⊢;rw[Z];clear h h2 J Y Z;go_in;go_wp2_with fail
 go_loopw [5] (fun i wr=>∃k:Nat,k≤q/\i=.int .i64 (k:Int)/\Hid (aA aB w wr)) (fun i _=>q-(intOf i).toNat)
 case atStart=>exact⟨0,by omega,rfl,O (aA.refl _ _)⟩
 case round =>
  obtain⟨k,K,rfl,G⟩:=hrel
  by_cases L:k<q
  ·have qo:(0:Int)≤(k:Int):=by omega
   have qp:(k:Int)<(q:Int):=by omega
   obtain⟨⟨pv,p⟩,M⟩:∃x,qs[k]?=some x:=⟨qs[k]'(by rw[Q.out];exact L),List.getElem?_eq_getElem (by rw[Q.out];exact L)⟩
   have E:=List.mem_of_getElem? M;have I:=HP.keep0 G.out;have d:Hid (PtV wr pv p):=O (I.at_ _ E);obtain⟨g,o,cap,J,hr⟩:=yN (f:=fun(x:Value×Pt)=>aE x.1 x.2) (s:=35) (fun y hy=>aF (I.at_ y hy).sum) (by decide) I.rd M;rw[Q.out] at J;injection J with V W X
   subst V;have qe:=O M;have qg:=aF (v:=pv) d.sum;obtain⟨pc,z⟩:=zX9 (aE pv p)
   have qm:Hid (∀u∈pc,u.oneCell'=true):=O (by rw[←z];exact aL d.out);have qk:=O z;have r:wr.rangeAt g (o+k*35) (aE pv p):=hr;rw[z] at r qg;have C:=O r;clear M E I hr r z W X;obtain⟨⟨qv,p2⟩,M⟩:∃x,rs[k]?=some x:=⟨rs[k]'(by rw[R.out];exact L),List.getElem?_eq_getElem (by rw[R.out];exact L)⟩
   have E:=List.mem_of_getElem? M;have I:=HQ.keep0 G.out;have j:Hid (PtV wr qv p2):=O (I.at_ _ E);obtain⟨g2,o2,cap,J,hr⟩:=yN (f:=fun(x:Value×Pt)=>aE x.1 x.2) (s:=35) (fun y hy=>aF (I.at_ y hy).sum) (by decide) I.rd M;rw[R.out] at J;injection J with V W X
   subst V;have qf:=O M;have qh:=aF (v:=qv) j.sum;obtain⟨qc,A⟩:=zX9 (aE qv p2)
   have qn:Hid (∀u∈qc,u.oneCell'=true):=O (by rw[←A];exact aL j.out);have ql:=O A;have r:wr.rangeAt g2 (o2+k*35) (aE qv p2):=hr;rw[A] at r qh;have D:=O r;clear M E I hr r A W X
   obtain rfl:p=p2:=by
    have h1:(qs.map (·.2))[k]?=some p:=by rw[List.getElem?_map,qe.out];rfl
    have h2:(rs.map (·.2))[k]?=some p2:=by rw[List.getElem?_map,qf.out];rfl
    rw[HE.out,h2] at h1;exact(Option.some.inj h1).symm
   have HL:=lN wr;go_wp2_with fail;go_wp2_with fail;refine dwA aB (by kernel_rfl) ?_;intro wb S H qd F m;replace HL:=kL HL m;replace d:=O (d.keep m fun _ _=>id);replace j:=O (j.keep m fun _ _=>id);replace C:=O (m.rangeAt C.out);replace D:=O (m.rangeAt D.out);replace G:=O (G.trans m);clear m;have qj:=HL;have qa:=d;have qb:=j;have N:=C;have P:=D;have qi:=G;refine tna 0 (.slice (some ⟨g,o,none⟩) q vc) rfl F ?_;refine tna 1 (.int .i64 (k:Int)) rfl F ?_;refine tnb 2 (.pointer (some ⟨g,o+k*35,none⟩)) rfl F ?_;refine tnd 3 (.agg pc.toArray) rfl (yieldsIf_load_mid (by rfl) 30 (.tmp 19) rfl g (o+k*35) rfl pc _ (fun w' h=>(H w' h).rangeAt N.out) aI rfl (szP9 qg)) F ?_;refine tna 4 (.slice (some ⟨g2,o2,none⟩) q uc) rfl F ?_;refine tna 5 (.int .i64 (k:Int)) rfl F ?_;refine tnb 6 (.pointer (some ⟨g2,o2+k*35,none⟩)) rfl F ?_;refine tnd 7 (.agg qc.toArray) rfl (yieldsIf_load_mid (by rfl) 30 (.tmp 23) rfl g2 (o2+k*35) rfl qc _ (fun w' h=>(H w' h).rangeAt P.out) aI rfl (szP9 qh)) F ?_;refine wA9 8 ?_;go_wp2_with fail;refine((by rw[←qk.out,←ql.out];exact Kb wb pv qv p p d.out j.out:Ka wb (aN wb (p.eqB p)))).mono ?_;rintro e wc ⟨rfl,K⟩;have U:=qd.out _ ((H _ F).trans K);replace HL:=kL HL K;replace d:=O (d.keep K fun _ _=>id);replace j:=O (j.keep K fun _ _=>id);replace C:=O (K.rangeAt C.out);replace D:=O (K.rangeAt D.out);replace G:=O (G.trans K);clear F K;rw[NT];go_wp2_with fail;refine⟨U,?_⟩;refine tnb 9 (.bool false) rfl U ?_;refine wpAnyH_done (by kernel_rfl) ?_ _;clear U H qd qj qa qb N P qi;clear HL;go_wp2
   go_roundw
   case rel=>exact⟨k+1,by omega,by go_num,G⟩
   case measure=>simp[intOf];omega
  ·obtain rfl:k=q:=by omega
   go_wp2;go_ret;exact⟨rfl,G.out⟩
def kO(w:World)(cv:Value)(pc:List Value)(e:Int):Prop:=∀w',aA aB w w'->∀b,w'.heap[b]?=some (.cells pc.toArray 30 (0,0))->Calls prog 36 #[cv,.slice (some ⟨b,0,none⟩) 1 1] w' (aH w' (.int .i64 e))
theorem kO.keep0{e:Int}(h:kO w cv pc e)(k:aA aB w w'):kO w' cv pc e:=fun w2 f b d=>h w2 (k.trans f) b d
theorem Gz(N:KI w c S B)(pv:Value)(p:Pt)(E:PtV w pv p)(U:p.hole=false)(W:p.may=true)(V:¬p.level=3)(P:w.heap[g]?=some (.cells (aE pv p).toArray 30 (0,0))):Calls prog 36 #[.pointer c,.slice g 1 1] w (aH w (.int .i64 2)):=by
 have F:=O (by have:=N.bd.c1;omega:¬((S.cp:Nat):Int)=0);have J:=O N;have z:=O E;have X:=O U;have Y:=O W;have Z:=O V;have m:=aF (v:=pv) E.sum;have o:=aL E;obtain⟨pc,h⟩:=zX9 (aE pv p)
 have L:Hid (∀u∈pc,u.oneCell'=true):=O (by rw[←h];exact o);have M:=O h;rw[h] at m P;have G:=O P;have A:=z;have H:=G;clear o h P E U W V N;have j:=lN w;go_in;go_wp2_with fail;refine((KI.copies J.out:Ka w (aH w (.int .i64 (S.cp:Int))))).mono ?_;rintro e w1 ⟨rfl,f⟩;replace j:=kL j f;replace J:=O (KI.keep0 J.out f);replace z:=O (z.keep f fun _ _=>id);replace G:=O (f.blk G.out id);clear f;have x:=F.out;have d0:decide (((S.cp:Nat):Int)=0)=false:=decide_eq_false x;have d1:(((S.cp:Nat):Int) == 0)=false:=by rw[beq_eq_false_iff_ne];exact x
 go_wp2_with fail
 go_loopw [13] (fun i wr=>i=.int .i64 0/\Hid (aA aB w wr)) (fun i _=>1-(intOf i).toNat)
 case atStart=>exact⟨rfl,O j.keep⟩
 case round =>
 clear j;obtain⟨rfl,y⟩:=hrel;have j:=lN wr;have d:=O (A.keep y.out fun _ _=>id);have I:=O (y.blk H.out id)
 go_wp2_with (first
  | refine ldP g 0 pc (aD I.out) m ?_
  | refine alA aZ ?_)
 intro b6 wl C D r
 go_wp2_with refine stW r m aG (szP9 m) L.out ?_
 intro Q f R;replace f:=tX D f (fun i hi e=>by omega);replace j:=lW j C f R;replace d:=O (d.keep f fun _ _=>id);clear C f R D r
 go_wp2_with refine ldQ (j.b 0) m ?_
 refine((by rw[←M.out];exact I4 Q pv p d.out X.out Y.out Z.out:Ka Q (aH Q (.int .i64 2)))).mono ?_;rintro e wn ⟨rfl,f⟩;replace j:=kL j f;replace d:=O (d.keep f fun _ _=>id);clear f;have K:=O (y.trans j.keep);go_wp2;go_ret;exact⟨rfl,K.out⟩
theorem NU(d:KI w c S B)(pv:Value)(p:Pt)(j:PtV w pv p)(f:p.hole=false)(i:p.may=true)(h:¬p.level=3):kO w (.pointer c) (aE pv p) 2:=fun w' k b e=>Gz (d.keep0 k) pv p (j.keep k fun _ _=>id) f i h e
theorem FM(z:kO w cv pc 2)(y:cv.cells=#[cv])(o:pc.length=35)(m:∀u∈pc,u.oneCell'=true)(g:Nat):Calls prog 25 #[cv,.agg pc.toArray,nwV g,owV] w (aH w (.tuple #[.slice none 0 0,.int .i64 2])):=by
 have h:=O z;have r:=O y;have C:=O m;have f:=lN w;clear z y m;go_in
 go_wp2_with ((with_reducible show WL _ _);refine bx 24 (.tmp 0) (#[cv]) ?_ (hcs:=r.out))
 intro D w1 i d j;replace f:=lW f i d j;replace h:=O (kO.keep0 h.out d);clear i d j
 go_wp2_with refine bxM f (pc.toArray) ?_
 intro E w2 d f;replace h:=O (kO.keep0 h.out d);clear d
 go_wp2_with refine bxM f (#[nwV g]) ?_
 intro F H d f;replace h:=O (kO.keep0 h.out d);clear d
 go_wp2_with refine bxM f (#[owV]) ?_
 intro G I d f;replace h:=O (kO.keep0 h.out d);clear d;have c1:=cD f 3
 go_wp2_with ((with_reducible show WL _ _);first
  | refine ldQ (f.b 2) o ?_
  | refine bsA 40 30 (.tmp 15) underlying40 lK (by omega) pc o (by omega) ?_)
 clear c1;intro x A i d j;replace f:=lW f i d j;replace h:=O (kO.keep0 h.out d);clear i d j;go_wp2_with fail;refine((h _ (aA.refl _ _) x (f.b 0):Ka A (aH A (.int .i64 2)))).mono ?_;rintro e J ⟨rfl,d⟩;replace f:=kL f d;replace h:=O (kO.keep0 h.out d);clear d;go_wp2
 go_ret2
 exact⟨rfl,f.keep⟩
theorem FN(H:kO w cv pc 2)(G:cv.cells=#[cv])(A:pc.length=35)(z:∀u∈pc,u.oneCell'=true):Calls prog 8 #[cv,.agg pc.toArray] w (aH w (.tuple #[.slice none 0 0,.int .i64 2])):=by
 have j:=O H;have D:=O G;have E:=O z;have i:=lN w;clear H G z;go_in
 go_wp2_with refine bxM i (pc.toArray) ?_
 intro J w1 f i;replace j:=O (kO.keep0 j.out f);clear f;go_wp2_with fail;refine dwA aB (by kernel_rfl) ?_;intro w2 S m o C x;replace i:=kL i x;replace j:=O (kO.keep0 j.out x);clear x;have y:=i;have F:=j;refine tna 0 cv rfl C ?_;refine tnd 1 (.agg pc.toArray) rfl (yieldsIf_load_mid (by rfl) 30 (.tmp 3) rfl J 0 rfl pc _ (fun w' h=>aD ((m w' h).blk (y.b 0) id)) aI rfl (szP9 A)) C ?_;refine wA9 2 ?_;go_wp2_with fail;refine((sC w2 0)).mono ?_;rintro e I ⟨g,rfl,-,-,f⟩;have r:=o.out _ ((m _ C).trans f);replace i:=kL i f;replace j:=O (kO.keep0 j.out f);clear C f;go_wp2_with fail;refine⟨r,?_⟩;refine wA9 3 ?_;go_wp2_with fail;refine((FM j.out D.out A E.out g:Ka I (aH I (.tuple #[.slice none 0 0,.int .i64 2])))).mono ?_;rintro e K ⟨rfl,f⟩;have d:=o.out _ ((m _ r).trans f);replace i:=kL i f;replace j:=O (kO.keep0 j.out f);clear r f;go_wp2_with fail;refine⟨d,?_⟩;refine tnb 4 (.slice none 0 0) rfl d ?_;refine tnb 5 (.int .i64 2) rfl d ?_;refine tna 6 (.slice none 0 0) rfl d ?_;refine tna 7 (.int .i64 2) rfl d ?_;refine wpAnyH_done (by kernel_rfl) ?_ _;clear d m o y F;go_wp2
 go_ret2
 exact⟨rfl,i.keep⟩
end
end Go.Proofs.YtoeinblfcbpcmaaGreat
