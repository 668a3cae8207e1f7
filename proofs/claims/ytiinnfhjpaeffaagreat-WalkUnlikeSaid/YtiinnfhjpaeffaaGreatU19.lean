import Derived.Test.YtiinnfhjpaeffaaGreatU2
import Derived.Great.Walk
import Derived.Great.Ranges
namespace Go.Proofs.YtiinnfhjpaeffaaGreat
set_option maxHeartbeats 0
set_option maxRecDepth 100000
set_option linter.unusedVariables false
section
open Go.RowKit
structure Loc(S B:Nat->Prop)(w0 w:World)(l:List (Nat×Array Value×TypeId)):Prop where
 keep:aA S w0 w
 ge:∀x∈l,w0.heap.size≤x.1
 nd:(l.map (·.1)).Nodup
 at_:∀x∈l,w.heap[x.1]?=some (.cells x.2.1 x.2.2 (0,0))
 ap:∀x∈l,¬B x.1
variable{S B:Nat->Prop}{w0 w w':World}{l:List (Nat×Array Value×TypeId)}{cs:Array Value}{t:TypeId}{a:Act}{P:Program}{ops:Array Oper}{xT:List Oper}{o:Oper}{Q:Exit->Act->World->Prop}
theorem Loc.nil(S B:Nat->Prop)(w:World):Loc S B w w []:=⟨aA.refl _ _,(fun _ h=>by cases h),List.nodup_nil,(fun _ h=>by cases h),(fun _ h=>by cases h)⟩
theorem Loc.b(h:Loc S B w0 w l)(i:Nat){b:Nat}(c:l[i]?=some (b,cs,t):=by rfl):w.heap[b]?=some (.cells cs t (0,0)):=h.at_ _ (List.mem_of_getElem? c)
theorem Loc.lt(h:Loc S B w0 w l)(i:Nat){b:Nat}(c:l[i]?=some (b,cs,t):=by rfl):w0.heap.size≤b/\b<w.heap.size:=⟨h.ge _ (List.mem_of_getElem? c),lt_of_block (h.b i c)⟩
theorem Loc.nin(h:Loc S B w0 w l){x:Nat}(c:B x)(i:Nat){b:Nat}(d:l[i]?=some (b,cs,t):=by rfl):¬b=x:=fun e=>h.ap _ (List.mem_of_getElem? d) (by subst e;exact c)
theorem Loc.keeps(h:Loc S B w0 w l)(k:aA aB w w'):Loc S B w0 w' l:=
 ⟨h.keep.trans k.any,h.ge,h.nd,fun x b=>k.blk (h.at_ x b) id,h.ap⟩
theorem Loc.turn{B':Nat->Prop}(h:Loc S B w0 w l)(k:aA B w w')(d:∀k,k<w0.heap.size->B k->S k)(c:∀k,k<w.heap.size->B' k->B k):Loc S B' w0 w' l:=
 ⟨h.keep.trans' k (fun _ _ h=>h) d,h.ge,h.nd,fun x b=>k.blk (h.at_ x b) (h.ap x b),fun x b e=>h.ap x b (c _ (lt_of_block (h.at_ x b)) e)⟩
theorem Loc.new(h:Loc S B w0 w l)(f:∀k,B k->k<w.heap.size){b:Nat}(g:w.heap.size=b)(k:aA aB w w')(j:w'.heap[b]?=some (.cells cs t (0,0))):Loc S B w0 w' ((b,cs,t)::l):=by
 refine⟨h.keep.trans k.any,?_,?_,?_,?_⟩
 ·intro x c
  rcases List.mem_cons.1 c with rfl|c
  ·exact g▸h.keep.size
  ·exact h.ge x c
 ·rw[List.map_cons,List.nodup_cons]
  refine⟨fun i=>?_,h.nd⟩;obtain⟨x,c,e⟩:=List.mem_map.1 i;have:=lt_of_block (h.at_ x c);simp only at e;omega
 ·intro x c
  rcases List.mem_cons.1 c with rfl|c
  ·exact j
  ·exact k.blk (h.at_ x c) id
 ·intro x c
  rcases List.mem_cons.1 c with rfl|c
  ·intro d
   have:=f _ d;simp only at this;omega
  ·exact h.ap x c
theorem bH:∀{l:List (Nat×Array Value×TypeId)}{i:Nat}{x y:Nat×Array Value×TypeId},(l.map (·.1)).Nodup->l[i]?=some x->∀j,j≠i->l[j]?=some y->y.1≠x.1
 | [],i,x,y,_,h,_,_,_=>by simp at h
 | a::l,0,x,y,b,h,0,d,_=>absurd rfl d
 | a::l,0,x,y,b,h,j+1,_,c=>by
   rw[List.map_cons,List.nodup_cons] at b;simp only[List.getElem?_cons_zero,Option.some.injEq] at h;simp only[List.getElem?_cons_succ] at c;subst h;intro e;exact b.1 (e▸List.mem_map.2 ⟨y,List.mem_of_getElem? c,rfl⟩)
 | a::l,i+1,x,y,b,h,0,_,c=>by
   rw[List.map_cons,List.nodup_cons] at b;simp only[List.getElem?_cons_zero,Option.some.injEq] at c;simp only[List.getElem?_cons_succ] at h;subst c;intro e;exact b.1 (e▸List.mem_map.2 ⟨x,List.mem_of_getElem? h,rfl⟩)
 | a::l,i+1,x,y,b,h,j+1,d,c=>by
   rw[List.map_cons,List.nodup_cons] at b;exact bH b.2 h j (fun e=>d (by rw[e])) c
theorem Loc.set(h:Loc S B w0 w l)(i:Nat){b:Nat}{f:Array Value}(k:aA (fun k=>k=b) w w')(u:w'.heap[b]?=some (.cells f t (0,0)))(q:l[i]?=some (b,cs,t):=by rfl):Loc S B w0 w' (l.set i (b,f,t)):=by
 have g:=List.mem_of_getElem? q;have n:i<l.length:=(List.getElem?_eq_some_iff.1 q).1
 have p:(l.set i (b,f,t)).map (·.1)=l.map (·.1):=by
  apply List.ext_getElem?;intro j;rw[List.getElem?_map,List.getElem?_map,List.getElem?_set]
  by_cases e:i=j
  ·subst e
   rw[if_pos rfl,if_pos n,q];rfl
  ·rw[if_neg e]
 have c:∀x∈l.set i (b,f,t),x=(b,f,t)\/(x∈l/\x.1≠b):=by
  intro x d;obtain⟨j,m⟩:=List.getElem?_of_mem d;rw[List.getElem?_set] at m
  by_cases e:i=j
  ·rw[if_pos e,if_pos n] at m
   exact .inl (Option.some.inj m).symm
  ·rw[if_neg e] at m
   exact .inr ⟨List.mem_of_getElem? m,bH h.nd q j (fun h=>e h.symm) m⟩
 refine⟨h.keep.tT k (fun j m e=>?_),?_,by rw[p];exact h.nd,?_,?_⟩
 ·have:=h.ge _ g
  simp only at this;omega
 ·intro x d
  rcases c x d with rfl|⟨d,-⟩
  ·have r:=h.ge _ g;exact r
  ·exact h.ge x d
 ·intro x d
  rcases c x d with rfl|⟨d,s⟩
  ·exact u
  ·exact k.blk (h.at_ x d) s
 ·intro x d
  rcases c x d with rfl|⟨d,-⟩
  ·have r:=h.ap _ g;exact r
  ·exact h.ap x d
theorem Loc.tail{x:Nat×Array Value×TypeId}(h:Loc S B w0 w (x::l)):Loc S B w0 w l:=
 ⟨h.keep,fun y b=>h.ge y (List.mem_cons_of_mem _ b),by have:=h.nd;rw[List.map_cons,List.nodup_cons] at this;exact this.2,fun y b=>h.at_ y (List.mem_cons_of_mem _ b),fun y b=>h.ap y (List.mem_cons_of_mem _ b)⟩
theorem Ba{parts:Array (Nat×Operand)}{b:List (Nat×Value)}(c:(parts.toList.map fun p=>(p.1,a.eval p.2))=b):(parts.map fun(x:Nat×Operand)=>match x with|(i,x)=>(i,a.eval x))=b.toArray:=by
 rw[←c];apply Array.ext';rw[Array.toList_map,List.toList_toArray]
theorem bld(t:TypeId)(parts:Array (Nat×Operand))(b:List (Nat×Value))(u:Value)(d:∀w,(Instr.build t b.toArray).run P w=.ok u w)(h:wpList P ops Q xT (a.put o.dst u) w)
 (g:(parts.toList.map fun p=>(p.1,a.eval p.2))=b:=by rfl) (e:o.guard=none:=by rfl) (f:o.op=.build t parts:=by rfl):wpList P ops Q (o::xT) a w:=by
 refine wpList_plain e fun K c=>?_
 unfold Oper.wp execOp;simp only[f,Ba g,Sem.run_bind,d,Result.andThen_ok,Sem.run_pure];exact c _ _ h
theorem fI{S:World->Prop}(t:TypeId)(parts:Array (Nat×Operand))(b:List (Nat×Value))(u:Value)(c:∀w,(Instr.build t b.toArray).run P w=.ok u w)
 (e:(parts.toList.map fun p=>(p.1,a.eval p.2))=b:=by rfl) (d:o.op=.build t parts:=by rfl) (f:Region.wanted o (yielded ops a.tmps)=true:=by rfl):YieldsIf P ops S o u a:=
 .inl ⟨f,fun w _=>by
  unfold execOp;simp only[d,Ba e,Sem.run_bind,c,Result.andThen_ok,Sem.run_pure]⟩
theorem al(T:TypeId)(z:Value)(cs:Array Value)(f:Hid (∀w,(zeroValue T).run P w=.ok z w))
 (h:∀b w',w.heap.size=b->aA aB w w'->w'.heap[b]?=some (.cells cs T (0,0))->wpList P ops Q xT (a.put o.dst (.pointer (some ⟨b,0,none⟩))) w') (c:z.cells=cs:=by rfl) (d:o.guard=none:=by rfl) (e:o.op=.alloc T:=by rfl):wpList P ops Q (o::xT) a w:=by
 subst c;exact gK d T e z f.out (h _ _ rfl ((aA.refl _ _).alloc _) (heap_alloc_new _ _))
theorem bx(T:TypeId)(x:Operand)(cs:Array Value)
 (h:∀b w',w.heap.size=b->aA aB w w'->w'.heap[b]?=some (.cells cs T (0,0))->wpList P ops Q xT (a.put o.dst (.pointer (some ⟨b,0,none⟩))) w') (c:(a.eval x).cells=cs:=by rfl) (d:o.guard=none:=by rfl) (e:o.op=.box T x:=by rfl):wpList P ops Q (o::xT) a w:=
 Go.Great.wpList_boxTo d T x e _ rfl _ rfl cs c (h _ _ rfl ((aA.refl _ _).alloc _) (heap_alloc_new _ _))
theorem xG(w:World)(b o:Nat)(f:TypeId)(v:Value)(c:List Value)(n:v.cells=c.toArray)(h:w.there b o c.length)(g:(P.info? f).map (·.size)=some c.length)(k:∀v∈c,v.oneCell'=true) :
 (storeVar f ⟨b,o,none⟩ v).run P w=.ok () (w.setCells b o c):=by
 have:=run_storeCells_cells (P:=P) b o c 0 w (fun j d=>by simpa using (h j d).1) (fun j d=>by simpa using (h j d).2) k;cases e:P.info? f with
 | none=>simp[e] at g
 | some i =>
   have m:c.length=i.size:=by simp[e] at g;omega
   simp only[Nat.add_zero] at this;simp[storeVar,sizeOf,typeInfo,e,n,m,this]
theorem sta{op:Oper}(T:TypeId)(x y:Operand)(b o:Nat)(c:List Value)(d:w.heap[b]?=some (.cells cs t (0,0)))(e:o+c.length≤cs.size)
 (m:(P.info? T).map (·.size)=some c.length) (f:∀v∈c,v.oneCell'=true)
 (h:∀w',aA (fun k=>k=b) w w'->w'.heap[b]?=some (.cells (spl cs o c) t (0,0))->wpList P ops Q xT (a.put op.dst undef) w') (q:a.eval x=.pointer (some ⟨b,o,none⟩):=by rfl) (hy:(a.eval y).cells=c.toArray:=by rfl) (i:op.guard=none:=by rfl) (n:op.op=.store T x y:=by rfl):wpList P ops Q (op::xT) a w:=by
 refine wpList_plain i fun K g=>?_
 have p:w.there b o c.length:=by
  intro j r;refine⟨?_,frozen_of_row w b _ _ _ d⟩;rw[cell_of_row w b _ _ _ _ d];have:o+j<cs.size:=by omega
  simp[this]
 unfold Oper.wp execOp;simp only[n,q,Instr.storeAt,Instr.sureAddr,Sem.run_bind,Sem.run_pure,Result.andThen_ok,xG w b o T _ c hy p m f];exact g _ _ (h _ (aA.setCells (S:=fun k=>k=b) (fun _=>rfl) _ _ _ (aA.refl _ _)) (mQ _ _ _ _ d))
theorem Loc.aq (h:Loc S B w0 w l)(i:Nat){b:Nat}(c:l[i]?=some (b,cs,t):=by rfl):¬B b:=h.ap _ (List.mem_of_getElem? c)
theorem alL (d:Hid (Loc S aB w0 w l))(T:TypeId)(z:Value)(cs:Array Value)(j:Hid (∀w,(zeroValue T).run P w=.ok z w))(h:∀b w',aA aB w w'->Hid (Loc S aB w0 w' ((b,cs,T)::l))->wpList P ops Q xT (a.put o.dst (.pointer (some ⟨b,0,none⟩))) w')(c:z.cells=cs:=by rfl)(f:o.guard=none:=by rfl)(g:o.op=.alloc T:=by rfl):wpList P ops Q (o::xT) a w:=al T z cs j (fun b w' i k e=>h b w' k (Lib.hid (d.new (fun _ h=>h.elim) i k e))) c f g
theorem bxL (d:Hid (Loc S aB w0 w l))(T:TypeId)(x:Operand)(cs:Array Value)(h:∀b w',aA aB w w'->Hid (Loc S aB w0 w' ((b,cs,T)::l))->wpList P ops Q xT (a.put o.dst (.pointer (some ⟨b,0,none⟩))) w')(c:(a.eval x).cells=cs:=by rfl)(f:o.guard=none:=by rfl)(g:o.op=.box T x:=by rfl):wpList P ops Q (o::xT) a w:=bx T x cs (fun b w' i k e=>h b w' k (Lib.hid (d.new (fun _ h=>h.elim) i k e))) c f g
theorem one9 {x:Value}(h:x.oneCell'=true:=by rfl):∀v∈[x],v.oneCell'=true:=fun v b=>by rw[List.mem_singleton] at b;rw[b];exact h
theorem lN(w:World):Hid (Loc aB aB w w []):=O (Loc.nil _ _ w)
theorem lW{b:Nat}(h:Hid (Loc S aB w0 w l))(c:w.heap.size=b)(k:aA aB w w')(d:w'.heap[b]?=some (.cells cs t (0,0))):Hid (Loc S aB w0 w' ((b,cs,t)::l)):=O (h.out.new (fun _ h=>h.elim) c k d)
theorem kL(h:Hid (Loc S B w0 w l))(k:aA aB w w'):Hid (Loc S B w0 w' l):=O (h.out.keeps k)
theorem tX{T:Nat->Prop}{b c:World}(h:aA S w b)(k:aA T b c)(e:∀i,i<w.heap.size->T i->False):aA S w c:=h.tT k (fun i d q=>(e i d q).elim)
theorem Gd{id:Nat}{α:Type}(F:α->Act)(R:α->World->Prop)(h:(Code.region id ops true).wp P (fun x a w=>x=.normal/\∃p,a=F p/\R p w) a w)(hR:∀p w,R p w->Q .normal (F p) w):(Code.region id ops true).wp P Q a w:=
 wp_mono h fun e a w h=>by obtain⟨rfl,p,rfl,b⟩:=h;exact hR p w b
def nF(a:Act):List Tmp->List Value->Act
 | d::b,v::c=>nF (a.put (some d) v) b c
 | _,_=>a
def QC(d:List Tmp)(R:List Value->World->Prop)(a:Act)(x:Exit)(c:Act)(w':World):Prop:=x=.normal/\∃b,c=nF a d b/\R b w'
theorem E1{C:Code}(c:List Tmp)(R:List Value->World->Prop)(h:C.wp P (QC c R a) a w)(hR:∀b w',R b w'->Q .normal (nF a c b) w'):C.wp P Q a w:=
 wp_mono h fun e a w h=>by obtain⟨rfl,b,rfl,d⟩:=h;exact hR b _ d
theorem xX{id:Nat}{α β γ:Type}(F:α->β->γ->Act)(R:α->β->γ->World->Prop)(h:(Code.region id ops true).wp P (fun x a w=>x=.normal/\∃p q r,a=F p q r/\R p q r w) a w)(hR:∀p q r w,R p q r w->Q .normal (F p q r) w):(Code.region id ops true).wp P Q a w:=
 wp_mono h fun e a w h=>by obtain⟨rfl,p,q,r,rfl,b⟩:=h;exact hR p q r w b
end
end Go.Proofs.YtiinnfhjpaeffaaGreat
