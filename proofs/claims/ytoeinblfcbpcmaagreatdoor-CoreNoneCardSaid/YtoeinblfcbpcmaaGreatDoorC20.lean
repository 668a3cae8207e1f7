import Derived.Test.YtoeinblfcbpcmaaGreatDoorC2
import Derived.Great.Walk
import Derived.Great.Ranges
namespace Go.Proofs.YtoeinblfcbpcmaaGreatDoor
set_option maxHeartbeats 0
set_option maxRecDepth 100000
set_option linter.unusedVariables false
section
open Go.RowKit
structure Loc(S B:Nat->Prop)(w0 w:World)(l:List (Nat×Array Value×TypeId)):Prop where
 keep:aA S w0 w
 ge:∀x∈l,w0.heap.size≤x.1
 nd:(l.map (·.1)).Nodup
 at_:∀x∈l,w.heap[x.1]?=some (.cells x.2.1 x.2.2 (0,0))
 ap:∀x∈l,¬B x.1
variable{S B:Nat->Prop}{w0 w w':World}{l:List (Nat×Array Value×TypeId)}{cs:Array Value}{t T T2 t2:TypeId}{x y:Operand}{a:Act}{vs zs:List Value}{P:Program}{ops:Array Oper}{rest:List Oper}{o:Oper}{Q:Exit->Act->World->Prop}{d d2:Option Tmp}{s s2:String}{f f2:Array Edge}{n:Nat}{z:Value}
theorem Loc.nil(S B:Nat->Prop)(w:World):Loc S B w w []:=⟨aA.refl _ _,(fun _ h=>by cases h),List.nodup_nil,(fun _ h=>by cases h),(fun _ h=>by cases h)⟩
theorem Loc.b(h:Loc S B w0 w l)(i:Nat){b:Nat}(c:l[i]?=some (b,cs,t):=by rfl):w.heap[b]?=some (.cells cs t (0,0)):=h.at_ _ (List.mem_of_getElem? c)
theorem Loc.lt(h:Loc S B w0 w l)(i:Nat){b:Nat}(c:l[i]?=some (b,cs,t):=by rfl):w0.heap.size≤b/\b<w.heap.size:=⟨h.ge _ (List.mem_of_getElem? c),lt_of_block (h.b i c)⟩
theorem Loc.nin(h:Loc S B w0 w l){x:Nat}(c:B x)(i:Nat){b:Nat}(g:l[i]?=some (b,cs,t):=by rfl):¬b=x:=fun e=>h.ap _ (List.mem_of_getElem? g) (by subst e;exact c)
theorem Loc.keeps(h:Loc S B w0 w l)(k:aA aB w w'):Loc S B w0 w' l:=
 ⟨h.keep.trans k.any,h.ge,h.nd,fun x b=>k.blk (h.at_ x b) id,h.ap⟩
theorem Loc.turn{B':Nat->Prop}(h:Loc S B w0 w l)(k:aA B w w')(e:∀k,k<w0.heap.size->B k->S k)(c:∀k,k<w.heap.size->B' k->B k):Loc S B' w0 w' l:=
 ⟨h.keep.trans' k (fun _ _ h=>h) e,h.ge,h.nd,fun x b=>k.blk (h.at_ x b) (h.ap x b),fun x b g=>h.ap x b (c _ (lt_of_block (h.at_ x b)) g)⟩
theorem Loc.new(h:Loc S B w0 w l)(i:∀k,B k->k<w.heap.size){b:Nat}(j:w.heap.size=b)(k:aA aB w w')(p:w'.heap[b]?=some (.cells cs t (0,0))):Loc S B w0 w' ((b,cs,t)::l):=by
 refine⟨h.keep.trans k.any,?_,?_,?_,?_⟩
 ·intro x c
  rcases List.mem_cons.1 c with rfl|c
  ·exact j▸h.keep.size
  ·exact h.ge x c
 ·rw[List.map_cons,List.nodup_cons]
  refine⟨fun m=>?_,h.nd⟩;obtain⟨x,c,e⟩:=List.mem_map.1 m;have:=lt_of_block (h.at_ x c);simp only at e;omega
 ·intro x c
  rcases List.mem_cons.1 c with rfl|c
  ·exact p
  ·exact k.blk (h.at_ x c) id
 ·intro x c
  rcases List.mem_cons.1 c with rfl|c
  ·intro g
   have:=i _ g;simp only at this;omega
  ·exact h.ap x c
theorem fH:∀{l:List (Nat×Array Value×TypeId)}{i:Nat}{x y:Nat×Array Value×TypeId},(l.map (·.1)).Nodup->l[i]?=some x->∀j,j≠i->l[j]?=some y->y.1≠x.1
 | [],i,x,y,_,h,_,_,_=>by simp at h
 | a::l,0,x,y,b,h,0,g,_=>absurd rfl g
 | a::l,0,x,y,b,h,j+1,_,c=>by
   rw[List.map_cons,List.nodup_cons] at b;simp only[List.getElem?_cons_zero,Option.some.injEq] at h;simp only[List.getElem?_cons_succ] at c;subst h;intro e;exact b.1 (e▸List.mem_map.2 ⟨y,List.mem_of_getElem? c,rfl⟩)
 | a::l,i+1,x,y,b,h,0,_,c=>by
   rw[List.map_cons,List.nodup_cons] at b;simp only[List.getElem?_cons_zero,Option.some.injEq] at c;simp only[List.getElem?_cons_succ] at h;subst c;intro e;exact b.1 (e▸List.mem_map.2 ⟨x,List.mem_of_getElem? h,rfl⟩)
 | a::l,i+1,x,y,b,h,j+1,g,c=>by
   rw[List.map_cons,List.nodup_cons] at b;exact fH b.2 h j (fun e=>g (by rw[e])) c
theorem Loc.set(h:Loc S B w0 w l)(i:Nat){b:Nat}{m:Array Value}(k:aA (fun k=>k=b) w w')(D:w'.heap[b]?=some (.cells m t (0,0)))(v:l[i]?=some (b,cs,t):=by rfl):Loc S B w0 w' (l.set i (b,m,t)):=by
 have p:=List.mem_of_getElem? v;have r:i<l.length:=(List.getElem?_eq_some_iff.1 v).1
 have u:(l.set i (b,m,t)).map (·.1)=l.map (·.1):=by
  apply List.ext_getElem?;intro j;rw[List.getElem?_map,List.getElem?_map,List.getElem?_set]
  by_cases e:i=j
  ·subst e
   rw[if_pos rfl,if_pos r,v];rfl
  ·rw[if_neg e]
 have c:∀x∈l.set i (b,m,t),x=(b,m,t)\/(x∈l/\x.1≠b):=by
  intro x g;obtain⟨j,q⟩:=List.getElem?_of_mem g;rw[List.getElem?_set] at q
  by_cases e:i=j
  ·rw[if_pos e,if_pos r] at q
   exact .inl (Option.some.inj q).symm
  ·rw[if_neg e] at q
   exact .inr ⟨List.mem_of_getElem? q,fH h.nd v j (fun h=>e h.symm) q⟩
 refine⟨h.keep.tT k (fun j q e=>?_),?_,by rw[u];exact h.nd,?_,?_⟩
 ·have:=h.ge _ p
  simp only at this;omega
 ·intro x g
  rcases c x g with rfl|⟨g,-⟩
  ·have A:=h.ge _ p;exact A
  ·exact h.ge x g
 ·intro x g
  rcases c x g with rfl|⟨g,C⟩
  ·exact D
  ·exact k.blk (h.at_ x g) C
 ·intro x g
  rcases c x g with rfl|⟨g,-⟩
  ·have A:=h.ap _ p;exact A
  ·exact h.ap x g
theorem Loc.tail{x:Nat×Array Value×TypeId}(h:Loc S B w0 w (x::l)):Loc S B w0 w l:=
 ⟨h.keep,fun y b=>h.ge y (List.mem_cons_of_mem _ b),by have:=h.nd;rw[List.map_cons,List.nodup_cons] at this;exact this.2,fun y b=>h.at_ y (List.mem_cons_of_mem _ b),fun y b=>h.ap y (List.mem_cons_of_mem _ b)⟩
theorem Bn{b:Array (Nat×Operand)}{vs:List (Nat×Value)}(c:(b.toList.map fun p=>(p.1,a.eval p.2))=vs):(b.map fun(x:Nat×Operand)=>match x with|(i,x)=>(i,a.eval x))=vs.toArray:=by
 rw[←c];apply Array.ext';rw[Array.toList_map,List.toList_toArray]
theorem bld(t:TypeId)(b:Array (Nat×Operand))(vs:List (Nat×Value))(u:Value)(e:∀w,(Instr.build t vs.toArray).run P w=.ok u w)(h:wpList P ops Q rest (a.put o.dst u) w)
 (j:(b.toList.map fun p=>(p.1,a.eval p.2))=vs:=by rfl) (g:o.guard=none:=by rfl) (i:o.op=.build t b:=by rfl):wpList P ops Q (o::rest) a w:=by
 refine wpList_plain g fun K c=>?_
 unfold Oper.wp execOp;simp only[i,Bn j,Sem.run_bind,e,Result.andThen_ok,Sem.run_pure];exact c _ _ h
theorem lO{S:World->Prop}(t:TypeId)(b:Array (Nat×Operand))(vs:List (Nat×Value))(u:Value)(c:∀w,(Instr.build t vs.toArray).run P w=.ok u w)
 (g:(b.toList.map fun p=>(p.1,a.eval p.2))=vs:=by rfl) (e:o.op=.build t b:=by rfl) (h:Region.wanted o (yielded ops a.tmps)=true:=by rfl):YieldsIf P ops S o u a:=
 .inl ⟨h,fun w _=>by
  unfold execOp;simp only[e,Bn g,Sem.run_bind,c,Result.andThen_ok,Sem.run_pure]⟩
theorem al(T:TypeId)(z:Value)(cs:Array Value)(i:Hid (∀w,(zeroValue T).run P w=.ok z w))
 (h:∀b w',w.heap.size=b->aA aB w w'->w'.heap[b]?=some (.cells cs T (0,0))->wpList P ops Q rest (a.put o.dst (.pointer (some ⟨b,0,none⟩))) w') (c:z.cells=cs:=by rfl) (e:o.guard=none:=by rfl) (g:o.op=.alloc T:=by rfl):wpList P ops Q (o::rest) a w:=by
 subst c;exact gH e T g z i.out (h _ _ rfl ((aA.refl _ _).alloc _) (heap_alloc_new _ _))
theorem bx(T:TypeId)(x:Operand)(cs:Array Value)
 (h:∀b w',w.heap.size=b->aA aB w w'->w'.heap[b]?=some (.cells cs T (0,0))->wpList P ops Q rest (a.put o.dst (.pointer (some ⟨b,0,none⟩))) w') (c:(a.eval x).cells=cs:=by rfl) (e:o.guard=none:=by rfl) (g:o.op=.box T x:=by rfl):wpList P ops Q (o::rest) a w:=
 Go.Great.wpList_boxTo e T x g _ rfl _ rfl cs c (h _ _ rfl ((aA.refl _ _).alloc _) (heap_alloc_new _ _))
theorem xI(w:World)(b o:Nat)(g:TypeId)(v:Value)(vs:List Value)(q:v.cells=vs.toArray)(k:w.there b o vs.length)(h:(P.info? g).map (·.size)=some vs.length)(m:∀v∈vs,v.oneCell'=true) :
 (storeVar g ⟨b,o,none⟩ v).run P w=.ok () (w.setCells b o vs):=by
 have:=run_storeCells_cells (P:=P) b o vs 0 w (fun j c=>by simpa using (k j c).1) (fun j c=>by simpa using (k j c).2) m;cases e:P.info? g with
 | none=>simp[e] at h
 | some i =>
   have p:vs.length=i.size:=by simp[e] at h;omega
   simp only[Nat.add_zero] at this;simp[storeVar,sizeOf,typeInfo,e,q,p,this]
theorem sta{op:Oper}(T:TypeId)(x y:Operand)(b o:Nat)(vs:List Value)(c:w.heap[b]?=some (.cells cs t (0,0)))(e:o+vs.length≤cs.size)
 (p:(P.info? T).map (·.size)=some vs.length) (g:∀v∈vs,v.oneCell'=true)
 (h:∀w',aA (fun k=>k=b) w w'->w'.heap[b]?=some (.cells (spl cs o vs) t (0,0))->wpList P ops Q rest (a.put op.dst undef) w') (u:a.eval x=.pointer (some ⟨b,o,none⟩):=by rfl) (hy:(a.eval y).cells=vs.toArray:=by rfl) (m:op.guard=none:=by rfl) (q:op.op=.store T x y:=by rfl):wpList P ops Q (op::rest) a w:=by
 refine wpList_plain m fun K i=>?_
 have r:w.there b o vs.length:=by
  intro j A;refine⟨?_,frozen_of_row w b _ _ _ c⟩;rw[cell_of_row w b _ _ _ _ c];have:o+j<cs.size:=by omega
  simp[this]
 unfold Oper.wp execOp;simp only[q,u,Instr.storeAt,Instr.sureAddr,Sem.run_bind,Sem.run_pure,Result.andThen_ok,xI w b o T _ vs hy r p g];exact i _ _ (h _ (aA.setCells (S:=fun k=>k=b) (fun _=>rfl) _ _ _ (aA.refl _ _)) (mQ _ _ _ _ c))
theorem Loc.aq (h:Loc S B w0 w l)(i:Nat){b:Nat}(c:l[i]?=some (b,cs,t):=by rfl):¬B b:=h.ap _ (List.mem_of_getElem? c)
theorem alL (e:Hid (Loc S aB w0 w l))(T:TypeId)(z:Value)(cs:Array Value)(p:Hid (∀w,(zeroValue T).run P w=.ok z w))(h:∀b w',aA aB w w'->Hid (Loc S aB w0 w' ((b,cs,T)::l))->wpList P ops Q rest (a.put o.dst (.pointer (some ⟨b,0,none⟩))) w')(c:z.cells=cs:=by rfl)(i:o.guard=none:=by rfl)(j:o.op=.alloc T:=by rfl):wpList P ops Q (o::rest) a w:=al T z cs p (fun b w' m k g=>h b w' k (Lib.hid (e.new (fun _ h=>h.elim) m k g))) c i j
theorem bxL (e:Hid (Loc S aB w0 w l))(T:TypeId)(x:Operand)(cs:Array Value)(h:∀b w',aA aB w w'->Hid (Loc S aB w0 w' ((b,cs,T)::l))->wpList P ops Q rest (a.put o.dst (.pointer (some ⟨b,0,none⟩))) w')(c:(a.eval x).cells=cs:=by rfl)(i:o.guard=none:=by rfl)(j:o.op=.box T x:=by rfl):wpList P ops Q (o::rest) a w:=bx T x cs (fun b w' m k g=>h b w' k (Lib.hid (e.new (fun _ h=>h.elim) m k g))) c i j
theorem one9 {x:Value}(h:x.oneCell'=true:=by rfl):∀v∈[x],v.oneCell'=true:=fun v b=>by rw[List.mem_singleton] at b;rw[b];exact h
theorem stW{b:Nat}(j:w.heap[b]?=some (.cells zs.toArray T2 (0,0)))(c:vs.length=n)(g:zs.length=n)(m:(P.info? T).map (·.size)=some vs.length)(i:∀v∈vs,v.oneCell'=true)(h:∀w',aA (fun k=>k=b) w w'->w'.heap[b]?=some (.cells vs.toArray T2 (0,0))->wpList P ops Q rest (a.put d undef) w')(p:a.eval x=.pointer b:=by rfl)(q:(a.eval y).cells=vs.toArray:=by rfl):wpList P ops Q (⟨d,.store T x y,t,s,f,none⟩::rest) a w:=sta T x y b 0 vs j (by rw[List.size_toArray,g,c];omega) m i (fun w' k e=>h w' k (by rw[aI _ _ (by rw[List.size_toArray,c,g])] at e;exact e)) p q rfl rfl
theorem stV{b:Nat}(v:Value){u:Value}(i:w.heap[b]?=some (.cells #[u] T2 (0,0)))(h:∀w',aA (fun k=>k=b) w w'->w'.heap[b]?=some (.cells #[v] T2 (0,0))->wpList P ops Q rest (a.put d undef) w')(m:a.eval x=.pointer b:=by rfl)(p:(a.eval y).cells=#[v]:=by rfl)(g:v.oneCell'=true:=by rfl)(j:(P.info? T).map (·.size)=some 1:=by kernel_rfl):wpList P ops Q (⟨d,.store T x y,t,s,f,none⟩::rest) a w:=sta T x y b 0 [v] i (by simp) j (fun q c=>by rw[List.mem_singleton] at c;rw[c];exact g) (fun w' k e=>h w' k (by rw[aI _ _ (by rfl)] at e;exact e)) m p rfl rfl
theorem alA(c:Hid (∀w,(zeroValue T).run P w=.ok (.agg cs) w))(h:∀b w',w.heap.size=b->aA aB w w'->w'.heap[b]?=some (.cells cs T (0,0))->wpList P ops Q rest (a.put d (.pointer (some ⟨b,0,none⟩))) w'):wpList P ops Q (⟨d,.alloc T,t,s,f,none⟩::rest) a w:=al T (.agg cs) cs c h
theorem alB(e:Hid (∀w,(zeroValue T).run P w=.ok z w))(h:∀b w',w.heap.size=b->aA aB w w'->w'.heap[b]?=some (.cells #[z] T (0,0))->wpList P ops Q rest (a.put d (.pointer (some ⟨b,0,none⟩))) w')(c:z.cells=#[z]:=by rfl):wpList P ops Q (⟨d,.alloc T,t,s,f,none⟩::rest) a w:=al T z #[z] e h c
theorem alM(c:Hid (Loc S aB w0 w l))(e:Hid (∀w,(zeroValue T).run P w=.ok (.agg cs) w))(h:∀b w',aA aB w w'->Hid (Loc S aB w0 w' ((b,cs,T)::l))->wpList P ops Q rest (a.put d (.pointer (some ⟨b,0,none⟩))) w'):wpList P ops Q (⟨d,.alloc T,t,s,f,none⟩::rest) a w:=alL c T (.agg cs) cs e h
theorem alS(c:Hid (Loc S aB w0 w l))(g:Hid (∀w,(zeroValue T).run P w=.ok z w))(h:∀b w',aA aB w w'->Hid (Loc S aB w0 w' ((b,#[z],T)::l))->wpList P ops Q rest (a.put d (.pointer (some ⟨b,0,none⟩))) w')(e:z.cells=#[z]:=by rfl):wpList P ops Q (⟨d,.alloc T,t,s,f,none⟩::rest) a w:=alL c T z #[z] g h e
theorem bxA(cs:Array Value)(h:∀b w',w.heap.size=b->aA aB w w'->w'.heap[b]?=some (.cells cs T (0,0))->wpList P ops Q rest (a.put d (.pointer (some ⟨b,0,none⟩))) w')(c:(a.eval x).cells=cs:=by rfl):wpList P ops Q (⟨d,.box T x,t,s,f,none⟩::rest) a w:=bx T x cs h c
theorem bxM(c:Hid (Loc S aB w0 w l))(cs:Array Value)(h:∀b w',aA aB w w'->Hid (Loc S aB w0 w' ((b,cs,T)::l))->wpList P ops Q rest (a.put d (.pointer (some ⟨b,0,none⟩))) w')(e:(a.eval x).cells=cs:=by rfl):wpList P ops Q (⟨d,.box T x,t,s,f,none⟩::rest) a w:=bxL c T x cs h e
theorem alW(g:Hid (∀w,(zeroValue T).run P w=.ok (.agg zs.toArray) w))(p:vs.length=n)(u:zs.length=n)(j:(P.info? T).map (·.size)=some vs.length)(m:∀v∈vs,v.oneCell'=true)(h:∀b w',w.heap.size=b->aA aB w w'->w'.heap[b]?=some (.cells vs.toArray T (0,0))->wpList P ops Q rest ((a.put d (.pointer (some ⟨b,0,none⟩))).put d2 undef) w')(q:∀b,(a.put d (.pointer (some ⟨b,0,none⟩))).eval x=.pointer (some ⟨b,0,none⟩):=by intro b;rfl)(r:∀b,((a.put d (.pointer (some ⟨b,0,none⟩))).eval y).cells=vs.toArray:=by intro b;rfl):wpList P ops Q (⟨d,.alloc T,t,s,f,none⟩::⟨d2,.store T x y,t2,s2,f2,none⟩::rest) a w:=alA g fun b E e k c=>stW c p u j m (fun C A c2=>h b C e (k.tT A (fun i j D=>by omega)) c2) (q b) (r b)
theorem alV(v:Value)(r:Hid (∀w,(zeroValue T).run P w=.ok z w))(h:∀b w',w.heap.size=b->aA aB w w'->w'.heap[b]?=some (.cells #[v] T (0,0))->wpList P ops Q rest ((a.put d (.pointer (some ⟨b,0,none⟩))).put d2 undef) w')(p:∀b,(a.put d (.pointer (some ⟨b,0,none⟩))).eval x=.pointer (some ⟨b,0,none⟩):=by intro b;rfl)(q:∀b,((a.put d (.pointer (some ⟨b,0,none⟩))).eval y).cells=#[v]:=by intro b;rfl)(m:z.cells=#[z]:=by rfl)(j:v.oneCell'=true:=by rfl)(g:(P.info? T).map (·.size)=some 1:=by kernel_rfl):wpList P ops Q (⟨d,.alloc T,t,s,f,none⟩::⟨d2,.store T x y,t2,s2,f2,none⟩::rest) a w:=alB r (fun b D e k c=>stV v c (fun A u c2=>h b A e (k.tT u (fun i g C=>by omega)) c2) (p b) (q b) j g) m
theorem cD(h:Hid (Loc S B w0 w l))(i:Nat){b:Nat}{v:Value}(c:l[i]?=some (b,(v::vs).toArray,t):=by rfl):w.cell? ⟨b,0,none⟩=some v:=aC (i:=0) (h.out.b i c) rfl
theorem lN(w:World):Hid (Loc aB aB w w []):=O (Loc.nil _ _ w)
theorem lW{b:Nat}(h:Hid (Loc S aB w0 w l))(c:w.heap.size=b)(k:aA aB w w')(e:w'.heap[b]?=some (.cells cs t (0,0))):Hid (Loc S aB w0 w' ((b,cs,t)::l)):=O (h.out.new (fun _ h=>h.elim) c k e)
theorem kL(h:Hid (Loc S B w0 w l))(k:aA aB w w'):Hid (Loc S B w0 w' l):=O (h.out.keeps k)
theorem tX{T:Nat->Prop}{b c:World}(h:aA S w b)(k:aA T b c)(e:∀i,i<w.heap.size->T i->False):aA S w c:=h.tT k (fun i g q=>(e i g q).elim)
end
end Go.Proofs.YtoeinblfcbpcmaaGreatDoor
