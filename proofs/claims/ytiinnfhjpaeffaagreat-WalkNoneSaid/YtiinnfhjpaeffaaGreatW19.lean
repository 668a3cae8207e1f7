import Derived.Test.YtiinnfhjpaeffaaGreatW1
import Derived.Test.YtiinnfhjpaeffaaGreatW2
import Derived.Great.Walk
import Derived.Great.Ranges
namespace Go.Proofs.YtiinnfhjpaeffaaGreat
set_option maxHeartbeats 64000000
set_option maxRecDepth 100000
set_option linter.unusedVariables false
section
open Go.RowKit
structure Loc(S B:Nat->Prop)(w0 w:World)(l:List (Nat×Array Value×TypeId)):Prop where
 keep:aA S w0 w
 ge:∀x∈l,w0.heap.size≤x.1
 nd:(l.map (·.1)).Nodup
 at_:∀x∈l,w.heap[x.1]?=some (.cells x.2.1 x.2.2 (0,0))
 ap:∀x∈l,¬B x.1
theorem Loc.nil(S B:Nat->Prop)(w:World):Loc S B w w []:=⟨aA.refl _ _,(fun _ h=>by cases h),List.nodup_nil,(fun _ h=>by cases h),(fun _ h=>by cases h)⟩
theorem Loc.b{S B:Nat->Prop}{w0 w:World}{l:List (Nat×Array Value×TypeId)}(h:Loc S B w0 w l)(i:Nat){b:Nat}{cs:Array Value}{t:TypeId}(hi:l[i]?=some (b,cs,t):=by rfl):w.heap[b]?=some (.cells cs t (0,0)):=h.at_ _ (List.mem_of_getElem? hi)
theorem Loc.lt{S B:Nat->Prop}{w0 w:World}{l:List (Nat×Array Value×TypeId)}(h:Loc S B w0 w l)(i:Nat){b:Nat}{cs:Array Value}{t:TypeId}(hi:l[i]?=some (b,cs,t):=by rfl):w0.heap.size≤b/\b<w.heap.size:=⟨h.ge _ (List.mem_of_getElem? hi),lt_of_block (h.b i hi)⟩
theorem Loc.nin{S B:Nat->Prop}{w0 w:World}{l:List (Nat×Array Value×TypeId)}(h:Loc S B w0 w l){x:Nat}(hB:B x)(i:Nat){b:Nat}{cs:Array Value}{t:TypeId}(hi:l[i]?=some (b,cs,t):=by rfl):¬b=x:=fun e=>h.ap _ (List.mem_of_getElem? hi) (by subst e;exact hB)
theorem Loc.keeps{S B:Nat->Prop}{w0 w w':World}{l:List (Nat×Array Value×TypeId)}(h:Loc S B w0 w l)(k:aA aB w w'):Loc S B w0 w' l:=
 ⟨h.keep.trans k.any,h.ge,h.nd,fun x hx=>k.blk (h.at_ x hx) id,h.ap⟩
theorem Loc.turn{S B B':Nat->Prop}{w0 w w':World}{l:List (Nat×Array Value×TypeId)}(h:Loc S B w0 w l)(k:aA B w w')(hS:∀k,k<w0.heap.size->B k->S k)(hB:∀k,k<w.heap.size->B' k->B k):Loc S B' w0 w' l:=
 ⟨h.keep.trans' k (fun _ _ h=>h) hS,h.ge,h.nd,fun x hx=>k.blk (h.at_ x hx) (h.ap x hx),fun x hx hb=>h.ap x hx (hB _ (lt_of_block (h.at_ x hx)) hb)⟩
theorem Loc.new{S B:Nat->Prop}{w0 w w':World}{l:List (Nat×Array Value×TypeId)}(h:Loc S B w0 w l)(hB:∀k,B k->k<w.heap.size){b:Nat}{cs:Array Value}{t:TypeId}(hb:w.heap.size=b)(k:aA aB w w')(hn:w'.heap[b]?=some (.cells cs t (0,0))):Loc S B w0 w' ((b,cs,t)::l):=by
 refine⟨h.keep.trans k.any,?_,?_,?_,?_⟩
 ·intro x hx
  rcases List.mem_cons.1 hx with rfl|hx
  ·exact hb▸h.keep.size
  ·exact h.ge x hx
 ·rw[List.map_cons,List.nodup_cons]
  refine⟨fun hm=>?_,h.nd⟩;obtain⟨x,hx,e⟩:=List.mem_map.1 hm;have:=lt_of_block (h.at_ x hx);simp only at e;omega
 ·intro x hx
  rcases List.mem_cons.1 hx with rfl|hx
  ·exact hn
  ·exact k.blk (h.at_ x hx) id
 ·intro x hx
  rcases List.mem_cons.1 hx with rfl|hx
  ·intro hb'
   have:=hB _ hb';simp only at this;omega
  ·exact h.ap x hx
theorem bF:∀{l:List (Nat×Array Value×TypeId)}{i:Nat}{x y:Nat×Array Value×TypeId},(l.map (·.1)).Nodup->l[i]?=some x->∀j,j≠i->l[j]?=some y->y.1≠x.1
 | [],i,x,y,_,h,_,_,_=>by simp at h
 | a::l,0,x,y,hn,h,0,hj,_=>absurd rfl hj
 | a::l,0,x,y,hn,h,j+1,_,hy=>by
   rw[List.map_cons,List.nodup_cons] at hn;simp only[List.getElem?_cons_zero,Option.some.injEq] at h;simp only[List.getElem?_cons_succ] at hy;subst h;intro e;exact hn.1 (e▸List.mem_map.2 ⟨y,List.mem_of_getElem? hy,rfl⟩)
 | a::l,i+1,x,y,hn,h,0,_,hy=>by
   rw[List.map_cons,List.nodup_cons] at hn;simp only[List.getElem?_cons_zero,Option.some.injEq] at hy;simp only[List.getElem?_cons_succ] at h;subst hy;intro e;exact hn.1 (e▸List.mem_map.2 ⟨x,List.mem_of_getElem? h,rfl⟩)
 | a::l,i+1,x,y,hn,h,j+1,hj,hy=>by
   rw[List.map_cons,List.nodup_cons] at hn;exact bF hn.2 h j (fun e=>hj (by rw[e])) hy
theorem Loc.set{S B:Nat->Prop}{w0 w w':World}{l:List (Nat×Array Value×TypeId)}(h:Loc S B w0 w l)(i:Nat){b:Nat}{cs cs':Array Value}{t:TypeId}(k:aA (fun k=>k=b) w w')(hn:w'.heap[b]?=some (.cells cs' t (0,0)))(hi:l[i]?=some (b,cs,t):=by rfl):Loc S B w0 w' (l.set i (b,cs',t)):=by
 have hmem:=List.mem_of_getElem? hi;have hlt:i<l.length:=(List.getElem?_eq_some_iff.1 hi).1
 have hmap:(l.set i (b,cs',t)).map (·.1)=l.map (·.1):=by
  apply List.ext_getElem?;intro j;rw[List.getElem?_map,List.getElem?_map,List.getElem?_set]
  by_cases e:i=j
  ·subst e
   rw[if_pos rfl,if_pos hlt,hi];rfl
  ·rw[if_neg e]
 have hcase:∀x∈l.set i (b,cs',t),x=(b,cs',t)\/(x∈l/\x.1≠b):=by
  intro x hx;obtain⟨j,hj⟩:=List.getElem?_of_mem hx;rw[List.getElem?_set] at hj
  by_cases e:i=j
  ·rw[if_pos e,if_pos hlt] at hj
   exact .inl (Option.some.inj hj).symm
  ·rw[if_neg e] at hj
   exact .inr ⟨List.mem_of_getElem? hj,bF h.nd hi j (fun h=>e h.symm) hj⟩
 refine⟨h.keep.trans' k (fun _ _ h=>h) (fun j hj e=>?_),?_,by rw[hmap];exact h.nd,?_,?_⟩
 ·have:=h.ge _ hmem
  simp only at this;omega
 ·intro x hx
  rcases hcase x hx with rfl|⟨hx,-⟩
  ·have h1:=h.ge _ hmem;exact h1
  ·exact h.ge x hx
 ·intro x hx
  rcases hcase x hx with rfl|⟨hx,hne⟩
  ·exact hn
  ·exact k.blk (h.at_ x hx) hne
 ·intro x hx
  rcases hcase x hx with rfl|⟨hx,-⟩
  ·have h1:=h.ap _ hmem;exact h1
  ·exact h.ap x hx
theorem Loc.tail{S B:Nat->Prop}{w0 w:World}{x:Nat×Array Value×TypeId}{l:List (Nat×Array Value×TypeId)}(h:Loc S B w0 w (x::l)):Loc S B w0 w l:=
 ⟨h.keep,fun y hy=>h.ge y (List.mem_cons_of_mem _ hy),by have:=h.nd;rw[List.map_cons,List.nodup_cons] at this;exact this.2,fun y hy=>h.at_ y (List.mem_cons_of_mem _ hy),fun y hy=>h.ap y (List.mem_cons_of_mem _ hy)⟩
theorem yN{a:Act}{parts:Array (Nat×Operand)}{vs:List (Nat×Value)}(hv:(parts.toList.map fun p=>(p.1,a.eval p.2))=vs):(parts.map fun(x:Nat×Operand)=>match x with|(i,x)=>(i,a.eval x))=vs.toArray:=by
 rw[←hv];apply Array.ext';rw[Array.toList_map,List.toList_toArray]
theorem bld{P:Program}{ops:Array Oper}{rest:List Oper}{o:Oper}{a:Act}{w:World}{Q:Exit->Act->World->Prop}(t:TypeId)(parts:Array (Nat×Operand))(vs:List (Nat×Value))(u:Value)(hb:∀w,(Instr.build t vs.toArray).run P w=.ok u w)(h:wpList P ops Q rest (a.put o.dst u) w)
 (hv:(parts.toList.map fun p=>(p.1,a.eval p.2))=vs:=by rfl) (hg:o.guard=none:=by rfl) (ho:o.op=.build t parts:=by rfl):wpList P ops Q (o::rest) a w:=by
 refine wpList_plain hg fun K hK=>?_
 unfold Oper.wp execOp;simp only[ho,yN hv,Sem.run_bind,hb,Result.andThen_ok,Sem.run_pure];exact hK _ _ h
theorem fA{P:Program}{ops:Array Oper}{S:World->Prop}{o:Oper}{a:Act}(t:TypeId)(parts:Array (Nat×Operand))(vs:List (Nat×Value))(u:Value)(hb:∀w,(Instr.build t vs.toArray).run P w=.ok u w)
 (hv:(parts.toList.map fun p=>(p.1,a.eval p.2))=vs:=by rfl) (ho:o.op=.build t parts:=by rfl) (hw:Region.wanted o (yielded ops a.tmps)=true:=by rfl):YieldsIf P ops S o u a:=
 .inl ⟨hw,fun w _=>by
  unfold execOp;simp only[ho,yN hv,Sem.run_bind,hb,Result.andThen_ok,Sem.run_pure]⟩
theorem al{P:Program}{w:World}{ops:Array Oper}{rest:List Oper}{o:Oper}{a:Act}{Q:Exit->Act->World->Prop}(T:TypeId)(z:Value)(cs:Array Value)(hz:Hid (∀w,(zeroValue T).run P w=.ok z w))
 (h:∀b w',w.heap.size=b->aA aB w w'->w'.heap[b]?=some (.cells cs T (0,0))->wpList P ops Q rest (a.put o.dst (.pointer (some ⟨b,0,none⟩))) w') (hcs:z.cells=cs:=by rfl) (hg:o.guard=none:=by rfl) (ho:o.op=.alloc T:=by rfl):wpList P ops Q (o::rest) a w:=by
 subst hcs;exact fL hg T ho z hz.out (h _ _ rfl ((aA.refl _ _).alloc _) (heap_alloc_new _ _))
theorem bx{P:Program}{w:World}{ops:Array Oper}{rest:List Oper}{o:Oper}{a:Act}{Q:Exit->Act->World->Prop}(T:TypeId)(x:Operand)(cs:Array Value)
 (h:∀b w',w.heap.size=b->aA aB w w'->w'.heap[b]?=some (.cells cs T (0,0))->wpList P ops Q rest (a.put o.dst (.pointer (some ⟨b,0,none⟩))) w') (hcs:(a.eval x).cells=cs:=by rfl) (hg:o.guard=none:=by rfl) (ho:o.op=.box T x:=by rfl):wpList P ops Q (o::rest) a w:=
 Go.Great.wpList_boxTo hg T x ho _ rfl _ rfl cs hcs (h _ _ rfl ((aA.refl _ _).alloc _) (heap_alloc_new _ _))
theorem uF{P:Program}(w:World)(b o:Nat)(ty:TypeId)(v:Value)(vs:List Value)(hv:v.cells=vs.toArray)(ht:w.there b o vs.length)(hi:(P.info? ty).map (·.size)=some vs.length)(h1:∀v∈vs,v.oneCell'=true) :
 (storeVar ty ⟨b,o,none⟩ v).run P w=.ok () (w.setCells b o vs):=by
 have:=run_storeCells_cells (P:=P) b o vs 0 w (fun j hj=>by simpa using (ht j hj).1) (fun j hj=>by simpa using (ht j hj).2) h1;cases hq:P.info? ty with
 | none=>simp[hq] at hi
 | some i =>
   have hs:vs.length=i.size:=by simp[hq] at hi;omega
   simp only[Nat.add_zero] at this;simp[storeVar,sizeOf,typeInfo,hq,hv,hs,this]
theorem sta{P:Program}{w:World}{ops:Array Oper}{rest:List Oper}{op:Oper}{a:Act}{Q:Exit->Act->World->Prop}(T:TypeId)(x y:Operand)(b o:Nat)(vs:List Value){cs:Array Value}{t:TypeId}(hb:w.heap[b]?=some (.cells cs t (0,0)))(hfit:o+vs.length≤cs.size)
 (hi:(P.info? T).map (·.size)=some vs.length) (h1:∀v∈vs,v.oneCell'=true)
 (h:∀w',aA (fun k=>k=b) w w'->w'.heap[b]?=some (.cells (spl cs o vs) t (0,0))->wpList P ops Q rest (a.put op.dst undef) w') (hx:a.eval x=.pointer (some ⟨b,o,none⟩):=by rfl) (hy:(a.eval y).cells=vs.toArray:=by rfl) (hg:op.guard=none:=by rfl) (ho:op.op=.store T x y:=by rfl):wpList P ops Q (op::rest) a w:=by
 refine wpList_plain hg fun K hK=>?_
 have ht:w.there b o vs.length:=by
  intro j hj;refine⟨?_,frozen_of_row w b _ _ _ hb⟩;rw[cell_of_row w b _ _ _ _ hb];have:o+j<cs.size:=by omega
  simp[this]
 unfold Oper.wp execOp;simp only[ho,hx,Instr.storeAt,Instr.sureAddr,Sem.run_bind,Sem.run_pure,Result.andThen_ok,uF w b o T _ vs hy ht hi h1];exact hK _ _ (h _ (aA.setCells (S:=fun k=>k=b) (fun _=>rfl) _ _ _ (aA.refl _ _)) (lH _ _ _ _ hb))
theorem Loc.aq {S B:Nat->Prop}{w0 w:World}{l:List (Nat×Array Value×TypeId)}(h:Loc S B w0 w l)(i:Nat){b:Nat}{cs:Array Value}{t:TypeId}(hi:l[i]?=some (b,cs,t):=by rfl):¬B b:=h.ap _ (List.mem_of_getElem? hi)
theorem alL {P:Program}{w:World}{ops:Array Oper}{rest:List Oper}{o:Oper}{a:Act}{Q:Exit->Act->World->Prop}{S:Nat->Prop}{w0:World}{l:List (Nat×Array Value×TypeId)}(HL:Hid (Loc S aB w0 w l))(T:TypeId)(z:Value)(cs:Array Value)(hz:Hid (∀w,(zeroValue T).run P w=.ok z w))(h:∀b w',aA aB w w'->Hid (Loc S aB w0 w' ((b,cs,T)::l))->wpList P ops Q rest (a.put o.dst (.pointer (some ⟨b,0,none⟩))) w')(hcs:z.cells=cs:=by rfl)(hg:o.guard=none:=by rfl)(ho:o.op=.alloc T:=by rfl):wpList P ops Q (o::rest) a w:=al T z cs hz (fun b w' hs k hb=>h b w' k (Lib.hid (HL.out.new (fun _ h=>h.elim) hs k hb))) hcs hg ho
theorem bxL {P:Program}{w:World}{ops:Array Oper}{rest:List Oper}{o:Oper}{a:Act}{Q:Exit->Act->World->Prop}{S:Nat->Prop}{w0:World}{l:List (Nat×Array Value×TypeId)}(HL:Hid (Loc S aB w0 w l))(T:TypeId)(x:Operand)(cs:Array Value)(h:∀b w',aA aB w w'->Hid (Loc S aB w0 w' ((b,cs,T)::l))->wpList P ops Q rest (a.put o.dst (.pointer (some ⟨b,0,none⟩))) w')(hcs:(a.eval x).cells=cs:=by rfl)(hg:o.guard=none:=by rfl)(ho:o.op=.box T x:=by rfl):wpList P ops Q (o::rest) a w:=bx T x cs (fun b w' hs k hb=>h b w' k (Lib.hid (HL.out.new (fun _ h=>h.elim) hs k hb))) hcs hg ho
theorem one9 {x:Value}(h:x.oneCell'=true:=by rfl):∀v∈[x],v.oneCell'=true:=fun v hv=>by rw[List.mem_singleton] at hv;rw[hv];exact h
theorem lN(w:World):Hid (Loc aB aB w w []):=O (Loc.nil _ _ w)
theorem lW{S:Nat->Prop}{w0 w w':World}{l:List (Nat×Array Value×TypeId)}{b:Nat}{cs:Array Value}{t:TypeId}(h:Hid (Loc S aB w0 w l))(hb:w.heap.size=b)(k:aA aB w w')(hn:w'.heap[b]?=some (.cells cs t (0,0))):Hid (Loc S aB w0 w' ((b,cs,t)::l)):=O (h.out.new (fun _ h=>h.elim) hb k hn)
theorem kL{S B:Nat->Prop}{w0 w w':World}{l:List (Nat×Array Value×TypeId)}(h:Hid (Loc S B w0 w l))(k:aA aB w w'):Hid (Loc S B w0 w' l):=O (h.out.keeps k)
theorem tX{S T:Nat->Prop}{w w1 w2:World}(h:aA S w w1)(k:aA T w1 w2)(e:∀i,i<w.heap.size->T i->False):aA S w w2:=h.trans' k (fun _ _ h=>h) (fun i hi q=>(e i hi q).elim)
theorem Ep{P:Program}{ops:Array Oper}{Q:Exit->Act->World->Prop}{id:Nat}{a:Act}{w:World}{α:Type}(F:α->Act)(R:α->World->Prop)(h:(Code.region id ops true).wp P (fun x a w=>x=.normal/\∃p,a=F p/\R p w) a w)(hR:∀p w,R p w->Q .normal (F p) w):(Code.region id ops true).wp P Q a w:=
 wp_mono h fun e a w h=>by obtain⟨rfl,p,rfl,h2⟩:=h;exact hR p w h2
def qL(a:Act):List Tmp->List Value->Act
 | d::ds,v::vs=>qL (a.put (some d) v) ds vs
 | _,_=>a
def On(ds:List Tmp)(R:List Value->World->Prop)(a:Act)(x:Exit)(a':Act)(w':World):Prop:=x=.normal/\∃vs,a'=qL a ds vs/\R vs w'
theorem KT{P:Program}{C:Code}{Q:Exit->Act->World->Prop}{a:Act}{w:World}(ds:List Tmp)(R:List Value->World->Prop)(h:C.wp P (On ds R a) a w)(hR:∀vs w',R vs w'->Q .normal (qL a ds vs) w'):C.wp P Q a w:=
 wp_mono h fun e a w h=>by obtain⟨rfl,vs,rfl,h2⟩:=h;exact hR vs _ h2
end
end Go.Proofs.YtiinnfhjpaeffaaGreat
