import Derived.Test.YtoeinblfcbpcmaaGreatDoorC1
import Derived.StillTail
import Derived.RangeFuncBox
import Derived.RangeFuncCalls
import Derived.OrdersIn
import Derived.OrdersHeld
namespace Go.Proofs.YtoeinblfcbpcmaaGreatDoor
open Tryz
set_option maxHeartbeats 0
set_option maxRecDepth 100000
set_option linter.unusedVariables false
section
open Go.RowKit
def pQ(P:Program)(o:Oper)(a:Act)(w:World)(X:Value->World->Prop):Prop:=
 match (execOp a.eval o).run P w with
 | .ok (.value v) b=>X v b
 | .ok (.enter f args) b=>Calls P f args b fun e c=>∃v,e=.returned v/\X v c
 | _=>False
theorem pQ.wp{P:Program}{o:Oper}{a c:Act}{w:World}{X:Value->World->Prop}{K:Act->World->Prop}{Q:Exit->Act->World->Prop}(h:pQ P o a w X)(f:execOp c.eval o=execOp a.eval o)
 (d:∀v b,X v b->K (c.put o.dst v) b):o.wp P c w K Q:=by
 unfold pQ at h;unfold Oper.wp;rw[f];generalize (execOp a.eval o).run P w=r at *;cases r with
 | ok x b =>
   cases x<;>simp only[Oper.upon] at h ⊢<;>first
    | exact d _ _ h
    | exact h.elim
    | exact Calls.mono h fun e m l=>by obtain⟨v,rfl,g⟩:=l;exact d _ _ g
 | halt x b=>exact h.elim
def oU(ops:Array Oper)(n:Nat):Bool:=
 ((List.range n).all fun i=>match ops[i]? with
   | none=>false
   | some o=>o.guard.isNone && o.after.all (fun e=>!Region.binds .any e) && (match o.op with|.select _ _=>false|_=>true) &&
     (List.range n).all fun j=>j == i || match ops[j]? with|none=>false|some o'=>o.apart ops o') &&
 (List.range ops.size).all fun t=>decide (t<n) || (List.range n).all fun i=>Region.waitsFor .any ops t i
def dH(ops:Array Oper)(a:Act)(v:Nat->Value)(vE:Array Bool):Nat->Act
 | 0=>a
 | k+1=>if vE.getD k false=true then (dH ops a v vE k).put ((ops[k]?).bind (·.dst)) (v k) else dH ops a v vE k
section
variable {P:Program}{ops:Array Oper}{n:Nat}{a:Act}
variable{i:Nat}{Q:Exit->Act->World->Prop}
theorem jS(m:oU ops n=true)(r:i<n):∃o,ops[i]?=some o/\o.guard=none/\(∀e∈o.after,Region.binds .any e=false)/\(∀l b,o.op≠.select l b) /\
 ∀j g,j<n->j≠i->ops[j]?=some g->o.apart ops g=true:=by
 simp only[oU,Bool.and_eq_true] at m;have h:=List.all_eq_true.1 m.1 i (List.mem_range.2 r);cases p:ops[i]? with
 | none=>simp[p] at h
 | some o =>
   simp only[p,Bool.and_eq_true] at h;refine⟨o,rfl,by simpa using h.1.1.1,fun e q=>?_,fun l b t=>?_,fun j g s d f=>?_⟩
   ·have:=Array.all_eq_true'.1 h.1.1.2 e q
    simpa using this
   ·have:=h.1.2
    rw[t] at this;cases this
   ·have:=List.all_eq_true.1 h.2 j (List.mem_range.2 s)
    simp only[f,Bool.or_eq_true,beq_iff_eq] at this;rcases this with c|c
    ·exact absurd c d
    ·exact c
theorem FY(c:oU ops n=true){t:Nat}(e:n≤t)(b:t<ops.size)(d:i<n):Region.waitsFor .any ops t i=true:=by
 simp only[oU,Bool.and_eq_true] at c;have h:=List.all_eq_true.1 c.2 t (List.mem_range.2 b);simp only[Bool.or_eq_true,decide_eq_true_eq] at h;rcases h with h|h
 ·omega
 ·exact List.all_eq_true.1 h i (List.mem_range.2 d)
theorem qW(c:oU ops n=true)(v:Nat->Value)(vE:Array Bool){o:Oper}(d:i<n)(f:ops[i]?=some o)(b:vE.getD i false=false) :
 ∀k,k≤n->execOp (dH ops a v vE k).eval o=execOp a.eval o
 | 0,_=>rfl
 | k+1,u=>by
   rw[dH];split
   ·rename_i p
    have h:k≠i:=fun e=>by rw[e,b] at p;cases p
    obtain⟨x,m,_,_,_,g⟩:=jS c (show k<n by omega);obtain⟨t,l,_,_,s,_⟩:=jS c d;have q:t=o:=Option.some.inj (l.symm.trans f);subst q;have r:=(Oper.apart_spec (g i _ d (Ne.symm h) f)).1;rw[m];rw[execOp_put (ops:=ops) _ s _ _ _ (by simpa using r)];exact qW c v vE d f b k (by omega)
   ·exact qW c v vE d f b k (by omega)
theorem wM{v v':Nat->Value}{vE listed':Array Bool}:∀k,(∀j,j<k->v j=v' j/\vE.getD j false=listed'.getD j false)->dH ops a v vE k=dH ops a v' listed' k
 | 0,_=>rfl
 | k+1,h=>by
   rw[dH,dH,wM k (fun j b=>h j (by omega)),(h k (by omega)).1,(h k (by omega)).2]
theorem zL(f:oU ops n=true)(v:Nat->Value)(vE:Array Bool)(l:i<n)(b:i<vE.size)(d:vE.getD i false=false)(u:Value) :
 ∀k,i<k->k≤n->dH ops a (fun j=>if j=i then u else v j) (vE.setIfInBounds i true) k=(dH ops a v vE k).put ((ops[i]?).bind (·.dst)) u
 | 0,h,_=>by omega
 | k+1,h,t=>by
   by_cases e:k=i
   ·subst e
    rw[dH,dH];have p:(vE.setIfInBounds k true).getD k false=true:=by simp[b]
    rw[if_pos p,d];simp only[if_true,Bool.false_eq_true,if_false];rw[wM (v':=v) (listed':=vE) k (fun j s=>⟨if_neg (by omega),getD_set_ne false (by omega)⟩)]
   ·have r:=zL f v vE l b d u k (by omega) (by omega)
    rw[dH,dH,getD_set_ne false (Ne.symm e),if_neg e,r];split
    ·obtain⟨x,m,_,_,_,g⟩:=jS f (show k<n by omega)
     obtain⟨oi,c,_⟩:=jS f l;have q:=(Oper.apart_spec (g i _ l (Ne.symm e) c)).2.1;rw[m,c];exact(Act.put_comm _ _ _ (by simpa using q)).symm
    ·rfl
theorem CF(C:oU ops n=true)(hn:n≤ops.size)
 (x:Region.seqB .any ops (ops.size-n) n ((Array.range ops.size).map fun i=>decide (i<n))=true)
 (g:Nat->Value->World->Prop) (I:∀i v w d,g i v w->aA aB w d->g i v d) (B:World->Prop) (hF:∀w d,B w->aA aB w d->B d)
 (H:∀i o,i<n->ops[i]?=some o->∀w,B w->pQ P o a w fun v d=>aA aB w d/\g i v d)
 (r:∀(v:Nat->Value) (vE:Array Bool) d,(∀i,i<n->vE.getD i false=true)->B d->(∀i,i<n->g i (v i) d)->wpList P ops Q (ops.toList.drop n) (dH ops a v vE n) d) :
 ∀(f:Nat) (vE:Array Bool) (v:Nat->Value) (w:World),vE.size=ops.size->(∀t,n≤t->t<ops.size->vE.getD t false=false)->((List.range n).countP fun i=>!vE.getD i false)=f ->
  B w->(∀i,i<n->vE.getD i false=true->g i (v i) w)->wpAny P .any ops Q (f+(ops.size-n)) vE (dH ops a v vE n) w
 | 0,vE,v,w,D,Z,hc,h0,W=>by
   have b:∀i,i<n->vE.getD i false=true:=by
    intro i c;have:=(List.countP_eq_zero.1 hc) i (List.mem_range.2 c)
    simpa using this
   have K:vE=(Array.range ops.size).map fun i=>decide (i<n):=by
    apply Array.ext
    ·simp[D]
    ·intro i E h2
     have M:vE.getD i false=vE[i]:=by simp[E]
     rw[←M];simp only[Array.getElem_map,Array.getElem_range]
     by_cases c:i<n
     ·rw[b i c];simp[c]
     ·rw[Z i (by omega) (by omega)];simp[c]
   have s:(ops.toList.drop n).length=ops.size-n:=by simp
   rw[Nat.zero_add,←s];refine wpAny_of_seq (ops.toList.drop n) n vE _ w (fun j=>by simp) (by rw[s,K];exact x) ?_;exact r v vE w b h0 fun i c=>W i c (b i c)
 | f+1,vE,v,w,D,Z,hc,h0,W=>by
   obtain⟨i0,F,y⟩:∃i,i<n/\vE.getD i false=false:=by
    have:0<(List.range n).countP fun i=>!vE.getD i false:=by omega
    obtain⟨i,c,h⟩:=List.countP_pos_iff.1 this;exact⟨i,List.mem_range.1 c,by simpa using h⟩
   rw[show f+1+(ops.size-n)=(f+(ops.size-n))+1 by omega];have qa:∀{i},i<n->vE.getD i false=false->vE.getD i true=false:=fun c h=>getD_in (by rw[D];omega) h
   have qc:∀i,i<n->vE.getD i false=false->i∈Region.ready .any ops vE:=by
    intro i c h;obtain⟨o,p,_,N,_⟩:=jS C c;exact mem_ready.2 ⟨qa c h,o,p,fun e R J=>by rw[N e R] at J;cases J⟩
   refine⟨fun h=>(by have:=qc i0 F y;rw[h] at this;cases this),fun i c=>?_⟩;obtain⟨E,o,p,b⟩:=mem_ready.1 c;have G:i<ops.size:=(Array.getElem?_eq_some_iff.1 p).1
   have l:i<n:=by
    rcases Nat.lt_or_ge i n with h|h
    ·exact h
    ·obtain⟨oj,U,e,R,J,V⟩:=Region.waitsFor_spec (FY C h G F)
     have:oj=o:=Option.some.inj (U.symm.trans p);subst this;have:=b e R J;rw[V,y] at this;cases this
   have A:vE.getD i false=false:=getD_both E;obtain⟨o',T,hg,_⟩:=jS C l;have e1:o'=o:=Option.some.inj (T.symm.trans p);subst e1;unfold wpOp;simp only[p,Region.wanted,hg,if_true];refine .inl (pQ.wp (H i _ l p w h0) (qW C v vE l p A n (Nat.le_refl _)) ?_);rintro u d ⟨hk,Y⟩;have q:=zL (a:=a) C v vE l (by rw[D];omega) A u n l (Nat.le_refl _);rw[p] at q;have z:dH ops a (fun j=>if j=i then u else v j) (vE.setIfInBounds i true) n=(dH ops a v vE n).put o'.dst u:=q;rw[←z];refine CF C hn x g I B hF H r f _ _ d (by simpa using D) (fun t E h2=>?_) ?_ (hF _ _ h0 hk) ?_
   ·rw[getD_set_ne false (by omega)];exact Z t E h2
   ·have key:∀m,m≤n->((List.range m).countP fun j=>!(vE.setIfInBounds i true).getD j false)+(if i<m then 1 else 0)=(List.range m).countP fun j=>!vE.getD j false:=by
     intro m
     induction m with
     | zero=>simp
     | succ m L =>
       intro hm;have L:=L (by omega);simp only[List.range_succ,List.countP_append,List.countP_singleton]
       by_cases e:m=i
       ·subst e
        have M:(vE.setIfInBounds m true).getD m false=true:=by simp[D,G]
        rw[M,A];simp at L ⊢;exact L
       ·rw[getD_set_ne false (Ne.symm e)]
        have e5:(i<m+1)=(i<m):=propext (by omega);simp only[e5];omega
    have:=key n (Nat.le_refl _);rw[if_pos l] at this;omega
   ·intro j hj K
    by_cases e:j=i
    ·subst e;simpa using Y
    ·rw[getD_set_ne false (Ne.symm e)] at K
     simp only[e,if_false];exact I _ _ _ _ (W j hj K) hk
theorem A5{id:Nat}{w:World}(s:P.follows .mixedOrders=true)(n:Nat)(q:oU ops n=true)(u:n≤ops.size)
 (f:Region.seqB .any ops (ops.size-n) n ((Array.range ops.size).map fun i=>decide (i<n))=true)
 (c:Nat->Value->World->Prop) (p:∀i v w b,c i v w->aA aB w b->c i v b) (d:World->Prop) (hF:∀w b,d w->aA aB w b->d b)
 (l:∀i o,i<n->ops[i]?=some o->∀w,d w->pQ P o a w fun v b=>aA aB w b/\c i v b) (h0:d w.drew)
 (e:∀(v:Nat->Value) (vE:Array Bool) b,(∀i,i<n->vE.getD i false=true)->d b->(∀i,i<n->c i (v i) b)->wpList P ops Q (ops.toList.drop n) (dH ops a v vE n) b) :
 (Code.region id ops true).wp P Q a w:=by
 refine wp_region_any s ?_;have g:∀j,(Array.replicate ops.size false).getD j false=false:=fun j=>getD_replicate_false _ _
 have r:((List.range n).countP fun i=>!(Array.replicate ops.size false).getD i false)=n:=by
  have:((List.range n).countP fun i=>!(Array.replicate ops.size false).getD i false)=(List.range n).length:=List.countP_eq_length.2 fun i _=>by rw[g];rfl
  simpa using this
 have:=CF q u f c p d hF l e n (Array.replicate ops.size false) (fun _=>undef) w.drew (by simp) (fun t _ _=>g t) r h0 (fun i _ h=>by rw[g] at h;cases h)
 have m:dH ops a (fun _=>undef) (Array.replicate ops.size false) n=a:=by
  have:∀k,dH ops a (fun _=>undef) (Array.replicate ops.size false) k=a:=by
   intro k
   induction k with
   | zero=>rfl
   | succ k x=>rw[dH,g,x];rfl
  exact this n
 rw[m,show n+(ops.size-n)=ops.size by omega] at this;exact this
end
section
variable {P:Program}{o:Oper}{a:Act}{w:World}{X:Value->World->Prop}
theorem Eg{v:Value}{w':World}(h:(execOp a.eval o).run P w=.ok (.value v) w')(b:X v w'):pQ P o a w X:=by
 unfold pQ;rw[h];exact b
theorem DD(e:TypeId)(x:Operand)(m:o.op=.load e x)
 (b off:Nat) (q:a.eval x=.pointer (some ⟨b,off,none⟩)) (c:List Value) (d:TypeDesc) (f:w.rangeAt b off c)
 (p:P.underlying e=some d) (g:d.isRow=true) (l:(P.info? e).map (·.size)=some c.length)
 (h:X (.agg c.toArray) w):pQ P o a w X:=by
 refine Eg (v:=.agg c.toArray) (w':=w) ?_ h;unfold execOp;simp only[m,q,Instr.loadAt,Instr.sureAddr,Sem.run_bind,Sem.run_pure,Result.andThen_ok,run_loadVar_mid w b off e c d f p g l]
theorem A6(T:TypeId)(b:o.op=.alloc T)(z:Value)(c:∀w,(zeroValue T).run P w=.ok z w)(h:X (.pointer (w.heap.size)) (w.alloc (.cells z.cells T))):pQ P o a w X:=by
 refine Eg (v:=.pointer (w.heap.size)) (w':=w.alloc (.cells z.cells T)) ?_ h;unfold execOp;simp only[b,Sem.run_bind,Sem.run_pure,nQ c,Result.andThen_ok]
theorem JJ{f:FuncId}{args:Array Value}(h:(execOp a.eval o).run P w=.ok (.enter f args) w)(c:Calls P f args w fun e b=>∃v,e=.returned v/\X v b):pQ P o a w X:=by
 unfold pQ;rw[h];exact c
end
theorem aD{w:World}{b:Nat}{c:List Value}{t:TypeId}{d:Nat×Nat}(e:w.heap[b]?=some (.cells c.toArray t d)):w.rangeAt b 0 c:=fun j v f=>by
 rw[Nat.zero_add,cell_of_row w b j _ _ _ e];simpa using f
open Go.RowKit
def iP(ops:Array Oper):Bool:=ops.all fun o=>match o.op with|.defer _=>false|_=>true
section
variable {P:Program}{lp n:Nat}{Q:Exit->Act->World->Prop}{ops:Array Oper}
variable{a:Act}{w:World}
theorem JK{o:Oper}{K:Act->World->Prop}(d:∀c,o.op≠.defer c)(h:o.wp P a w K Q):o.wpIn (Fence.wide.inRound lp) n P a w K Q:=by
 refine⟨fun _ _=>trivial,?_⟩;rw[Oper.semAt_eq _ _ _ d];unfold Oper.wp at h;generalize (execOp a.eval o).run P w=r at *;cases r with
 | ok x g =>
   cases x<;>simp only[Oper.upon,Oper.uponIn] at h ⊢<;>first
    | exact h
    | exact⟨fun b=>by simp[Fence.wide] at b,(callsIn_wide (n:=n-1)).2 h⟩
    | exact⟨fun b=>by simp[Fence.wide] at b,fun c f _=>let ⟨v,e,r,s⟩:=h c f;⟨v,e,r,stepsIn_wide.2 s⟩⟩
    | exact h.elim
 | halt x g=>cases x<;>simp only[Oper.upon,Oper.uponIn] at h ⊢<;>exact h
theorem mS(b:iP ops=true)(d:¬LetsOut Q):∀(l:List Nat) (a:Act) (w:World),wpOps P ops Q l a w->wpOpsIn (Fence.wide.inRound lp) n P ops Q l a w
 | [],_,_,h=>h
 | i::rest,a,w,h=>by
   simp only[wpOps,wpOpsIn] at h ⊢;cases e:ops[i]? with
   | none=>simp only[e] at h;exact mS b d rest a w h
   | some o =>
     simp only[e] at h ⊢
     have q:∀c,o.op≠.defer c:=by
      intro c p;have:=Array.all_eq_true'.1 b o (Array.mem_of_getElem? e);rw[p] at this;cases this
     split
     ·rename_i f
      rw[if_pos f] at h;rcases h with h|h
      ·exact JK q (Oper.wp_mono (fun g r m=>mS b d rest g r m) h)
      ·exact absurd h.2 d
     ·rename_i f
      rw[if_neg f] at h;exact⟨fun _ _=>trivial,mS b d rest _ w h⟩
theorem bS{id:Nat}{l:List Oper}(b:iP l.toArray=true)(c:¬LetsOut Q)(h:wpList P l.toArray Q l a w) :
 (Code.region id l.toArray false).wpIn (Fence.wide.inRound lp) n P Q a w:=by
 refine wpIn_region (mS b c _ _ _ ?_);rw[List.range_eq_range',←Array.length_toList,wpOps_eq_wpList (ops:=l.toArray) l.toArray.toList 0 (by simp)];exact h
theorem wN{id:Nat}(e:P.follows .mixedOrders=true)(c:iP ops=true)(d:¬LetsOut Q)(h:wpAny P .any ops Q ops.size (Array.replicate ops.size false) a { w with drawn:=w.drawn+1 }) :
 (Code.region id ops true).wpIn (Fence.wide.inRound lp) n P Q a w:=by
 refine wpIn_region_draw fun t=>?_
 simp only[Region.schedule,e,Bool.true_or,if_true];exact mS c d _ _ _ (wpAny_sound ops.size t _ a _ h)
end
section
variable {P:Program}{ops:Array Oper}{Q:Exit->Act->World->Prop}{md:Region.Mode}{S:World->Prop}{i:Nat}
def A7(P:Program)(md:Region.Mode)(ops:Array Oper)(Q:Exit->Act->World->Prop)(S:World->Prop)(i:Nat):Nat->Array Bool->Act->World->Prop
 | 0,vE,a,w=>Region.ready md ops vE=[]/\Q .normal a w
 | xT+1,vE,a,w =>
   (Region.ready md ops vE=[]->Q .normal a w) /\
   ∀j∈Region.ready md ops vE,wpOp P ops Q j (fun c b=>(Region.waitsFor md ops j i=false->S b)/\A7 P md ops Q S i xT (vE.setIfInBounds j true) c b) a w
variable{j:Nat}{oi:Oper}{v:Value}{a:Act}{w:World}
theorem uF:∀(xT:Nat) (vE:Array Bool) (a:Act) (w:World),A7 P md ops Q S i xT vE a w->wpAny P md ops Q xT vE a w
 | 0,_,_,_,h=>h
 | xT+1,_,_,_,h=>⟨h.1,fun i d=>wpOp_mono (fun b e c=>uF xT _ b e c.2) (h.2 i d)⟩
theorem FZ{g:Oper}(d:ops[j]?=some g)(b:∀e∈g.after,Region.binds md e=true->e.on≠i):Region.waitsFor md ops j i=false:=by
 cases h:Region.waitsFor md ops j i with
 | false=>rfl
 | true =>
   obtain⟨p,c,e,m,l,f⟩:=Region.waitsFor_spec h;have:p=g:=Option.some.inj (c.symm.trans d);subst this;exact absurd f (b e m l)
theorem Eh(I:ops[i]?=some oi)(q:∀(j:Nat) (o:Oper) u b,ops[j]?=some o->o.op≠.select u b)
 (N:∀c a w,Q (.panic c) (a.put oi.dst v) w->Q (.panic c) a w) :
 ∀(xT:Nat) (vE:Array Bool) (a:Act) (w:World),
  (∀j t,ops[j]?=some t->j≠i->vE.getD j true=false->(∀e∈t.after,Region.binds md e=true->e.on≠i)->oi.apart ops t=true) ->
  i∈Region.ready md ops vE->YieldsIf P ops S oi v a->S w ->
  A7 P md ops Q S i xT (vE.setIfInBounds i true) (a.put oi.dst v) w->wpAny P md ops Q (xT+1) vE a w:=by
 intro xT
 induction xT with
 | zero =>
   intro vE a w _ s C F H;refine⟨fun h=>(by rw[h] at s;cases s),fun j B=>?_⟩
   by_cases d:j=i
   ·subst d;exact C.wpOp I F (uF _ _ _ _ H)
   ·have:=ready_mono B d
    rw[H.1] at this;cases this
 | succ xT V =>
   intro vE a w f s C F H;refine⟨fun h=>(by rw[h] at s;cases s),fun j B=>?_⟩
   by_cases d:j=i
   ·subst d;exact C.wpOp I F (uF _ _ _ _ H)
   ·have r:=H.2 j (ready_mono B d)
    obtain⟨m,t,l,x⟩:=mem_ready.1 B
    have p:∀e∈t.after,Region.binds md e=true->e.on≠i:=fun e T R G=>by
     have r:=x e T R;have h0:=(mem_ready.1 s).1;rw[G] at r;rcases Nat.lt_or_ge i vE.size with D|D
     ·simp[D] at h0 r;rw[h0] at r;cases r
     ·simp[Array.getElem?_eq_none D] at r
    have M:=wpOp_putIf l (f j t l d m p) (fun u b=>q i oi u b I) (fun u b=>q j t u b l) N C r
    have g:∀k A,ops[k]?=some A->k≠i->(vE.setIfInBounds j true).getD k true=false ->
     (∀e∈A.after,Region.binds md e=true->e.on≠i)->oi.apart ops A=true:=fun k A U J z K=>by
     refine f k A U J ?_ K
     by_cases y:j=k
     ·subst y;exact m
     ·rw[getD_set_ne true y] at z;exact z
    refine wpOp_mono (fun L W E=>V (vE.setIfInBounds j true) L W g (ready_mono s (Ne.symm d)) E.1 (E.2.1 (FZ l p)) ?_) M;rw[Array.setIfInBounds_comm _ _ d];exact E.2.2
theorem kG{o:Oper}{K:Act->World->Prop}(c:ops[j]?=some o)(h:wpList P ops (Exit.then K Q) [o] a w):wpOp P ops Q j K a w:=by
 unfold wpOp;simp only[c];unfold wpList at h;split
 ·rename_i b
  rw[if_pos b] at h;rcases h with h|h
  ·refine .inl ?_
   unfold Oper.wp at *;generalize (execOp a.eval o).run P w=r at *;cases r with
   | ok x d=>cases x<;>exact h
   | halt x d=>cases x<;>exact h
  ·exact .inr h
 ·rename_i b
  rw[if_neg b] at h;exact h
def nS(P:Program)(md:Region.Mode)(ops:Array Oper)(Q:Exit->Act->World->Prop)(S:World->Prop)(i:Nat):Nat->List Oper->Act->World->Prop
 | _,[],a,w=>Q .normal a w
 | k,o::rest,a,w=>wpList P ops (Exit.then (fun c b=>(Region.waitsFor md ops k i=false->S b)/\nS P md ops Q S i (k+1) rest c b) Q) [o] a w
theorem wE:∀(l:List Oper) (k:Nat) (vE:Array Bool) (a:Act) (w:World),(∀j,l[j]?=ops[k+j]?) ->
 Region.seqB md ops l.length k vE=true->nS P md ops Q S i k l a w->A7 P md ops Q S i l.length vE a w
 | [],_,_,_,_,_,b,h=>⟨by simpa [Region.seqB] using b,h⟩
 | o::l,k,vE,a,w,g,b,h=>by
   have h0:ops[k]?=some o:=by simpa using (g 0).symm
   simp only[List.length_cons,Region.seqB,Bool.and_eq_true,decide_eq_true_eq] at b;refine⟨fun e=>(by rw[b.1] at e;cases e),fun j f=>?_⟩;rw[b.1] at f;have c:j=k:=by simpa using f
   subst c;exact wpOp_mono (fun p q d=>⟨d.1,wE l (j+1) _ p q (fun m=>by have:=g (m+1);simpa [Nat.add_assoc,Nat.add_comm 1 m] using this) b.2 d.2⟩) (kG h0 h)
theorem rX:∀(l:List Oper) (k:Nat) (a:Act) (w:World),(∀j,j<l.length->Region.waitsFor md ops (k+j) i=true)->wpList P ops Q l a w->nS P md ops Q S i k l a w
 | [],_,_,_,_,h=>h
 | o::l,k,a,w,m,h=>by
   have h0:Region.waitsFor md ops k i=true:=m 0 (by simp)
   have key:∀d c,wpList P ops Q l d c->(Region.waitsFor md ops k i=false->S c)/\nS P md ops Q S i (k+1) l d c:=fun d c p =>
    ⟨fun e=>(by rw[h0] at e;cases e),rX l (k+1) d c (fun j q=>by have:=m (j+1) (by simpa using q);rwa [show k+(j+1)=k+1+j by omega] at this) p⟩
   unfold nS wpList;unfold wpList at h;split
   ·rename_i b
    rw[if_pos b] at h;rcases h with h|h
    ·refine .inl ?_
     unfold Oper.wp at *;generalize (execOp a.eval o).run P w=r at *;cases r with
     | ok x c=>cases x<;>first|exact key _ _ h|exact h.elim|(simp only[Oper.upon] at h ⊢;exact Rows.mono h fun v g f=>key _ _ f)|(simp only[Oper.upon] at h ⊢;exact Calls.mono h fun e g f=>by cases e<;>first|exact key _ _ f|exact f)
     | halt x c=>cases x<;>exact h
    ·exact .inr h
   ·rename_i b
    rw[if_neg b] at h;exact key _ _ h
theorem Cb(l:List Oper)(k:Nat)(a:Act)(w:World)(h:((List.range l.length).all fun j=>Region.waitsFor md ops (k+j) i)=true)(c:wpList P ops Q l a w):nS P md ops Q S i k l a w:=
 rX l k a w (fun j b=>List.all_eq_true.1 h j (List.mem_range.2 b)) c
theorem Hk(S:World->Prop)(p:ops[0]?=some oi)(g:Region.noSelect ops=true)(q:1≤ops.size)(f:Region.free md ops (Array.replicate ops.size false) 0=true)
 (b:(Region.ready md ops (Array.replicate ops.size false)).contains 0=true) (l:Region.seqB md ops (ops.size-1) 1 ((Array.replicate ops.size false).setIfInBounds 0 true)=true)
 (r:∀c a w,Q (.panic c) (a.put oi.dst v) w->Q (.panic c) a w) (t:YieldsIf P ops S oi v a) (s:S w)
 (h:nS P md ops Q S 0 1 (ops.toList.drop 1) (a.put oi.dst v) w):wpAny P md ops Q ops.size (Array.replicate ops.size false) a w:=by
 have d:(ops.toList.drop 1).length=ops.size-1:=by simp
 have:=wE (ops.toList.drop 1) 1 ((Array.replicate ops.size false).setIfInBounds 0 true) _ w (fun j=>by simp[Nat.add_comm]) (by rw[d];exact l) h;have m:=Eh p (Region.noSelect_spec g) r _ _ a w (Region.free_spec p f) (by simpa using b) t s this;rw[d] at m;have e:ops.size-1+1=ops.size:=by omega
 rwa [e] at m
end
variable{P:Program}{w:World}{ops:Array Oper}{rest:List Oper}{o:Oper}{a:Act}{Q:Exit->Act->World->Prop}{md:Region.Mode}{k xT:Nat}{vE:Array Bool}{S:World->Prop}
theorem Ei:(prog.info? 5).map (·.size)=some 1:=by kernel_rfl
theorem JL(cur:Array Value)(off:Nat)(b:List Value)(h:off+b.length≤cur.size):(cur.toList.take off++(b++cur.toList.drop (off+b.length))).toArray=spl cur off b:=by
 apply Array.ext_getElem?;intro j;rw[jR _ _ _ _ h,List.getElem?_toArray,List.getElem?_append,List.getElem?_append];have e:(cur.toList.take off).length=off:=by simp;omega
 rw[e]
 by_cases c:j<off
 ·rw[if_pos c,if_neg (by omega),List.getElem?_take,if_pos c];simp
 ·rw[if_neg c]
  by_cases d:j-off<b.length
  ·rw[if_pos d,if_pos (by omega)]
  ·rw[if_neg d,if_neg (by omega),List.getElem?_drop,show off+b.length+(j-off-b.length)=j by omega];simp
theorem nT(r:o.guard=none)(d s:Operand)(y C:TypeId)
 (H:o.op=.call { callee:=.builtin .copy,args:=#[d,s],argTypes:=#[y,C] }) (e:TypeId) (J:P.underlying y=some (.slice e)) (x:(P.info? e).map (·.size)=some 1)
 (g off c f:Nat) (E:a.eval d=.slice (some ⟨g,off,none⟩) c f) (K:Value) (m:Nat) (b:List Value) (I:a.eval s=K) (B:Rd w 1 K m b) (k:Nat) (F:k=Nat.min m c)
 (cur:Array Value) (t:TypeId) (A:w.heap[g]?=some (.cells cur t (0,0))) (p:off+k≤cur.size) (N:∀u∈b,u.oneCell'=true)
 (h:∀D,D.heap[g]?=some (.cells (spl cur off (b.take k)) t (0,0))->aA (fun i=>i=g) w D->wpList P ops Q rest (a.put o.dst (goInt k)) D):wpList P ops Q (o::rest) a w:=by
 obtain⟨G,L,q,rfl,Z,h3,h4,R⟩:=B;rcases Nat.eq_zero_or_pos k with h0|h0
 ·refine wpList_copy_nothing r d s y C H e J x _ L c f m q E I (by omega) ?_
  have:=h w (by rw[h0];simpa [spl] using A) (aA.refl _ _)
  rwa [h0] at this
 ·have V:k≤m:=by rw[F];exact Nat.min_le_left _ _
  have l:(b.take k).length=k:=by rw[List.length_take];omega
  obtain⟨M,Y,rfl,T⟩:=R (by omega);refine wpList_copy_own r d s y C H e J x g off c f ⟨M,Y,none⟩ m q E I cur t A (b.take k) (by rw[l,F]) ?_ (by rw[l];exact p) (fun v W=>N v (List.mem_of_mem_take W)) ?_
  ·intro j v z
   rw[iO];rw[List.getElem?_take] at z;split at z
   ·exact T j v z
   ·cases z
  ·rw[JL cur off _ (by rw[l];exact p),l]
   exact h _ (setRow_heap w g _ _ t _ A) ⟨rfl,rfl,rfl,by simp[World.setRow],fun i _ U=>setRow_other w g i _ U⟩
theorem CG(f:ops[k]?=some o)(d:Region.ready md ops vE=[k])
 (h:wpList P ops (Exit.then (fun e g=>wpAny P md ops Q xT (vE.setIfInBounds k true) e g) Q) [o] a w):wpAny P md ops Q (xT+1) vE a w:=
 ⟨fun b=>(by rw[d] at b;cases b),fun j c=>by
  rw[d] at c;obtain rfl:j=k:=by simpa using c
  exact kG f h⟩
theorem DE(c:Region.wanted o (yielded ops a.tmps)=true)
 (h:∀K:Act->World->Prop,(∀a w,wpList P ops Q rest a w->K a w)->o.wp P a w K Q):wpList P ops Q (o::rest) a w:=
 wpList_step fun K b=>by rw[if_pos c];exact h K b
theorem aP{op:Oper}(r:Region.wanted op (yielded ops a.tmps)=true)(e:TypeId)(x:Operand)(p:op.op=.load e x)
 (b o:Nat) (s:a.eval x=.pointer (some ⟨b,o,none⟩)) (c:List Value) (d:TypeDesc) (g:w.rangeAt b o c)
 (q:P.underlying e=some d) (l:d.isRow=true) (m:(P.info? e).map (·.size)=some c.length)
 (h:wpList P ops Q rest (a.put op.dst (.agg c.toArray)) w):wpList P ops Q (op::rest) a w:=
 DE r fun _ f=>wp_load_mid e x p b o s c d g q l m (f _ _ h)
open Go.RowKit
theorem Hl(g:ops[k]?=some o)(d:Region.ready md ops vE=[k])
 (h:wpList P ops (Exit.then (fun f e=>S e/\wpAnyH P md ops Q S xT (vE.setIfInBounds k true) f e) Q) [o] a w):wpAnyH P md ops Q S (xT+1) vE a w:=
 ⟨fun b=>(by rw[d] at b;cases b),fun j c=>by
  rw[d] at c;obtain rfl:j=k:=by simpa using c
  exact kG g h⟩
theorem kT{l:Nat}{m:Oper}(q:ops[k]?=some o)(d:ops[l]?=some m)(g:Region.ready md ops vE=[k,l])
 (h:wpList P ops (Exit.then (fun c b=>S b/\wpAnyH P md ops Q S xT (vE.setIfInBounds k true) c b) Q) [o] a w)
 (p:wpList P ops (Exit.then (fun c b=>S b/\wpAnyH P md ops Q S xT (vE.setIfInBounds l true) c b) Q) [m] a w):wpAnyH P md ops Q S (xT+1) vE a w:=
 ⟨fun e=>(by rw[g] at e;cases e),fun j f=>by
  rw[g] at f;have:j=k\/j=l:=by simpa using f
  rcases this with rfl|rfl
  ·exact kG q h
  ·exact kG d p⟩
theorem wA9 (k:Nat)(h:wpList P ops (Exit.then (fun c b=>S b/\wpAnyH P md ops Q S xT (vE.setIfInBounds k true) c b) Q) [o] a w)(d:ops[k]?=some o:=by rfl)(e:Region.ready md ops vE=[k]:=by kernel_rfl):wpAnyH P md ops Q S (xT+1) vE a w:=Hl d e h
end
end Go.Proofs.YtoeinblfcbpcmaaGreatDoor
