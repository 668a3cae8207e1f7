import Derived.Test.YtiinnfhjpaeffaaGreatU2
import Derived.RangeFuncKeeps
import Derived.RangeFuncNested
namespace Go.Proofs.YtiinnfhjpaeffaaGreat
set_option maxHeartbeats 0
set_option maxRecDepth 100000
set_option linter.unusedVariables false
section
open Go.RowKit
section
variable {P:Program}{ops:Array Oper}{Q:Exit->Act->World->Prop}{md:Region.Mode}{S:World->Prop}{n:Nat}
variable{i j k xT:Nat}{o oi:Oper}{v:Value}{a:Act}{K:Act->World->Prop}{w:World}{vN:Array Bool}{args:Array Value}{R:Ending->World->Prop}{q:Prop}
theorem YieldsIf.wpOpInH(f:ops[i]?=some o)(b:∀c,o.op≠.defer c)(m:YieldsIf P ops S o v a)
 (e:S w) (h:K (a.put o.dst v) w):wpOpIn Fence.wide n P ops Q i K a w:=by
 unfold Go.wpOpIn;simp only[f];rcases m with⟨d,l⟩|⟨d,rfl⟩
 ·simp only[d,if_true,Oper.wpIn]
  refine⟨fun _ _=>trivial,?_⟩;rw[Oper.semAt_eq _ _ _ b,l w e];exact h
 ·simp only[d,Bool.false_eq_true,if_false];exact⟨fun _ _=>trivial,h⟩
theorem EK{m:Oper}(V:ops[j]?=some m)(z:∀c,m.op≠.defer c)(H:oi.apart ops m=true)
 (I:∀E b,oi.op≠.select E b) (J:∀E b,m.op≠.select E b)
 (G:∀c a w,Q (.panic c) (a.put oi.dst v) w->Q (.panic c) a w)
 (s:YieldsIf P ops S oi v a) (h:wpOpIn Fence.wide n P ops Q j K (a.put oi.dst v) w) :
 wpOpIn Fence.wide n P ops Q j (fun N M=>YieldsIf P ops S oi v N/\K (N.put oi.dst v) M) a w:=by
 obtain⟨T,t,U⟩:=Oper.apart_spec H
 have keep:∀(a:Act),YieldsIf P ops S oi v a->∀u,YieldsIf P ops S oi v (a.put m.dst u):=fun a s u =>
  s.of_same (execOp_put oi I a m.dst u U) (wanted_put oi a m.dst u U)
 have y:∀d,YieldsIf P ops S oi v { a with defers:=d::a.defers }:=fun d=>s.of_same rfl rfl
 unfold wpOpIn at *;simp only[V] at *;rw[wanted_put m a oi.dst v T] at h;split
 ·rename_i L
  simp only[L,if_true] at h;unfold Oper.wpIn at *;refine⟨fun _ _=>trivial,?_⟩;have h:=h.2;rw[Oper.semAt_eq _ _ _ z,execOp_put m J a oi.dst v T] at h;rw[Oper.semAt_eq _ _ _ z];generalize (execOp a.eval m).run P w=r at *;cases r with
  | ok x M =>
    cases x<;>simp only[Oper.uponIn] at h ⊢
    case value u=>exact⟨keep a s u,by rw[←Act.put_comm a v u t];exact h⟩
    case skip=>exact⟨keep a s _,by rw[←Act.put_comm a v undef t];exact h⟩
    case defer d =>
     refine⟨keep _ (y d) _,?_⟩;rw[←Act.put_comm _ v undef t,←Act.put_defers];exact h
    case enter f args =>
     refine⟨h.1,CallsIn.mono h.2 fun e C p=>?_⟩;cases e with
     | returned u=>exact⟨keep a s u,by rw[←Act.put_comm a v u t];exact p⟩
     | panicked c=>exact G _ _ _ p
     | outgrown=>exact p
    case row row args=>exact⟨h.1,RowsIn.mono h.2 fun u C p=>⟨keep a s u,by rw[←Act.put_comm a v u t];exact p⟩⟩
    case round l f tmps assign body =>
     refine⟨h.1,RoundIn.mono h.2 fun e C p=>?_⟩;cases e with
     | returned u=>exact⟨keep a s u,by rw[←Act.put_comm a v u t];exact p⟩
     | panicked c=>exact G _ _ _ p
     | outgrown=>exact p
  | halt x M =>
    cases x<;>simp only[Oper.uponIn] at h ⊢
    case panic u=>exact G _ _ _ h
 ·rename_i L
  simp only[L] at h;exact⟨fun _ _=>trivial,keep a s _,by rw[←Act.put_comm a v undef t];exact h.2⟩
def eO(P:Program)(n:Nat)(md:Region.Mode)(ops:Array Oper)(Q:Exit->Act->World->Prop)(S:World->Prop):Nat->Array Bool->Act->World->Prop
 | 0,vN,a,w=>Region.ready md ops vN=[]/\Q .normal a w
 | xT+1,vN,a,w =>
   (Region.ready md ops vN=[]->Q .normal a w) /\
   ∀i∈Region.ready md ops vN,wpOpIn Fence.wide n P ops Q i (fun c b=>S b/\eO P n md ops Q S xT (vN.setIfInBounds i true) c b) a w
theorem sC:∀(xT:Nat) (vN:Array Bool) (a:Act) (w:World),eO P n md ops Q S xT vN a w->wpAnyIn Fence.wide n P md ops Q xT vN a w
 | 0,_,_,_,h=>h
 | xT+1,_,_,_,h=>⟨h.1,fun i d=>wpOpIn_mono (fun b e c=>sC xT _ b e c.2) (h.2 i d)⟩
theorem lR{ops:Array Oper}(h:iT ops=true)(d:ops[j]?=some o):∀c,o.op≠.defer c:=by
 intro c b;have:=Array.all_eq_true'.1 h o (Array.mem_of_getElem? d);rw[b] at this;cases this
theorem DA(t:iT ops=true)(D:ops[i]?=some oi)(r:∀(j:Nat) (o:Oper) y b,ops[j]?=some o->o.op≠.select y b)
 (Y:∀c a w,Q (.panic c) (a.put oi.dst v) w->Q (.panic c) a w) :
 ∀(xT:Nat) (vN:Array Bool) (a:Act) (w:World),
  (∀j x,ops[j]?=some x->j≠i->vN.getD j true=false->(∀e∈x.after,Region.binds md e=true->e.on≠i)->oi.apart ops x=true) ->
  i∈Region.ready md ops vN->YieldsIf P ops S oi v a->S w ->
  eO P n md ops Q S xT (vN.setIfInBounds i true) (a.put oi.dst v) w->eO P n md ops Q S (xT+1) vN a w:=by
 intro xT
 induction xT with
 | zero =>
   intro vN a w _ u M z H;refine⟨fun h=>(by rw[h] at u;cases u),fun j L=>?_⟩
   by_cases d:j=i
   ·subst d;exact YieldsIf.wpOpInH D (lR t D) M z ⟨z,H⟩
   ·have:=ready_mono L d
    rw[H.1] at this;cases this
 | succ xT ih =>
   intro vN a w f u M z H;refine⟨fun h=>(by rw[h] at u;cases u),fun j L=>?_⟩
   by_cases d:j=i
   ·subst d;exact YieldsIf.wpOpInH D (lR t D) M z ⟨z,H⟩
   ·have s:=H.2 j (ready_mono L d)
    obtain⟨p,x,m,C⟩:=mem_ready.1 L
    have G:∀e∈x.after,Region.binds md e=true->e.on≠i:=fun e he Z T=>by
     have s:=C e he Z;have h0:=(mem_ready.1 u).1;rw[T] at s;rcases Nat.lt_or_ge i vN.size with N|N
     ·simp[N] at h0 s;rw[h0] at s;cases s
     ·simp[Array.getElem?_eq_none N] at s
    have X:=EK m (lR t m) (f j x m d p G) (fun y b=>r i oi y b D) (fun y b=>r j x y b m) Y M s
    have l:∀k ok,ops[k]?=some ok->k≠i->(vN.setIfInBounds j true).getD k true=false ->
     (∀e∈ok.after,Region.binds md e=true->e.on≠i)->oi.apart ops ok=true:=fun k ok hk U I V=>by
     refine f k ok hk U ?_ V
     by_cases E:j=k
     ·subst E;exact p
     ·rw[getD_set_ne true E] at I;exact I
    refine wpOpIn_mono (fun W w' J=>⟨J.2.1,ih (vN.setIfInBounds j true) W w' l (ready_mono u (Ne.symm d)) J.1 J.2.1 ?_⟩) X;rw[Array.setIfInBounds_comm _ _ d];exact J.2.2
theorem EL(b:Region.ready md ops vN=[])(h:Q .normal a w):∀xT,eO P n md ops Q S xT vN a w
 | 0=>⟨b,h⟩
 | _+1=>⟨fun _=>h,by rw[b];simp⟩
theorem EM(m:ops[k]?=some o)(p:Region.ready md ops vN=[k])(d:iT ops=true)(u:Region.wanted o (yielded ops a.tmps)=true)
 {f:FuncId}(x:(execOp a.eval o).run P w=.ok (.enter f args) w)(y:Calls P f args w R)
 (h:∀e b,R e b->∃v,e=.returned v/\S b/\eO P n md ops Q S xT (vN.setIfInBounds k true) (a.put o.dst v) b):eO P n md ops Q S (xT+1) vN a w:=
 ⟨fun c=>(by rw[p] at c;cases c),fun j l=>by
  rw[p] at l;obtain rfl:j=k:=by simpa using l
  unfold wpOpIn;simp only[m,u,if_true];refine⟨fun _ _=>trivial,?_⟩;rw[Oper.semAt_eq _ _ _ (lR d m),x];simp only[Oper.uponIn];refine⟨fun s=>by simp[Fence.wide] at s,CallsIn.mono ((callsIn_wide (n:=n-1)).2 y) fun e b t=>?_⟩;obtain⟨v,rfl,c,r⟩:=h e b t;exact⟨c,r⟩⟩
theorem DB(p:ops[k]?=some o)(r:Region.ready md ops vN=[k])(f:iT ops=true)(x:Region.wanted o (yielded ops a.tmps)=true)
 {l:Nat}(y:(execOp a.eval o).run P w=(Instr.yield l args).run P w)(z:YieldAt Fence.wide (n-1) P l args w R)
 (h:∀e c,R e c->∃v,e=.returned v/\S c/\eO P n md ops Q S xT (vN.setIfInBounds k true) (a.put o.dst v) c):eO P n md ops Q S (xT+1) vN a w:=
 ⟨fun d=>(by rw[r] at d;cases d),fun j m=>by
  rw[r] at m;obtain rfl:j=k:=by simpa using m
  unfold wpOpIn;simp only[p,x,if_true];obtain⟨C,tmps,assign,body,b,hR⟩:=z;refine⟨fun _ _=>trivial,?_⟩;rw[Oper.semAt_eq _ _ _ (lR f p),y,b];simp only[Oper.uponIn];refine⟨fun t=>by simp[Fence.wide] at t,hR.mono fun e c u=>?_⟩;obtain⟨v,rfl,d,s⟩:=h e c u;exact⟨d,s⟩⟩
theorem rE(d:ops[i]?=some oi)
 (p:Region.noSelect ops=true) (b:iT ops=true) (l:Region.free md ops vN i=true) (m:(Region.ready md ops vN).contains i=true)
 (e:∀c a w,Q (.panic c) (a.put oi.dst v) w->Q (.panic c) a w) (r:YieldsIf P ops S oi v a) (f:S w)
 (h:eO P n md ops Q S xT (vN.setIfInBounds i true) (a.put oi.dst v) w):eO P n md ops Q S (xT+1) vN a w:=
 DA b d (Region.noSelect_spec p) e xT vN a w (Region.free_spec d l) (by simpa using m) r f h
theorem tia(i:Nat)(v:Value)(m:ops[i]?=some oi)(f:S w)
 (h:q) (e:eO P n md ops Q S xT (vN.setIfInBounds i true) (a.put oi.dst v) w=q:=by first|(simp only[Act.put,List.setIfInBounds_toArray,List.set_cons_zero,List.set_cons_succ,List.getElem_toArray,List.getElem_cons_succ,List.getElem_cons_zero];rfl)|rfl) (r:Region.noSelect ops=true:=by kernel_rfl) (b:iT ops=true:=by kernel_rfl) (l:Region.free md ops vN i=true:=by kernel_rfl) (p:(Region.ready md ops vN).contains i=true:=by kernel_rfl)
 (d:∀c a w,Q (.panic c) (a.put oi.dst v) w->Q (.panic c) a w:=by exact fun _ _ _ h=>h) (s:YieldsIf P ops S oi v a:=by exact .inl ⟨by rfl,fun _ _=>rfl⟩):eO P n md ops Q S (xT+1) vN a w:=rE m r b l p d s f (e▸h)
theorem tib(i:Nat)(v:Value)(m:ops[i]?=some oi)(f:S w)
 (h:q) (e:eO P n md ops Q S xT (vN.setIfInBounds i true) (a.put oi.dst v) w=q:=by first|(simp only[Act.put,List.setIfInBounds_toArray,List.set_cons_zero,List.set_cons_succ,List.getElem_toArray,List.getElem_cons_succ,List.getElem_cons_zero];rfl)|rfl) (r:Region.noSelect ops=true:=by kernel_rfl) (b:iT ops=true:=by kernel_rfl) (l:Region.free md ops vN i=true:=by kernel_rfl) (p:(Region.ready md ops vN).contains i=true:=by kernel_rfl)
 (d:∀c a w,Q (.panic c) (a.put oi.dst v) w->Q (.panic c) a w:=by exact fun _ _ _ h=>h) (s:YieldsIf P ops S oi v a:=by exact .inl ⟨by rfl,fun _ _=>by go_simp⟩):eO P n md ops Q S (xT+1) vN a w:=rE m r b l p d s f (e▸h)
theorem tid(i:Nat)(v:Value)(m:ops[i]?=some oi)(s:YieldsIf P ops S oi v a)(f:S w)
 (h:q) (e:eO P n md ops Q S xT (vN.setIfInBounds i true) (a.put oi.dst v) w=q:=by first|(simp only[Act.put,List.setIfInBounds_toArray,List.set_cons_zero,List.set_cons_succ,List.getElem_toArray,List.getElem_cons_succ,List.getElem_cons_zero];rfl)|rfl) (r:Region.noSelect ops=true:=by kernel_rfl) (b:iT ops=true:=by kernel_rfl) (l:Region.free md ops vN i=true:=by kernel_rfl) (p:(Region.ready md ops vN).contains i=true:=by kernel_rfl)
 (d:∀c a w,Q (.panic c) (a.put oi.dst v) w->Q (.panic c) a w:=by exact fun _ _ _ h=>h):eO P n md ops Q S (xT+1) vN a w:=rE m r b l p d s f (e▸h)
theorem zE{id:Nat}(c:P.follows .mixedOrders=true)
 (h:eO P n .any ops Q S ops.size (Array.replicate ops.size false) a { w with drawn:=w.drawn+1 }):(Code.region id ops true).wpIn Fence.wide n P Q a w:=
 wpIn_region_any c (sC _ _ _ _ h)
end
open Go.RowKit
variable {F:Fence}{n:Nat}{P:Program}
def KpC(Res:Nat->Prop)(W c:World):Prop:=∀k b t fr,¬Res k->W.heap[k]?=some (.cells b t fr)->c.heap[k]?=some (.cells b t fr)
variable{Res S:Nat->Prop}{A B w:World}{g:Operand}{ps:Array Tmp}{assign body:Code}{Q:Exit->Act->World->Prop}{a:Act}{gf:Nat}{lb:Array Value}
theorem KpC.trans{C:World}(h:KpC Res A B)(d:KpC Res B C):KpC Res A C:=fun k b t fr c e=>d k b t fr c (h k b t fr c e)
theorem KpC.put(h:KpC Res A B){l:Nat}{o o':Obj}(f:B.heap[l]?=some o)(m:o.isCells=false):KpC Res A (B.putObj l o'):=fun k c t fr p d=>by
 have b:=h k c t fr p d;have:l≠k:=fun e=>by subst e;rw[f] at b;cases b;cases m
 exact(World.putObj_heap_other (by omega)).trans b
theorem KpC.of(h:aA S A B)(b:∀k,S k->Res k):KpC Res A B:=fun k f t fr d c=>h.blk c (fun e=>d (b k e))
def Ot(Res:Nat->Prop)(c:World->Prop)(W:World):Exit->Act->World->Prop
 | .ret,_,b=>KeepsOthers W b/\KpC Res W b/\c b
 | _,_,_=>False
theorem DC{α:Type}
 (qm:F.round=none) (h1:1≤n)(hg:a.eval g=.func (.func gf) #[] lb) (Z:F.fn gf) (eg:∀args w,(callFunc gf args).run P w=.ok (.enter gf args) w)
 {encs:α->Array Value}{R:α->World->World->Prop}(qc:∀x A B,R x A B->aA aB A B)
 (V:∀(l:Nat) (Jx:α->World->Prop) (W:World),aA aB w W->(∀x c,R x W c->YieldAt F (n-1-1) P l (encs x) c fun e X=>e=.returned (.bool false)/\Jx x X/\KpC Res c X) ->
   CallsIn F (n-1) P gf (#[.func (.yield l) #[] #[]]++lb) W fun e X=>(∃v,e=.returned v)/\∃x,Jx x X)
 (ql:∀x,(encs x).size=ps.size) (I:World->Prop) (hI:∀W l o,w.heap.size<l->I W->W.heap[l]?=some o->o.isCells=false->∀Y,I (W.putObj l Y))
 (y:∀(l:Nat) (x:α) (W c:World),aA aB w W->R x W c->w.heap.size<l ->
   assign.wpIn (F.inRound l) (n-1-1) P (Exit.then (fun a' r=>KeepsOthers c r/\KpC Res c r/\∀o Y,r.heap[l]?=some o->o.isCells=false->body.wpIn (F.inRound l) (n-1-1) P (Ot Res I (r.putObj l Y)) a' (r.putObj l Y)) (fun _ _ _=>False))
    { tmps:=(ps.zip (encs x)).foldl (fun t (p,v)=>t.setIfInBounds p v) a.tmps,defers:=[] } c)
 (C:∀(D:Nat) (W:World),w.heap.size≤D->I W->W.heap[D]?=some (.deferred (some []))->Q .ret { a with defers:={ target:=.collected D,args:=#[] }::a.defers } W) :
 (Code.rangeFunc g ps assign body).wpIn F n P Q a w:=by
 refine wpIn_rangeFunc ?_;intro fn qf;rw[qm];obtain⟨d,b⟩:∃d:LoopState->Option Code->Loop,d=fun st pe=>{ state:=st,pending:=pe,fn,tmps:=a.tmps,params:=ps,assign,body,defers:=w.heap.size }:=⟨_,rfl⟩
 obtain⟨c,s⟩:=zX9 ((w.alloc (.deferred (some []))).alloc (.loop (d .ready none)))
 have qb:c.heap[w.heap.size+1]?=some (.loop (d .ready none)):=by
  rw[←s];have:=World.alloc_heap_new (w.alloc (.deferred (some []))) (.loop (d .ready none));rwa [World.size_alloc] at this
 have qa:c.heap[w.heap.size]?=some (.deferred (some [])):=by
  rw[←s];exact(Below.heap_alloc _ _ _ (by simp)).trans (World.alloc_heap_new w _)
 have J:aA aB w c:=by rw[←s];exact((aA.refl _ _).alloc _).alloc _
 refine⟨w.heap.size+1,[{ target:=.collected w.heap.size,args:=#[] }],c,{ target:=.fn (.func gf) lb,args:=#[.func (.yield (w.heap.size+1)) #[] #[]] },c,gf,
  #[.func (.yield (w.heap.size+1)) #[] #[]]++lb,c,?_,?_,?_,?_,fun _=>h1,?_⟩
 ·rw[←s,b];exact run_enterLoop_outer _ _ _ _ _
 ·simp only[resolve,hg]
  simp[go_sem]
 ·intro f' L;simp[Target.leads] at L;subst L;exact Z
 ·simp[invoke,go_sem,eg]
 ·refine(V (w.heap.size+1) (fun _ W=>I W/\W.heap[w.heap.size+1]?=some (.loop (d .done (some .ret)))/\W.heap[w.heap.size]?=some (.deferred (some []))) c J ?_).mono ?_
  ·intro x W hR
   have N:=qc x _ _ hR;have G:=N.blk qb id;have hk:=N.blk qa id;have hy:=run_yield (P:=P) (args:=encs x) G (by rw[b];exact ql x);rw[b] at hy;refine⟨fn,_,assign,body,hy,roundIn_of_wpIn qf (wpIn_mono (y _ x c W J hR (by omega)) ?_)⟩;intro e a' r E;cases e with
   | normal =>
     obtain⟨T,qe,z⟩:=E;have u:=T.same _ _ G rfl;have qi:=T.same _ _ hk rfl;refine⟨_,run_beginRound u (by rw[b]),?_⟩;have qk:w.heap.size+1<r.heap.size:=(Array.getElem?_eq_some_iff.1 u).1;have qj:(r.putObj (w.heap.size+1) (.loop { d .ready none with state:=.busy })).heap[w.heap.size+1]?=some (.loop { d .ready none with state:=.busy }):=World.putObj_heap_same qk;have qh:(r.putObj (w.heap.size+1) (.loop { d .ready none with state:=.busy })).heap[w.heap.size]?=some (.deferred (some [])):=(World.putObj_heap_other (by omega)).trans qi;refine wpIn_mono (z _ _ u rfl) ?_;intro e3 a3 W3 H;cases e3 with
     | ret =>
       obtain⟨M,qd,qg⟩:=H;have m:=M.same _ _ qj rfl;have U:=run_endRound (P:=P) (some .ret) m;rw[b] at U m;refine⟨_,_,U,rfl,⟨hI _ _ _ (by omega) qg m rfl _,?_,?_⟩,((qe.put u rfl).trans qd).put m rfl⟩
       ·rw[b];exact World.putObj_heap_same (Array.getElem?_eq_some_iff.1 m).1
       ·exact(World.putObj_heap_other (by omega)).trans (M.same _ _ qh rfl)
     | normal=>exact H.elim
     | exit id=>exact H.elim
     | goto t=>exact H.elim
     | panic ch=>exact H.elim
     | outgrown=>exact H.elim
   | ret=>exact E
   | exit id=>exact E
   | goto t=>exact E
   | panic ch=>exact E
   | outgrown=>exact E
  ·rintro e W2 ⟨⟨v,rfl⟩,x,hi,G,hk⟩
   have U:=run_endLoop (P:=P) G (by rw[b];simp);rw[b] at U G;refine⟨some .ret,_,U,?_⟩;exact wpIn_ret (C _ _ (Nat.le_refl _) (hI _ _ _ (by omega) hi G rfl _) ((World.putObj_heap_other (by omega)).trans hk))
variable {F:Fence}{n:Nat}{P:Program}
def KpN(b:Nat)(W c:World):Prop:=∀k o,b≤k->W.heap[k]?=some o->o.isCells=false->c.heap[k]?=some o
theorem KpN.of{b:Nat}(h:aA S A B)(f:∀k o,S k->b≤k->A.heap[k]?=some o->o.isCells=true):KpN b A B:=fun k o l d c=>h.blk d fun e=>by rw[f k o e l d] at c;cases c
def Qh(Res:Nat->Prop)(c:Nat)(I:Nat->World->Prop)(d:World->Prop)(k:Nat)(W:World):Exit->Act->World->Prop
 | .normal,_,b=>KpN c W b/\KpC Res W b/\I (k+1) b
 | .ret,_,b=>KpN c W b/\d b
 | _,_,_=>False
theorem Ca
 (qr:F.round=none) (h1:1≤n)(hg:a.eval g=.func (.func gf) #[] lb) (qf:F.fn gf) (eg:∀args w,(callFunc gf args).run P w=.ok (.enter gf args) w)
 {N:Nat}{encs:Nat->Array Value}
 (qe:∀(l:Nat) (J:Nat->World->Prop) (Jx:World->Prop) (W:World),aA aB w W->J 0 W ->
   (∀k h,k<N->J k h->YieldAt F (n-1-1) P l (encs k) h fun e M=>(e=.returned (.bool true)/\J (k+1) M/\KpC Res h M)\/(e=.returned (.bool false)/\Jx M)) ->
   CallsIn F (n-1) P gf (#[.func (.yield l) #[] #[]]++lb) W fun e M=>(∃v,e=.returned v)/\(J N M\/Jx M))
 (qq:∀k,(encs k).size=ps.size) (I:Nat->World->Prop) (X:World->Prop)
 (qg:∀W,aA aB w W->I 0 W)
 (hI:∀k W l o,w.heap.size≤l->I k W->W.heap[l]?=some o->o.isCells=false->∀V,I k (W.putObj l V))
 (Y:∀W l o,w.heap.size≤l->X W->W.heap[l]?=some o->o.isCells=false->∀V,X (W.putObj l V))
 (C:∀(l k:Nat) (h:World),k<N->I k h->w.heap.size<l ->
   assign.wpIn (F.inRound l) (n-1-1) P (Exit.then (fun a' x=>KpN w.heap.size h x/\KpC Res h x/\∀o V,x.heap[l]?=some o->o.isCells=false->body.wpIn (F.inRound l) (n-1-1) P (Qh Res w.heap.size I X k (x.putObj l V)) a' (x.putObj l V)) (fun _ _ _=>False))
    { tmps:=(ps.zip (encs k)).foldl (fun t (p,v)=>t.setIfInBounds p v) a.tmps,defers:=[] } h)
 (G:∀(D:Nat) (W:World),w.heap.size≤D->I N W->W.heap[D]?=some (.deferred (some []))->Q .normal { a with defers:={ target:=.collected D,args:=#[] }::a.defers } W)
 (L:∀(D:Nat) (W:World),w.heap.size≤D->X W->W.heap[D]?=some (.deferred (some []))->Q .ret { a with defers:={ target:=.collected D,args:=#[] }::a.defers } W) :
 (Code.rangeFunc g ps assign body).wpIn F n P Q a w:=by
 refine wpIn_rangeFunc ?_;intro fn ql;rw[qr];obtain⟨d,b⟩:∃d:LoopState->Option Code->Loop,d=fun st pe=>{ state:=st,pending:=pe,fn,tmps:=a.tmps,params:=ps,assign,body,defers:=w.heap.size }:=⟨_,rfl⟩
 obtain⟨h,y⟩:=zX9 ((w.alloc (.deferred (some []))).alloc (.loop (d .ready none)))
 have qi:h.heap[w.heap.size+1]?=some (.loop (d .ready none)):=by
  rw[←y];have:=World.alloc_heap_new (w.alloc (.deferred (some []))) (.loop (d .ready none));rwa [World.size_alloc] at this
 have qh:h.heap[w.heap.size]?=some (.deferred (some [])):=by
  rw[←y];exact(Below.heap_alloc _ _ _ (by simp)).trans (World.alloc_heap_new w _)
 have Z:aA aB w h:=by rw[←y];exact((aA.refl _ _).alloc _).alloc _
 refine⟨w.heap.size+1,[{ target:=.collected w.heap.size,args:=#[] }],h,{ target:=.fn (.func gf) lb,args:=#[.func (.yield (w.heap.size+1)) #[] #[]] },h,gf,
  #[.func (.yield (w.heap.size+1)) #[] #[]]++lb,h,?_,?_,?_,?_,fun _=>h1,?_⟩
 ·rw[←y,b];exact run_enterLoop_outer _ _ _ _ _
 ·simp only[resolve,hg]
  simp[go_sem]
 ·intro f' qa;simp[Target.leads] at qa;subst qa;exact qf
 ·simp[invoke,go_sem,eg]
 ·refine(qe (w.heap.size+1) (fun k W=>I k W/\W.heap[w.heap.size+1]?=some (.loop (d .ready none))/\W.heap[w.heap.size]?=some (.deferred (some [])))
   (fun W=>X W/\W.heap[w.heap.size+1]?=some (.loop (d .done (some .ret)))/\W.heap[w.heap.size]?=some (.deferred (some []))) h Z ⟨qg _ Z,qi,qh⟩ ?_).mono ?_
  ·rintro k W qn ⟨qm,u,hk⟩
   have hy:=run_yield (P:=P) (args:=encs k) u (by rw[b];exact qq k);rw[b] at hy;refine⟨fn,_,assign,body,hy,roundIn_of_wpIn ql (wpIn_mono (C _ k W qn qm (by omega)) ?_)⟩;intro e a' x T;cases e with
   | normal =>
     obtain⟨qc,qk,E⟩:=T;have z:=qc _ _ (by omega) u rfl;have qo:=qc _ _ (Nat.le_refl _) hk rfl;refine⟨_,run_beginRound z (by rw[b]),?_⟩;have qp:w.heap.size+1<x.heap.size:=(Array.getElem?_eq_some_iff.1 z).1;have qd:(x.putObj (w.heap.size+1) (.loop { d .ready none with state:=.busy })).heap[w.heap.size+1]?=some (.loop { d .ready none with state:=.busy }):=World.putObj_heap_same qp;have qb:(x.putObj (w.heap.size+1) (.loop { d .ready none with state:=.busy })).heap[w.heap.size]?=some (.deferred (some [])):=(World.putObj_heap_other (by omega)).trans qo;refine wpIn_mono (E _ _ z rfl) ?_;intro e3 a3 W3 U;cases e3 with
     | normal =>
       obtain⟨r,qj,H⟩:=U;have c:=r _ _ (by omega) qd rfl;have s:=run_endRound (P:=P) none c;rw[b] at s c;refine⟨_,_,s,.inl ⟨rfl,⟨hI _ _ _ _ (by omega) H c rfl _,?_,?_⟩,((qk.put z rfl).trans qj).put c rfl⟩⟩
       ·rw[b];exact World.putObj_heap_same (Array.getElem?_eq_some_iff.1 c).1
       ·exact(World.putObj_heap_other (by omega)).trans (r _ _ (Nat.le_refl _) qb rfl)
     | ret =>
       obtain⟨r,H⟩:=U;have c:=r _ _ (by omega) qd rfl;have s:=run_endRound (P:=P) (some .ret) c;rw[b] at s c;refine⟨_,_,s,.inr ⟨rfl,Y _ _ _ (by omega) H c rfl _,?_,?_⟩⟩
       ·rw[b];exact World.putObj_heap_same (Array.getElem?_eq_some_iff.1 c).1
       ·exact(World.putObj_heap_other (by omega)).trans (r _ _ (Nat.le_refl _) qb rfl)
     | exit id=>exact U.elim
     | goto t=>exact U.elim
     | panic ch=>exact U.elim
     | outgrown=>exact U.elim
   | ret=>exact T
   | exit id=>exact T
   | goto t=>exact T
   | panic ch=>exact T
   | outgrown=>exact T
  ·rintro e W2 ⟨⟨v,rfl⟩,⟨hi,u,hk⟩|⟨hi,u,hk⟩⟩
   ·have s:=run_endLoop (P:=P) u (by rw[b];simp)
    rw[b] at s u;refine⟨none,_,s,?_⟩;exact G _ _ (Nat.le_refl _) (hI _ _ _ _ (by omega) hi u rfl _) ((World.putObj_heap_other (by omega)).trans hk)
   ·have s:=run_endLoop (P:=P) u (by rw[b];simp)
    rw[b] at s u;refine⟨some .ret,_,s,?_⟩;exact wpIn_ret (L _ _ (Nat.le_refl _) (Y _ _ _ (by omega) hi u rfl _) ((World.putObj_heap_other (by omega)).trans hk))
end
end Go.Proofs.YtiinnfhjpaeffaaGreat
