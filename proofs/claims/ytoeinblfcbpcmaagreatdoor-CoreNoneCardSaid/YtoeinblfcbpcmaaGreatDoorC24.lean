import Derived.Test.YtoeinblfcbpcmaaGreatDoorC2
import Derived.RangeFuncKeeps
import Derived.RangeFuncNested
namespace Go.Proofs.YtoeinblfcbpcmaaGreatDoor
set_option maxHeartbeats 0
set_option maxRecDepth 100000
set_option linter.unusedVariables false
section
open Go.RowKit
section
variable {P:Program}{ops:Array Oper}{Q:Exit->Act->World->Prop}{md:Region.Mode}{S:World->Prop}{n:Nat}
variable{i j k xT:Nat}{o oi:Oper}{v:Value}{a:Act}{K:Act->World->Prop}{w:World}{vE:Array Bool}{args:Array Value}{R:Ending->World->Prop}{q:Prop}
theorem YieldsIf.wpOpInH(f:ops[i]?=some o)(b:∀c,o.op≠.defer c)(l:YieldsIf P ops S o v a)
 (e:S w) (h:K (a.put o.dst v) w):wpOpIn Fence.wide n P ops Q i K a w:=by
 unfold Go.wpOpIn;simp only[f];rcases l with⟨d,g⟩|⟨d,rfl⟩
 ·simp only[d,if_true,Oper.wpIn]
  refine⟨fun _ _=>trivial,?_⟩;rw[Oper.semAt_eq _ _ _ b,g w e];exact h
 ·simp only[d,Bool.false_eq_true,if_false];exact⟨fun _ _=>trivial,h⟩
theorem E7{g:Oper}(U:ops[j]?=some g)(y:∀c,g.op≠.defer c)(G:oi.apart ops g=true)
 (H:∀D b,oi.op≠.select D b) (I:∀D b,g.op≠.select D b)
 (E:∀c a w,Q (.panic c) (a.put oi.dst v) w->Q (.panic c) a w)
 (p:YieldsIf P ops S oi v a) (h:wpOpIn Fence.wide n P ops Q j K (a.put oi.dst v) w) :
 wpOpIn Fence.wide n P ops Q j (fun M L=>YieldsIf P ops S oi v M/\K (M.put oi.dst v) L) a w:=by
 obtain⟨N,s,T⟩:=Oper.apart_spec G
 have keep:∀(a:Act),YieldsIf P ops S oi v a->∀u,YieldsIf P ops S oi v (a.put g.dst u):=fun a p u =>
  p.of_same (execOp_put oi H a g.dst u T) (wanted_put oi a g.dst u T)
 have t:∀d,YieldsIf P ops S oi v { a with defers:=d::a.defers }:=fun d=>p.of_same rfl rfl
 unfold wpOpIn at *;simp only[U] at *;rw[wanted_put g a oi.dst v N] at h;split
 ·rename_i J
  simp only[J,if_true] at h;unfold Oper.wpIn at *;refine⟨fun _ _=>trivial,?_⟩;have h:=h.2;rw[Oper.semAt_eq _ _ _ y,execOp_put g I a oi.dst v N] at h;rw[Oper.semAt_eq _ _ _ y];generalize (execOp a.eval g).run P w=r at *;cases r with
  | ok x L =>
    cases x<;>simp only[Oper.uponIn] at h ⊢
    case value u=>exact⟨keep a p u,by rw[←Act.put_comm a v u s];exact h⟩
    case skip=>exact⟨keep a p _,by rw[←Act.put_comm a v undef s];exact h⟩
    case defer d =>
     refine⟨keep _ (t d) _,?_⟩;rw[←Act.put_comm _ v undef s,←Act.put_defers];exact h
    case enter f args =>
     refine⟨h.1,CallsIn.mono h.2 fun e z m=>?_⟩;cases e with
     | returned u=>exact⟨keep a p u,by rw[←Act.put_comm a v u s];exact m⟩
     | panicked c=>exact E _ _ _ m
     | outgrown=>exact m
    case row row args=>exact⟨h.1,RowsIn.mono h.2 fun u z m=>⟨keep a p u,by rw[←Act.put_comm a v u s];exact m⟩⟩
    case round l f tmps assign body =>
     refine⟨h.1,RoundIn.mono h.2 fun e z m=>?_⟩;cases e with
     | returned u=>exact⟨keep a p u,by rw[←Act.put_comm a v u s];exact m⟩
     | panicked c=>exact E _ _ _ m
     | outgrown=>exact m
  | halt x L =>
    cases x<;>simp only[Oper.uponIn] at h ⊢
    case panic u=>exact E _ _ _ h
 ·rename_i J
  simp only[J] at h;exact⟨fun _ _=>trivial,keep a p _,by rw[←Act.put_comm a v undef s];exact h.2⟩
def eG(P:Program)(n:Nat)(md:Region.Mode)(ops:Array Oper)(Q:Exit->Act->World->Prop)(S:World->Prop):Nat->Array Bool->Act->World->Prop
 | 0,vE,a,w=>Region.ready md ops vE=[]/\Q .normal a w
 | xT+1,vE,a,w =>
   (Region.ready md ops vE=[]->Q .normal a w) /\
   ∀i∈Region.ready md ops vE,wpOpIn Fence.wide n P ops Q i (fun c b=>S b/\eG P n md ops Q S xT (vE.setIfInBounds i true) c b) a w
theorem sD:∀(xT:Nat) (vE:Array Bool) (a:Act) (w:World),eG P n md ops Q S xT vE a w->wpAnyIn Fence.wide n P md ops Q xT vE a w
 | 0,_,_,_,h=>h
 | xT+1,_,_,_,h=>⟨h.1,fun i d=>wpOpIn_mono (fun b e c=>sD xT _ b e c.2) (h.2 i d)⟩
theorem lP{ops:Array Oper}(h:iP ops=true)(d:ops[j]?=some o):∀c,o.op≠.defer c:=by
 intro c b;have:=Array.all_eq_true'.1 h o (Array.mem_of_getElem? d);rw[b] at this;cases this
theorem DP(s:iP ops=true)(C:ops[i]?=some oi)(p:∀(j:Nat) (o:Oper) x b,ops[j]?=some o->o.op≠.select x b)
 (Y:∀c a w,Q (.panic c) (a.put oi.dst v) w->Q (.panic c) a w) :
 ∀(xT:Nat) (vE:Array Bool) (a:Act) (w:World),
  (∀j u,ops[j]?=some u->j≠i->vE.getD j true=false->(∀e∈u.after,Region.binds md e=true->e.on≠i)->oi.apart ops u=true) ->
  i∈Region.ready md ops vE->YieldsIf P ops S oi v a->S w ->
  eG P n md ops Q S xT (vE.setIfInBounds i true) (a.put oi.dst v) w->eG P n md ops Q S (xT+1) vE a w:=by
 intro xT
 induction xT with
 | zero =>
   intro vE a w _ t M y H;refine⟨fun h=>(by rw[h] at t;cases t),fun j L=>?_⟩
   by_cases d:j=i
   ·subst d;exact YieldsIf.wpOpInH C (lP s C) M y ⟨y,H⟩
   ·have:=ready_mono L d
    rw[H.1] at this;cases this
 | succ xT ih =>
   intro vE a w f t M y H;refine⟨fun h=>(by rw[h] at t;cases t),fun j L=>?_⟩
   by_cases d:j=i
   ·subst d;exact YieldsIf.wpOpInH C (lP s C) M y ⟨y,H⟩
   ·have r:=H.2 j (ready_mono L d)
    obtain⟨m,u,l,z⟩:=mem_ready.1 L
    have E:∀e∈u.after,Region.binds md e=true->e.on≠i:=fun e he Z T=>by
     have r:=z e he Z;have h0:=(mem_ready.1 t).1;rw[T] at r;rcases Nat.lt_or_ge i vE.size with N|N
     ·simp[N] at h0 r;rw[h0] at r;cases r
     ·simp[Array.getElem?_eq_none N] at r
    have X:=E7 l (lP s l) (f j u l d m E) (fun x b=>p i oi x b C) (fun x b=>p j u x b l) Y M r
    have g:∀k I,ops[k]?=some I->k≠i->(vE.setIfInBounds j true).getD k true=false ->
     (∀e∈I.after,Region.binds md e=true->e.on≠i)->oi.apart ops I=true:=fun k I hk U G V=>by
     refine f k I hk U ?_ V
     by_cases D:j=k
     ·subst D;exact m
     ·rw[getD_set_ne true D] at G;exact G
    refine wpOpIn_mono (fun W w' J=>⟨J.2.1,ih (vE.setIfInBounds j true) W w' g (ready_mono t (Ne.symm d)) J.1 J.2.1 ?_⟩) X;rw[Array.setIfInBounds_comm _ _ d];exact J.2.2
theorem E8(b:Region.ready md ops vE=[])(h:Q .normal a w):∀xT,eG P n md ops Q S xT vE a w
 | 0=>⟨b,h⟩
 | _+1=>⟨fun _=>h,by rw[b];simp⟩
theorem E9(l:ops[k]?=some o)(m:Region.ready md ops vE=[k])(d:iP ops=true)(t:Region.wanted o (yielded ops a.tmps)=true)
 {f:FuncId}(u:(execOp a.eval o).run P w=.ok (.enter f args) w)(x:Calls P f args w R)
 (h:∀e b,R e b->∃v,e=.returned v/\S b/\eG P n md ops Q S xT (vE.setIfInBounds k true) (a.put o.dst v) b):eG P n md ops Q S (xT+1) vE a w:=
 ⟨fun c=>(by rw[m] at c;cases c),fun j g=>by
  rw[m] at g;obtain rfl:j=k:=by simpa using g
  unfold wpOpIn;simp only[l,t,if_true];refine⟨fun _ _=>trivial,?_⟩;rw[Oper.semAt_eq _ _ _ (lP d l),u];simp only[Oper.uponIn];refine⟨fun r=>by simp[Fence.wide] at r,CallsIn.mono ((callsIn_wide (n:=n-1)).2 x) fun e b s=>?_⟩;obtain⟨v,rfl,c,p⟩:=h e b s;exact⟨c,p⟩⟩
theorem DQ(m:ops[k]?=some o)(p:Region.ready md ops vE=[k])(f:iP ops=true)(x:Region.wanted o (yielded ops a.tmps)=true)
 {l:Nat}(y:(execOp a.eval o).run P w=(Instr.yield l args).run P w)(z:YieldAt Fence.wide (n-1) P l args w R)
 (h:∀e c,R e c->∃v,e=.returned v/\S c/\eG P n md ops Q S xT (vE.setIfInBounds k true) (a.put o.dst v) c):eG P n md ops Q S (xT+1) vE a w:=
 ⟨fun d=>(by rw[p] at d;cases d),fun j g=>by
  rw[p] at g;obtain rfl:j=k:=by simpa using g
  unfold wpOpIn;simp only[m,x,if_true];obtain⟨C,tmps,assign,body,b,s⟩:=z;refine⟨fun _ _=>trivial,?_⟩;rw[Oper.semAt_eq _ _ _ (lP f m),y,b];simp only[Oper.uponIn];refine⟨fun t=>by simp[Fence.wide] at t,s.mono fun e c u=>?_⟩;obtain⟨v,rfl,d,r⟩:=h e c u;exact⟨d,r⟩⟩
theorem rI(d:ops[i]?=some oi)
 (m:Region.noSelect ops=true) (b:iP ops=true) (g:Region.free md ops vE i=true) (l:(Region.ready md ops vE).contains i=true)
 (e:∀c a w,Q (.panic c) (a.put oi.dst v) w->Q (.panic c) a w) (p:YieldsIf P ops S oi v a) (f:S w)
 (h:eG P n md ops Q S xT (vE.setIfInBounds i true) (a.put oi.dst v) w):eG P n md ops Q S (xT+1) vE a w:=
 DP b d (Region.noSelect_spec m) e xT vE a w (Region.free_spec d g) (by simpa using l) p f h
theorem tia(i:Nat)(v:Value)(l:ops[i]?=some oi)(f:S w)
 (h:q) (e:eG P n md ops Q S xT (vE.setIfInBounds i true) (a.put oi.dst v) w=q:=by first|(simp only[Act.put,List.setIfInBounds_toArray,List.set_cons_zero,List.set_cons_succ,List.getElem_toArray,List.getElem_cons_succ,List.getElem_cons_zero];rfl)|rfl) (p:Region.noSelect ops=true:=by kernel_rfl) (b:iP ops=true:=by kernel_rfl) (g:Region.free md ops vE i=true:=by kernel_rfl) (m:(Region.ready md ops vE).contains i=true:=by kernel_rfl)
 (d:∀c a w,Q (.panic c) (a.put oi.dst v) w->Q (.panic c) a w:=by exact fun _ _ _ h=>h) (r:YieldsIf P ops S oi v a:=by exact .inl ⟨by rfl,fun _ _=>rfl⟩):eG P n md ops Q S (xT+1) vE a w:=rI l p b g m d r f (e▸h)
theorem tib(i:Nat)(v:Value)(l:ops[i]?=some oi)(f:S w)
 (h:q) (e:eG P n md ops Q S xT (vE.setIfInBounds i true) (a.put oi.dst v) w=q:=by first|(simp only[Act.put,List.setIfInBounds_toArray,List.set_cons_zero,List.set_cons_succ,List.getElem_toArray,List.getElem_cons_succ,List.getElem_cons_zero];rfl)|rfl) (p:Region.noSelect ops=true:=by kernel_rfl) (b:iP ops=true:=by kernel_rfl) (g:Region.free md ops vE i=true:=by kernel_rfl) (m:(Region.ready md ops vE).contains i=true:=by kernel_rfl)
 (d:∀c a w,Q (.panic c) (a.put oi.dst v) w->Q (.panic c) a w:=by exact fun _ _ _ h=>h) (r:YieldsIf P ops S oi v a:=by exact .inl ⟨by rfl,fun _ _=>by go_simp⟩):eG P n md ops Q S (xT+1) vE a w:=rI l p b g m d r f (e▸h)
theorem tid(i:Nat)(v:Value)(l:ops[i]?=some oi)(r:YieldsIf P ops S oi v a)(f:S w)
 (h:q) (e:eG P n md ops Q S xT (vE.setIfInBounds i true) (a.put oi.dst v) w=q:=by first|(simp only[Act.put,List.setIfInBounds_toArray,List.set_cons_zero,List.set_cons_succ,List.getElem_toArray,List.getElem_cons_succ,List.getElem_cons_zero];rfl)|rfl) (p:Region.noSelect ops=true:=by kernel_rfl) (b:iP ops=true:=by kernel_rfl) (g:Region.free md ops vE i=true:=by kernel_rfl) (m:(Region.ready md ops vE).contains i=true:=by kernel_rfl)
 (d:∀c a w,Q (.panic c) (a.put oi.dst v) w->Q (.panic c) a w:=by exact fun _ _ _ h=>h):eG P n md ops Q S (xT+1) vE a w:=rI l p b g m d r f (e▸h)
theorem zK{id:Nat}(c:P.follows .mixedOrders=true)
 (h:eG P n .any ops Q S ops.size (Array.replicate ops.size false) a { w with drawn:=w.drawn+1 }):(Code.region id ops true).wpIn Fence.wide n P Q a w:=
 wpIn_region_any c (sD _ _ _ _ h)
end
open Go.RowKit
variable {F:Fence}{n:Nat}{P:Program}
def KpC(Res:Nat->Prop)(W d:World):Prop:=∀k b t c,¬Res k->W.heap[k]?=some (.cells b t c)->d.heap[k]?=some (.cells b t c)
variable{Res:Nat->Prop}{A B:World}
theorem KpC.trans{C:World}(h:KpC Res A B)(e:KpC Res B C):KpC Res A C:=fun k b t c d f=>e k b t c d (h k b t c d f)
theorem KpC.put(h:KpC Res A B){l:Nat}{o o':Obj}(g:B.heap[l]?=some o)(m:o.isCells=false):KpC Res A (B.putObj l o'):=fun k c t d p f=>by
 have b:=h k c t d p f;have:l≠k:=fun e=>by subst e;rw[g] at b;cases b;cases m
 exact(World.putObj_heap_other (by omega)).trans b
theorem KpC.of{S:Nat->Prop}(h:aA S A B)(b:∀k,S k->Res k):KpC Res A B:=fun k f t g d c=>h.blk c (fun e=>d (b k e))
theorem KpC.refl(A:World):KpC Res A A:=fun _ _ _ _ _ h=>h
def Ph(Res:Nat->Prop)(c:World->Prop)(W:World):Exit->Act->World->Prop
 | .ret,_,b=>KeepsOthers W b/\KpC Res W b/\c b
 | _,_,_=>False
theorem DS{α:Type}{g:Operand}{Z:Array Tmp}{assign body:Code}{Q:Exit->Act->World->Prop}{a:Act}{w:World}
 (qo:F.round=none) (h1:1≤n){gf:Nat}{lb:Array Value}(hg:a.eval g=.func (.func gf) #[] lb) (qa:F.fn gf) (eg:∀args w,(callFunc gf args).run P w=.ok (.enter gf args) w)
 {encs:α->Array Value}{R:α->World->World->Prop}(qe:∀x A B,R x A B->aA aB A B)
 (V:∀(l:Nat) (Jx:α->World->Prop) (W:World),aA aB w W->(∀x c,R x W c->YieldAt F (n-1-1) P l (encs x) c fun e X=>e=.returned (.bool false)/\Jx x X/\KpC Res c X) ->
   CallsIn F (n-1) P gf (#[.func (.yield l) #[] #[]]++lb) W fun e X=>(∃v,e=.returned v)/\∃x,Jx x X)
 (qn:∀x,(encs x).size=Z.size) (I:World->Prop) (hI:∀W l o,w.heap.size<l->I W->W.heap[l]?=some o->o.isCells=false->∀Y,I (W.putObj l Y))
 (y:∀(l:Nat) (x:α) (W c:World),aA aB w W->R x W c->w.heap.size<l ->
   assign.wpIn (F.inRound l) (n-1-1) P (Exit.then (fun a' r=>KeepsOthers c r/\KpC Res c r/\∀o Y,r.heap[l]?=some o->o.isCells=false->body.wpIn (F.inRound l) (n-1-1) P (Ph Res I (r.putObj l Y)) a' (r.putObj l Y)) (fun _ _ _=>False))
    { tmps:=(Z.zip (encs x)).foldl (fun t (p,v)=>t.setIfInBounds p v) a.tmps,defers:=[] } c)
 (C:∀(D:Nat) (W:World),w.heap.size≤D->I W->W.heap[D]?=some (.deferred (some []))->Q .ret { a with defers:={ target:=.collected D,args:=#[] }::a.defers } W) :
 (Code.rangeFunc g Z assign body).wpIn F n P Q a w:=by
 refine wpIn_rangeFunc ?_;intro fn qh;rw[qo];obtain⟨d,b⟩:∃d:LoopState->Option Code->Loop,d=fun st pe=>{ state:=st,pending:=pe,fn,tmps:=a.tmps,params:=Z,assign,body,defers:=w.heap.size }:=⟨_,rfl⟩
 obtain⟨c,s⟩:=zX9 ((w.alloc (.deferred (some []))).alloc (.loop (d .ready none)))
 have qd:c.heap[w.heap.size+1]?=some (.loop (d .ready none)):=by
  rw[←s];have:=World.alloc_heap_new (w.alloc (.deferred (some []))) (.loop (d .ready none));rwa [World.size_alloc] at this
 have qc:c.heap[w.heap.size]?=some (.deferred (some [])):=by
  rw[←s];exact(Below.heap_alloc _ _ _ (by simp)).trans (World.alloc_heap_new w _)
 have J:aA aB w c:=by rw[←s];exact((aA.refl _ _).alloc _).alloc _
 refine⟨w.heap.size+1,[{ target:=.collected w.heap.size,args:=#[] }],c,{ target:=.fn (.func gf) lb,args:=#[.func (.yield (w.heap.size+1)) #[] #[]] },c,gf,
  #[.func (.yield (w.heap.size+1)) #[] #[]]++lb,c,?_,?_,?_,?_,fun _=>h1,?_⟩
 ·rw[←s,b];exact run_enterLoop_outer _ _ _ _ _
 ·simp only[resolve,hg]
  simp[go_sem]
 ·intro f' L;simp[Target.leads] at L;subst L;exact qa
 ·simp[invoke,go_sem,eg]
 ·refine(V (w.heap.size+1) (fun _ W=>I W/\W.heap[w.heap.size+1]?=some (.loop (d .done (some .ret)))/\W.heap[w.heap.size]?=some (.deferred (some []))) c J ?_).mono ?_
  ·intro x W hR
   have N:=qe x _ _ hR;have G:=N.blk qd id;have hk:=N.blk qc id;have hy:=run_yield (P:=P) (args:=encs x) G (by rw[b];exact qn x);rw[b] at hy;refine⟨fn,_,assign,body,hy,roundIn_of_wpIn qh (wpIn_mono (y _ x c W J hR (by omega)) ?_)⟩;intro e a' r E;cases e with
   | normal =>
     obtain⟨T,qg,z⟩:=E;have u:=T.same _ _ G rfl;have qk:=T.same _ _ hk rfl;refine⟨_,run_beginRound u (by rw[b]),?_⟩;have qm:w.heap.size+1<r.heap.size:=(Array.getElem?_eq_some_iff.1 u).1;have ql:(r.putObj (w.heap.size+1) (.loop { d .ready none with state:=.busy })).heap[w.heap.size+1]?=some (.loop { d .ready none with state:=.busy }):=World.putObj_heap_same qm;have qj:(r.putObj (w.heap.size+1) (.loop { d .ready none with state:=.busy })).heap[w.heap.size]?=some (.deferred (some [])):=(World.putObj_heap_other (by omega)).trans qk;refine wpIn_mono (z _ _ u rfl) ?_;intro e3 a3 W3 H;cases e3 with
     | ret =>
       obtain⟨M,qf,qi⟩:=H;have m:=M.same _ _ ql rfl;have U:=run_endRound (P:=P) (some .ret) m;rw[b] at U m;refine⟨_,_,U,rfl,⟨hI _ _ _ (by omega) qi m rfl _,?_,?_⟩,((qg.put u rfl).trans qf).put m rfl⟩
       ·rw[b];exact World.putObj_heap_same (Array.getElem?_eq_some_iff.1 m).1
       ·exact(World.putObj_heap_other (by omega)).trans (M.same _ _ qj rfl)
     | normal=>exact H.elim
     | exit id=>exact H.elim
     | goto t=>exact H.elim
     | panic ch=>exact H.elim
     | outgrown=>exact H.elim
   | ret=>exact E
   | exit id=>exact E
   | goto t=>exact E
   | panic ch=>exact E
   | outgrown=>exact E
  ·rintro e W2 ⟨⟨v,rfl⟩,x,hi,G,hk⟩
   have U:=run_endLoop (P:=P) G (by rw[b];simp);rw[b] at U G;refine⟨some .ret,_,U,?_⟩;exact wpIn_ret (C _ _ (Nat.le_refl _) (hI _ _ _ (by omega) hi G rfl _) ((World.putObj_heap_other (by omega)).trans hk))
end
end Go.Proofs.YtoeinblfcbpcmaaGreatDoor
