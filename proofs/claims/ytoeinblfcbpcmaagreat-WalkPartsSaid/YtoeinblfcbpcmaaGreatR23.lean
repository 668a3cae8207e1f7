import Derived.Test.YtoeinblfcbpcmaaGreatR2
import Derived.RangeFuncKeeps
import Derived.RangeFuncNested
namespace Go.Proofs.YtoeinblfcbpcmaaGreat
set_option maxHeartbeats 0
set_option maxRecDepth 100000
set_option linter.unusedVariables false
section
open Go.RowKit
section
variable {P:Program}{ops:Array Oper}{Q:Exit->Act->World->Prop}{md:Region.Mode}{S:World->Prop}{n:Nat}
variable{i j k xT:Nat}{o oi:Oper}{v:Value}{a:Act}{K:Act->World->Prop}{w:World}{vN:Array Bool}{args:Array Value}{R:Ending->World->Prop}{q:Prop}
theorem YieldsIf.wpOpInH(f:ops[i]?=some o)(b:∀c,o.op≠.defer c)(m:YieldsIf P ops S o v a)
 (e:S w) (h:K (a.put o.dst v) w):wpOpIn Fence.wide n P ops Q i K a w:=by
 unfold Go.wpOpIn;simp only[f];rcases m with⟨d,l⟩|⟨d,rfl⟩
 ·simp only[d,if_true,Oper.wpIn]
  refine⟨fun _ _=>trivial,?_⟩;rw[Oper.semAt_eq _ _ _ b,l w e];exact h
 ·simp only[d,Bool.false_eq_true,if_false];exact⟨fun _ _=>trivial,h⟩
theorem EP{m:Oper}(W:ops[j]?=some m)(z:∀c,m.op≠.defer c)(I:oi.apart ops m=true)
 (J:∀G b,oi.op≠.select G b) (L:∀G b,m.op≠.select G b)
 (H:∀c a w,Q (.panic c) (a.put oi.dst v) w->Q (.panic c) a w)
 (s:YieldsIf P ops S oi v a) (h:wpOpIn Fence.wide n P ops Q j K (a.put oi.dst v) w) :
 wpOpIn Fence.wide n P ops Q j (fun T N=>YieldsIf P ops S oi v T/\K (T.put oi.dst v) N) a w:=by
 obtain⟨U,t,V⟩:=Oper.apart_spec I
 have keep:∀(a:Act),YieldsIf P ops S oi v a->∀u,YieldsIf P ops S oi v (a.put m.dst u):=fun a s u =>
  s.of_same (execOp_put oi J a m.dst u V) (wanted_put oi a m.dst u V)
 have y:∀d,YieldsIf P ops S oi v { a with defers:=d::a.defers }:=fun d=>s.of_same rfl rfl
 unfold wpOpIn at *;simp only[W] at *;rw[wanted_put m a oi.dst v U] at h;split
 ·rename_i M
  simp only[M,if_true] at h;unfold Oper.wpIn at *;refine⟨fun _ _=>trivial,?_⟩;have h:=h.2;rw[Oper.semAt_eq _ _ _ z,execOp_put m L a oi.dst v U] at h;rw[Oper.semAt_eq _ _ _ z];generalize (execOp a.eval m).run P w=r at *;cases r with
  | ok x N =>
    cases x<;>simp only[Oper.uponIn] at h ⊢
    case value u=>exact⟨keep a s u,by rw[←Act.put_comm a v u t];exact h⟩
    case skip=>exact⟨keep a s _,by rw[←Act.put_comm a v undef t];exact h⟩
    case defer d =>
     refine⟨keep _ (y d) _,?_⟩;rw[←Act.put_comm _ v undef t,←Act.put_defers];exact h
    case enter f args =>
     refine⟨h.1,CallsIn.mono h.2 fun e D p=>?_⟩;cases e with
     | returned u=>exact⟨keep a s u,by rw[←Act.put_comm a v u t];exact p⟩
     | panicked c=>exact H _ _ _ p
     | outgrown=>exact p
    case row row args=>exact⟨h.1,RowsIn.mono h.2 fun u D p=>⟨keep a s u,by rw[←Act.put_comm a v u t];exact p⟩⟩
    case round l f tmps assign body =>
     refine⟨h.1,RoundIn.mono h.2 fun e D p=>?_⟩;cases e with
     | returned u=>exact⟨keep a s u,by rw[←Act.put_comm a v u t];exact p⟩
     | panicked c=>exact H _ _ _ p
     | outgrown=>exact p
  | halt x N =>
    cases x<;>simp only[Oper.uponIn] at h ⊢
    case panic u=>exact H _ _ _ h
 ·rename_i M
  simp only[M] at h;exact⟨fun _ _=>trivial,keep a s _,by rw[←Act.put_comm a v undef t];exact h.2⟩
def eG(P:Program)(n:Nat)(md:Region.Mode)(ops:Array Oper)(Q:Exit->Act->World->Prop)(S:World->Prop):Nat->Array Bool->Act->World->Prop
 | 0,vN,a,w=>Region.ready md ops vN=[]/\Q .normal a w
 | xT+1,vN,a,w =>
   (Region.ready md ops vN=[]->Q .normal a w) /\
   ∀i∈Region.ready md ops vN,wpOpIn Fence.wide n P ops Q i (fun c b=>S b/\eG P n md ops Q S xT (vN.setIfInBounds i true) c b) a w
theorem rW:∀(xT:Nat) (vN:Array Bool) (a:Act) (w:World),eG P n md ops Q S xT vN a w->wpAnyIn Fence.wide n P md ops Q xT vN a w
 | 0,_,_,_,h=>h
 | xT+1,_,_,_,h=>⟨h.1,fun i d=>wpOpIn_mono (fun b e c=>rW xT _ b e c.2) (h.2 i d)⟩
theorem lI{ops:Array Oper}(h:iO ops=true)(d:ops[j]?=some o):∀c,o.op≠.defer c:=by
 intro c b;have:=Array.all_eq_true'.1 h o (Array.mem_of_getElem? d);rw[b] at this;cases this
theorem DD(t:iO ops=true)(E:ops[i]?=some oi)(r:∀(j:Nat) (o:Oper) y b,ops[j]?=some o->o.op≠.select y b)
 (Z:∀c a w,Q (.panic c) (a.put oi.dst v) w->Q (.panic c) a w) :
 ∀(xT:Nat) (vN:Array Bool) (a:Act) (w:World),
  (∀j x,ops[j]?=some x->j≠i->vN.getD j true=false->(∀e∈x.after,Region.binds md e=true->e.on≠i)->oi.apart ops x=true) ->
  i∈Region.ready md ops vN->YieldsIf P ops S oi v a->S w ->
  eG P n md ops Q S xT (vN.setIfInBounds i true) (a.put oi.dst v) w->eG P n md ops Q S (xT+1) vN a w:=by
 intro xT
 induction xT with
 | zero =>
   intro vN a w _ u N z H;refine⟨fun h=>(by rw[h] at u;cases u),fun j M=>?_⟩
   by_cases d:j=i
   ·subst d;exact YieldsIf.wpOpInH E (lI t E) N z ⟨z,H⟩
   ·have:=ready_mono M d
    rw[H.1] at this;cases this
 | succ xT ih =>
   intro vN a w f u N z H;refine⟨fun h=>(by rw[h] at u;cases u),fun j M=>?_⟩
   by_cases d:j=i
   ·subst d;exact YieldsIf.wpOpInH E (lI t E) N z ⟨z,H⟩
   ·have s:=H.2 j (ready_mono M d)
    obtain⟨p,x,m,D⟩:=mem_ready.1 M
    have I:∀e∈x.after,Region.binds md e=true->e.on≠i:=fun e he hb U=>by
     have s:=D e he hb;have h0:=(mem_ready.1 u).1;rw[U] at s;rcases Nat.lt_or_ge i vN.size with T|T
     ·simp[T] at h0 s;rw[h0] at s;cases s
     ·simp[Array.getElem?_eq_none T] at s
    have Y:=EP m (lI t m) (f j x m d p I) (fun y b=>r i oi y b E) (fun y b=>r j x y b m) Z N s
    have l:∀k ok,ops[k]?=some ok->k≠i->(vN.setIfInBounds j true).getD k true=false ->
     (∀e∈ok.after,Region.binds md e=true->e.on≠i)->oi.apart ops ok=true:=fun k ok hk V J W=>by
     refine f k ok hk V ?_ W
     by_cases G:j=k
     ·subst G;exact p
     ·rw[getD_set_ne true G] at J;exact J
    refine wpOpIn_mono (fun X w' L=>⟨L.2.1,ih (vN.setIfInBounds j true) X w' l (ready_mono u (Ne.symm d)) L.1 L.2.1 ?_⟩) Y;rw[Array.setIfInBounds_comm _ _ d];exact L.2.2
theorem EQ(b:Region.ready md ops vN=[])(h:Q .normal a w):∀xT,eG P n md ops Q S xT vN a w
 | 0=>⟨b,h⟩
 | _+1=>⟨fun _=>h,by rw[b];simp⟩
theorem ER(m:ops[k]?=some o)(p:Region.ready md ops vN=[k])(d:iO ops=true)(u:Region.wanted o (yielded ops a.tmps)=true)
 {f:FuncId}(x:(execOp a.eval o).run P w=.ok (.enter f args) w)(y:Calls P f args w R)
 (h:∀e b,R e b->∃v,e=.returned v/\S b/\eG P n md ops Q S xT (vN.setIfInBounds k true) (a.put o.dst v) b):eG P n md ops Q S (xT+1) vN a w:=
 ⟨fun c=>(by rw[p] at c;cases c),fun j l=>by
  rw[p] at l;obtain rfl:j=k:=by simpa using l
  unfold wpOpIn;simp only[m,u,if_true];refine⟨fun _ _=>trivial,?_⟩;rw[Oper.semAt_eq _ _ _ (lI d m),x];simp only[Oper.uponIn];refine⟨fun s=>by simp[Fence.wide] at s,CallsIn.mono ((callsIn_wide (n:=n-1)).2 y) fun e b t=>?_⟩;obtain⟨v,rfl,c,r⟩:=h e b t;exact⟨c,r⟩⟩
theorem DE(p:ops[k]?=some o)(r:Region.ready md ops vN=[k])(f:iO ops=true)(x:Region.wanted o (yielded ops a.tmps)=true)
 {l:Nat}(y:(execOp a.eval o).run P w=(Instr.yield l args).run P w)(z:YieldAt Fence.wide (n-1) P l args w R)
 (h:∀e c,R e c->∃v,e=.returned v/\S c/\eG P n md ops Q S xT (vN.setIfInBounds k true) (a.put o.dst v) c):eG P n md ops Q S (xT+1) vN a w:=
 ⟨fun d=>(by rw[r] at d;cases d),fun j m=>by
  rw[r] at m;obtain rfl:j=k:=by simpa using m
  unfold wpOpIn;simp only[p,x,if_true];obtain⟨D,tmps,assign,body,b,hR⟩:=z;refine⟨fun _ _=>trivial,?_⟩;rw[Oper.semAt_eq _ _ _ (lI f p),y,b];simp only[Oper.uponIn];refine⟨fun t=>by simp[Fence.wide] at t,hR.mono fun e c u=>?_⟩;obtain⟨v,rfl,d,s⟩:=h e c u;exact⟨d,s⟩⟩
theorem qY(d:ops[i]?=some oi)
 (p:Region.noSelect ops=true) (b:iO ops=true) (l:Region.free md ops vN i=true) (m:(Region.ready md ops vN).contains i=true)
 (e:∀c a w,Q (.panic c) (a.put oi.dst v) w->Q (.panic c) a w) (r:YieldsIf P ops S oi v a) (f:S w)
 (h:eG P n md ops Q S xT (vN.setIfInBounds i true) (a.put oi.dst v) w):eG P n md ops Q S (xT+1) vN a w:=
 DD b d (Region.noSelect_spec p) e xT vN a w (Region.free_spec d l) (by simpa using m) r f h
theorem tia(i:Nat)(v:Value)(m:ops[i]?=some oi)(f:S w)
 (h:q) (e:eG P n md ops Q S xT (vN.setIfInBounds i true) (a.put oi.dst v) w=q:=by first|(simp only[Act.put,List.setIfInBounds_toArray,List.set_cons_zero,List.set_cons_succ,List.getElem_toArray,List.getElem_cons_succ,List.getElem_cons_zero];rfl)|rfl) (r:Region.noSelect ops=true:=by kernel_rfl) (b:iO ops=true:=by kernel_rfl) (l:Region.free md ops vN i=true:=by kernel_rfl) (p:(Region.ready md ops vN).contains i=true:=by kernel_rfl)
 (d:∀c a w,Q (.panic c) (a.put oi.dst v) w->Q (.panic c) a w:=by exact fun _ _ _ h=>h) (s:YieldsIf P ops S oi v a:=by exact .inl ⟨by rfl,fun _ _=>rfl⟩):eG P n md ops Q S (xT+1) vN a w:=qY m r b l p d s f (e▸h)
theorem tib(i:Nat)(v:Value)(m:ops[i]?=some oi)(f:S w)
 (h:q) (e:eG P n md ops Q S xT (vN.setIfInBounds i true) (a.put oi.dst v) w=q:=by first|(simp only[Act.put,List.setIfInBounds_toArray,List.set_cons_zero,List.set_cons_succ,List.getElem_toArray,List.getElem_cons_succ,List.getElem_cons_zero];rfl)|rfl) (r:Region.noSelect ops=true:=by kernel_rfl) (b:iO ops=true:=by kernel_rfl) (l:Region.free md ops vN i=true:=by kernel_rfl) (p:(Region.ready md ops vN).contains i=true:=by kernel_rfl)
 (d:∀c a w,Q (.panic c) (a.put oi.dst v) w->Q (.panic c) a w:=by exact fun _ _ _ h=>h) (s:YieldsIf P ops S oi v a:=by exact .inl ⟨by rfl,fun _ _=>by go_simp⟩):eG P n md ops Q S (xT+1) vN a w:=qY m r b l p d s f (e▸h)
theorem tid(i:Nat)(v:Value)(m:ops[i]?=some oi)(s:YieldsIf P ops S oi v a)(f:S w)
 (h:q) (e:eG P n md ops Q S xT (vN.setIfInBounds i true) (a.put oi.dst v) w=q:=by first|(simp only[Act.put,List.setIfInBounds_toArray,List.set_cons_zero,List.set_cons_succ,List.getElem_toArray,List.getElem_cons_succ,List.getElem_cons_zero];rfl)|rfl) (r:Region.noSelect ops=true:=by kernel_rfl) (b:iO ops=true:=by kernel_rfl) (l:Region.free md ops vN i=true:=by kernel_rfl) (p:(Region.ready md ops vN).contains i=true:=by kernel_rfl)
 (d:∀c a w,Q (.panic c) (a.put oi.dst v) w->Q (.panic c) a w:=by exact fun _ _ _ h=>h):eG P n md ops Q S (xT+1) vN a w:=qY m r b l p d s f (e▸h)
theorem yU{id:Nat}(c:P.follows .mixedOrders=true)
 (h:eG P n .any ops Q S ops.size (Array.replicate ops.size false) a { w with drawn:=w.drawn+1 }):(Code.region id ops true).wpIn Fence.wide n P Q a w:=
 wpIn_region_any c (rW _ _ _ _ h)
end
open Go.RowKit
variable {F:Fence}{n:Nat}{P:Program}
def KpC(Res:Nat->Prop)(W c:World):Prop:=∀k b t fr,¬Res k->W.heap[k]?=some (.cells b t fr)->c.heap[k]?=some (.cells b t fr)
variable{Res S:Nat->Prop}{A B C w:World}{g:Operand}{ps:Array Tmp}{assign body:Code}{Q:Exit->Act->World->Prop}{a:Act}{gf N0:Nat}{lb:Array Value}
theorem KpC.trans(h:KpC Res A B)(d:KpC Res B C):KpC Res A C:=fun k b t fr c e=>d k b t fr c (h k b t fr c e)
theorem KpC.put(h:KpC Res A B){l:Nat}{o o':Obj}(f:B.heap[l]?=some o)(m:o.isCells=false):KpC Res A (B.putObj l o'):=fun k c t fr p d=>by
 have b:=h k c t fr p d;have:l≠k:=fun e=>by subst e;rw[f] at b;cases b;cases m
 exact(World.putObj_heap_other (by omega)).trans b
theorem KpC.of(h:aA S A B)(b:∀k,S k->Res k):KpC Res A B:=fun k f t fr d c=>h.blk c (fun e=>d (b k e))
def OQ(Res:Nat->Prop)(c:World->Prop)(W:World):Exit->Act->World->Prop
 | .ret,_,b=>KeepsOthers W b/\KpC Res W b/\c b
 | _,_,_=>False
theorem DF{α:Type}
 (qn:F.round=none) (h1:1≤n)(hg:a.eval g=.func (.func gf) #[] lb) (qa:F.fn gf) (eg:∀args w,(callFunc gf args).run P w=.ok (.enter gf args) w)
 {encs:α->Array Value}{R:α->World->World->Prop}(qd:∀x A B,R x A B->aA aB A B)
 (X:∀(l:Nat) (Jx:α->World->Prop) (W:World),aA aB w W->(∀x c,R x W c->YieldAt F (n-1-1) P l (encs x) c fun e Y=>e=.returned (.bool false)/\Jx x Y/\KpC Res c Y) ->
   CallsIn F (n-1) P gf (#[.func (.yield l) #[] #[]]++lb) W fun e Y=>(∃v,e=.returned v)/\∃x,Jx x Y)
 (qm:∀x,(encs x).size=ps.size) (J:World->Prop) (hI:∀W l o,w.heap.size<l->J W->W.heap[l]?=some o->o.isCells=false->∀Z,J (W.putObj l Z))
 (y:∀(l:Nat) (x:α) (W c:World),aA aB w W->R x W c->w.heap.size<l ->
   assign.wpIn (F.inRound l) (n-1-1) P (Exit.then (fun a' r=>KeepsOthers c r/\KpC Res c r/\∀o Z,r.heap[l]?=some o->o.isCells=false->body.wpIn (F.inRound l) (n-1-1) P (OQ Res J (r.putObj l Z)) a' (r.putObj l Z)) (fun _ _ _=>False))
    { tmps:=(ps.zip (encs x)).foldl (fun t (p,v)=>t.setIfInBounds p v) a.tmps,defers:=[] } c)
 (E:∀(D:Nat) (W:World),w.heap.size≤D->J W->W.heap[D]?=some (.deferred (some []))->Q .ret { a with defers:={ target:=.collected D,args:=#[] }::a.defers } W) :
 (Code.rangeFunc g ps assign body).wpIn F n P Q a w:=by
 refine wpIn_rangeFunc ?_;intro fn qg;rw[qn];obtain⟨d,b⟩:∃d:LoopState->Option Code->Loop,d=fun st pe=>{ state:=st,pending:=pe,fn,tmps:=a.tmps,params:=ps,assign,body,defers:=w.heap.size }:=⟨_,rfl⟩
 obtain⟨c,s⟩:=zX9 ((w.alloc (.deferred (some []))).alloc (.loop (d .ready none)))
 have qc:c.heap[w.heap.size+1]?=some (.loop (d .ready none)):=by
  rw[←s];have:=World.alloc_heap_new (w.alloc (.deferred (some []))) (.loop (d .ready none));rwa [World.size_alloc] at this
 have qb:c.heap[w.heap.size]?=some (.deferred (some [])):=by
  rw[←s];exact(Below.heap_alloc _ _ _ (by simp)).trans (World.alloc_heap_new w _)
 have L:aA aB w c:=by rw[←s];exact((aA.refl _ _).alloc _).alloc _
 refine⟨w.heap.size+1,[{ target:=.collected w.heap.size,args:=#[] }],c,{ target:=.fn (.func gf) lb,args:=#[.func (.yield (w.heap.size+1)) #[] #[]] },c,gf,
  #[.func (.yield (w.heap.size+1)) #[] #[]]++lb,c,?_,?_,?_,?_,fun _=>h1,?_⟩
 ·rw[←s,b];exact run_enterLoop_outer _ _ _ _ _
 ·simp only[resolve,hg]
  simp[go_sem]
 ·intro f' M;simp[Target.leads] at M;subst M;exact qa
 ·simp[invoke,go_sem,eg]
 ·refine(X (w.heap.size+1) (fun _ W=>J W/\W.heap[w.heap.size+1]?=some (.loop (d .done (some .ret)))/\W.heap[w.heap.size]?=some (.deferred (some []))) c L ?_).mono ?_
  ·intro x W hR
   have T:=qd x _ _ hR;have H:=T.blk qc id;have hk:=T.blk qb id;have hy:=run_yield (P:=P) (args:=encs x) H (by rw[b];exact qm x);rw[b] at hy;refine⟨fn,_,assign,body,hy,roundIn_of_wpIn qg (wpIn_mono (y _ x c W L hR (by omega)) ?_)⟩;intro e a' r G;cases e with
   | normal =>
     obtain⟨U,qf,z⟩:=G;have u:=U.same _ _ H rfl;have qj:=U.same _ _ hk rfl;refine⟨_,run_beginRound u (by rw[b]),?_⟩;have ql:w.heap.size+1<r.heap.size:=(Array.getElem?_eq_some_iff.1 u).1;have qk:(r.putObj (w.heap.size+1) (.loop { d .ready none with state:=.busy })).heap[w.heap.size+1]?=some (.loop { d .ready none with state:=.busy }):=World.putObj_heap_same ql;have qi:(r.putObj (w.heap.size+1) (.loop { d .ready none with state:=.busy })).heap[w.heap.size]?=some (.deferred (some [])):=(World.putObj_heap_other (by omega)).trans qj;refine wpIn_mono (z _ _ u rfl) ?_;intro e3 a3 W3 I;cases e3 with
     | ret =>
       obtain⟨N,qe,qh⟩:=I;have m:=N.same _ _ qk rfl;have V:=run_endRound (P:=P) (some .ret) m;rw[b] at V m;refine⟨_,_,V,rfl,⟨hI _ _ _ (by omega) qh m rfl _,?_,?_⟩,((qf.put u rfl).trans qe).put m rfl⟩
       ·rw[b];exact World.putObj_heap_same (Array.getElem?_eq_some_iff.1 m).1
       ·exact(World.putObj_heap_other (by omega)).trans (N.same _ _ qi rfl)
     | normal=>exact I.elim
     | exit id=>exact I.elim
     | goto t=>exact I.elim
     | panic ch=>exact I.elim
     | outgrown=>exact I.elim
   | ret=>exact G
   | exit id=>exact G
   | goto t=>exact G
   | panic ch=>exact G
   | outgrown=>exact G
  ·rintro e W2 ⟨⟨v,rfl⟩,x,hi,H,hk⟩
   have V:=run_endLoop (P:=P) H (by rw[b];simp);rw[b] at V H;refine⟨some .ret,_,V,?_⟩;exact wpIn_ret (E _ _ (Nat.le_refl _) (hI _ _ _ (by omega) hi H rfl _) ((World.putObj_heap_other (by omega)).trans hk))
variable {F:Fence}{n:Nat}{P:Program}
def KpN(N0:Nat)(W b:World):Prop:=∀k o,N0≤k->W.heap[k]?=some o->o.isCells=false->b.heap[k]?=some o
theorem KpN.of(h:aA S A B)(d:∀k o,S k->N0≤k->A.heap[k]?=some o->o.isCells=true):KpN N0 A B:=fun k o f c b=>h.blk c fun e=>by rw[d k o e f c] at b;cases b
def QK(Res:Nat->Prop)(N0:Nat)(I:Nat->World->Prop)(c:World->Prop)(k:Nat)(W:World):Exit->Act->World->Prop
 | .normal,_,b=>KpN N0 W b/\KpC Res W b/\I (k+1) b
 | .ret,_,b=>KpN N0 W b/\c b
 | _,_,_=>False
theorem BX
 (qt:F.round=none) (h1:1≤n)(hg:a.eval g=.func (.func gf) #[] lb) (qg:F.fn gf) (eg:∀args w,(callFunc gf args).run P w=.ok (.enter gf args) w)
 {N:Nat}{encs:Nat->Array Value}
 (qf:∀(l:Nat) (J:Nat->World->Prop) (Jx:World->Prop) (W:World),aA aB w W->J 0 W ->
   (∀k h,k<N->J k h->YieldAt F (n-1-1) P l (encs k) h fun e T=>(e=.returned (.bool true)/\J (k+1) T/\KpC Res h T)\/(e=.returned (.bool false)/\Jx T)) ->
   CallsIn F (n-1) P gf (#[.func (.yield l) #[] #[]]++lb) W fun e T=>(∃v,e=.returned v)/\(J N T\/Jx T))
 (qr:∀k,(encs k).size=ps.size) (I:Nat->World->Prop) (Y:World->Prop)
 (qh:∀W,aA aB w W->I 0 W)
 (hI:∀k W l o,w.heap.size≤l->I k W->W.heap[l]?=some o->o.isCells=false->∀X,I k (W.putObj l X))
 (Z:∀W l o,w.heap.size≤l->Y W->W.heap[l]?=some o->o.isCells=false->∀X,Y (W.putObj l X))
 (E:∀(l k:Nat) (h:World),k<N->I k h->w.heap.size<l ->
   assign.wpIn (F.inRound l) (n-1-1) P (Exit.then (fun a' x=>KpN w.heap.size h x/\KpC Res h x/\∀o X,x.heap[l]?=some o->o.isCells=false->body.wpIn (F.inRound l) (n-1-1) P (QK Res w.heap.size I Y k (x.putObj l X)) a' (x.putObj l X)) (fun _ _ _=>False))
    { tmps:=(ps.zip (encs k)).foldl (fun t (p,v)=>t.setIfInBounds p v) a.tmps,defers:=[] } h)
 (H:∀(D:Nat) (W:World),w.heap.size≤D->I N W->W.heap[D]?=some (.deferred (some []))->Q .normal { a with defers:={ target:=.collected D,args:=#[] }::a.defers } W)
 (M:∀(D:Nat) (W:World),w.heap.size≤D->Y W->W.heap[D]?=some (.deferred (some []))->Q .ret { a with defers:={ target:=.collected D,args:=#[] }::a.defers } W) :
 (Code.rangeFunc g ps assign body).wpIn F n P Q a w:=by
 refine wpIn_rangeFunc ?_;intro fn qm;rw[qt];obtain⟨d,b⟩:∃d:LoopState->Option Code->Loop,d=fun st pe=>{ state:=st,pending:=pe,fn,tmps:=a.tmps,params:=ps,assign,body,defers:=w.heap.size }:=⟨_,rfl⟩
 obtain⟨h,y⟩:=zX9 ((w.alloc (.deferred (some []))).alloc (.loop (d .ready none)))
 have qj:h.heap[w.heap.size+1]?=some (.loop (d .ready none)):=by
  rw[←y];have:=World.alloc_heap_new (w.alloc (.deferred (some []))) (.loop (d .ready none));rwa [World.size_alloc] at this
 have qi:h.heap[w.heap.size]?=some (.deferred (some [])):=by
  rw[←y];exact(Below.heap_alloc _ _ _ (by simp)).trans (World.alloc_heap_new w _)
 have qa:aA aB w h:=by rw[←y];exact((aA.refl _ _).alloc _).alloc _
 refine⟨w.heap.size+1,[{ target:=.collected w.heap.size,args:=#[] }],h,{ target:=.fn (.func gf) lb,args:=#[.func (.yield (w.heap.size+1)) #[] #[]] },h,gf,
  #[.func (.yield (w.heap.size+1)) #[] #[]]++lb,h,?_,?_,?_,?_,fun _=>h1,?_⟩
 ·rw[←y,b];exact run_enterLoop_outer _ _ _ _ _
 ·simp only[resolve,hg]
  simp[go_sem]
 ·intro f' qb;simp[Target.leads] at qb;subst qb;exact qg
 ·simp[invoke,go_sem,eg]
 ·refine(qf (w.heap.size+1) (fun k W=>I k W/\W.heap[w.heap.size+1]?=some (.loop (d .ready none))/\W.heap[w.heap.size]?=some (.deferred (some [])))
   (fun W=>Y W/\W.heap[w.heap.size+1]?=some (.loop (d .done (some .ret)))/\W.heap[w.heap.size]?=some (.deferred (some []))) h qa ⟨qh _ qa,qj,qi⟩ ?_).mono ?_
  ·rintro k W qo ⟨qn,u,hk⟩
   have hy:=run_yield (P:=P) (args:=encs k) u (by rw[b];exact qr k);rw[b] at hy;refine⟨fn,_,assign,body,hy,roundIn_of_wpIn qm (wpIn_mono (E _ k W qo qn (by omega)) ?_)⟩;intro e a' x U;cases e with
   | normal =>
     obtain⟨qd,ql,G⟩:=U;have z:=qd _ _ (by omega) u rfl;have qp:=qd _ _ (Nat.le_refl _) hk rfl;refine⟨_,run_beginRound z (by rw[b]),?_⟩;have qq:w.heap.size+1<x.heap.size:=(Array.getElem?_eq_some_iff.1 z).1;have qe:(x.putObj (w.heap.size+1) (.loop { d .ready none with state:=.busy })).heap[w.heap.size+1]?=some (.loop { d .ready none with state:=.busy }):=World.putObj_heap_same qq;have qc:(x.putObj (w.heap.size+1) (.loop { d .ready none with state:=.busy })).heap[w.heap.size]?=some (.deferred (some [])):=(World.putObj_heap_other (by omega)).trans qp;refine wpIn_mono (G _ _ z rfl) ?_;intro e3 a3 W3 V;cases e3 with
     | normal =>
       obtain⟨r,qk,L⟩:=V;have c:=r _ _ (by omega) qe rfl;have s:=run_endRound (P:=P) none c;rw[b] at s c;refine⟨_,_,s,.inl ⟨rfl,⟨hI _ _ _ _ (by omega) L c rfl _,?_,?_⟩,((ql.put z rfl).trans qk).put c rfl⟩⟩
       ·rw[b];exact World.putObj_heap_same (Array.getElem?_eq_some_iff.1 c).1
       ·exact(World.putObj_heap_other (by omega)).trans (r _ _ (Nat.le_refl _) qc rfl)
     | ret =>
       obtain⟨r,L⟩:=V;have c:=r _ _ (by omega) qe rfl;have s:=run_endRound (P:=P) (some .ret) c;rw[b] at s c;refine⟨_,_,s,.inr ⟨rfl,Z _ _ _ (by omega) L c rfl _,?_,?_⟩⟩
       ·rw[b];exact World.putObj_heap_same (Array.getElem?_eq_some_iff.1 c).1
       ·exact(World.putObj_heap_other (by omega)).trans (r _ _ (Nat.le_refl _) qc rfl)
     | exit id=>exact V.elim
     | goto t=>exact V.elim
     | panic ch=>exact V.elim
     | outgrown=>exact V.elim
   | ret=>exact U
   | exit id=>exact U
   | goto t=>exact U
   | panic ch=>exact U
   | outgrown=>exact U
  ·rintro e W2 ⟨⟨v,rfl⟩,⟨hi,u,hk⟩|⟨hi,u,hk⟩⟩
   ·have s:=run_endLoop (P:=P) u (by rw[b];simp)
    rw[b] at s u;refine⟨none,_,s,?_⟩;exact H _ _ (Nat.le_refl _) (hI _ _ _ _ (by omega) hi u rfl _) ((World.putObj_heap_other (by omega)).trans hk)
   ·have s:=run_endLoop (P:=P) u (by rw[b];simp)
    rw[b] at s u;refine⟨some .ret,_,s,?_⟩;exact wpIn_ret (M _ _ (Nat.le_refl _) (Z _ _ _ (by omega) hi u rfl _) ((World.putObj_heap_other (by omega)).trans hk))
end
end Go.Proofs.YtoeinblfcbpcmaaGreat
