/- A part of the proof. Conditions: those told. -/
import Derived.Test.YthihofpfonfjfaaGreatDoorB1
import Derived.Test.YthihofpfonfjfaaGreatDoorB2
import Derived.RangeFuncKeeps
import Derived.RangeFuncNested
namespace Go.Proofs.YthihofpfonfjfaaGreatDoor
set_option maxHeartbeats 64000000
set_option maxRecDepth 100000
set_option linter.unusedVariables false
section
open Go.RowKit
section
variable {P:Program}{ops:Array Oper}{Q:Exit->Act->World->Prop}{md:Region.Mode}{S:World->Prop}{n:Nat}
theorem YieldsIf.wpOpInH{i:Nat}{o:Oper}{v:Value}{a:Act}(hi:ops[i]?=some o)(hnd:∀c,o.op≠.defer c)(hy:YieldsIf P ops S o v a)
 {K:Act->World->Prop}{w:World}(hS:S w) (h:K (a.put o.dst v) w):wpOpIn Fence.wide n P ops Q i K a w:=by
 unfold Go.wpOpIn;simp only[hi];rcases hy with⟨hw,hv⟩|⟨hw,rfl⟩
 ·simp only[hw,if_true,Oper.wpIn]
  refine⟨fun _ _=>trivial,?_⟩;rw[Oper.semAt_eq _ _ _ hnd,hv w hS];exact h
 ·simp only[hw,Bool.false_eq_true,if_false];exact⟨fun _ _=>trivial,h⟩
theorem Cv{j:Nat}{oi oj:Oper}{v:Value}(hj:ops[j]?=some oj)(hnd:∀c,oj.op≠.defer c)(hap:oi.apart ops oj=true)
 (hsi:∀cs b,oi.op≠.select cs b) (hsj:∀cs b,oj.op≠.select cs b)
 (hQ:∀c a w,Q (.panic c) (a.put oi.dst v) w->Q (.panic c) a w){K:Act->World->Prop}{a:Act}{w:World}
 (hy:YieldsIf P ops S oi v a) (h:wpOpIn Fence.wide n P ops Q j K (a.put oi.dst v) w) :
 wpOpIn Fence.wide n P ops Q j (fun a' w'=>YieldsIf P ops S oi v a'/\K (a'.put oi.dst v) w') a w:=by
 obtain⟨h1,h2,h3⟩:=Oper.apart_spec hap
 have keep:∀(a:Act),YieldsIf P ops S oi v a->∀u,YieldsIf P ops S oi v (a.put oj.dst u):=fun a hy u =>
  hy.of_same (execOp_put oi hsi a oj.dst u h3) (wanted_put oi a oj.dst u h3)
 have keepD:∀d,YieldsIf P ops S oi v { a with defers:=d::a.defers }:=fun d=>hy.of_same rfl rfl
 unfold wpOpIn at *;simp only[hj] at *;rw[wanted_put oj a oi.dst v h1] at h;split
 ·rename_i hw
  simp only[hw,if_true] at h;unfold Oper.wpIn at *;refine⟨fun _ _=>trivial,?_⟩;have h:=h.2;rw[Oper.semAt_eq _ _ _ hnd,execOp_put oj hsj a oi.dst v h1] at h;rw[Oper.semAt_eq _ _ _ hnd];generalize (execOp a.eval oj).run P w=r at *;cases r with
  | ok x w' =>
    cases x<;>simp only[Oper.uponIn] at h ⊢
    case value u=>exact⟨keep a hy u,by rw[←Act.put_comm a v u h2];exact h⟩
    case skip=>exact⟨keep a hy _,by rw[←Act.put_comm a v undef h2];exact h⟩
    case defer d =>
     refine⟨keep _ (keepD d) _,?_⟩;rw[←Act.put_comm _ v undef h2,←Act.put_defers];exact h
    case enter f args =>
     refine⟨h.1,CallsIn.mono h.2 fun e w'' he=>?_⟩;cases e with
     | returned u=>exact⟨keep a hy u,by rw[←Act.put_comm a v u h2];exact he⟩
     | panicked c=>exact hQ _ _ _ he
     | outgrown=>exact he
    case row row args=>exact⟨h.1,RowsIn.mono h.2 fun u w'' he=>⟨keep a hy u,by rw[←Act.put_comm a v u h2];exact he⟩⟩
    case round l f tmps assign body =>
     refine⟨h.1,RoundIn.mono h.2 fun e w'' he=>?_⟩;cases e with
     | returned u=>exact⟨keep a hy u,by rw[←Act.put_comm a v u h2];exact he⟩
     | panicked c=>exact hQ _ _ _ he
     | outgrown=>exact he
  | halt x w' =>
    cases x<;>simp only[Oper.uponIn] at h ⊢
    case panic u=>exact hQ _ _ _ h
 ·rename_i hw
  simp only[hw] at h;exact⟨fun _ _=>trivial,keep a hy _,by rw[←Act.put_comm a v undef h2];exact h.2⟩
def dU(P:Program)(n:Nat)(md:Region.Mode)(ops:Array Oper)(Q:Exit->Act->World->Prop)(S:World->Prop):Nat->Array Bool->Act->World->Prop
 | 0,listed,a,w=>Region.ready md ops listed=[]/\Q .normal a w
 | fuel+1,listed,a,w =>
   (Region.ready md ops listed=[]->Q .normal a w) /\
   ∀i∈Region.ready md ops listed,wpOpIn Fence.wide n P ops Q i (fun a' w'=>S w'/\dU P n md ops Q S fuel (listed.setIfInBounds i true) a' w') a w
theorem pM:∀(fuel:Nat) (listed:Array Bool) (a:Act) (w:World),dU P n md ops Q S fuel listed a w->wpAnyIn Fence.wide n P md ops Q fuel listed a w
 | 0,_,_,_,h=>h
 | fuel+1,_,_,_,h=>⟨h.1,fun i hi=>wpOpIn_mono (fun a' w' h'=>pM fuel _ a' w' h'.2) (h.2 i hi)⟩
theorem kC{ops:Array Oper}(h:gV ops=true){j:Nat}{o:Oper}(ho:ops[j]?=some o):∀c,o.op≠.defer c:=by
 intro c hc;have:=Array.all_eq_true'.1 h o (Array.mem_of_getElem? ho);rw[hc] at this;cases this
theorem Bv{i:Nat}{oi:Oper}{v:Value}(hnd:gV ops=true)(hi:ops[i]?=some oi)(hsel:∀(j:Nat) (o:Oper) cs b,ops[j]?=some o->o.op≠.select cs b)
 (hQ:∀c a w,Q (.panic c) (a.put oi.dst v) w->Q (.panic c) a w) :
 ∀(fuel:Nat) (listed:Array Bool) (a:Act) (w:World),
  (∀j oj,ops[j]?=some oj->j≠i->listed.getD j true=false->(∀e∈oj.after,Region.binds md e=true->e.on≠i)->oi.apart ops oj=true) ->
  i∈Region.ready md ops listed->YieldsIf P ops S oi v a->S w ->
  dU P n md ops Q S fuel (listed.setIfInBounds i true) (a.put oi.dst v) w->dU P n md ops Q S (fuel+1) listed a w:=by
 intro fuel
 induction fuel with
 | zero =>
   intro listed a w _ hr hy hS H;refine⟨fun h=>(by rw[h] at hr;cases hr),fun j hj=>?_⟩
   by_cases hji:j=i
   ·subst hji;exact YieldsIf.wpOpInH hi (kC hnd hi) hy hS ⟨hS,H⟩
   ·have:=ready_mono hj hji
    rw[H.1] at this;cases this
 | succ fuel ih =>
   intro listed a w hfree hr hy hS H;refine⟨fun h=>(by rw[h] at hr;cases hr),fun j hj=>?_⟩
   by_cases hji:j=i
   ·subst hji;exact YieldsIf.wpOpInH hi (kC hnd hi) hy hS ⟨hS,H⟩
   ·have h1:=H.2 j (ready_mono hj hji)
    obtain⟨hjun,oj,hoj,hall⟩:=mem_ready.1 hj
    have hnot:∀e∈oj.after,Region.binds md e=true->e.on≠i:=fun e he hb heq=>by
     have h1:=hall e he hb;have h0:=(mem_ready.1 hr).1;rw[heq] at h1;rcases Nat.lt_or_ge i listed.size with h'|h'
     ·simp[h'] at h0 h1;rw[h0] at h1;cases h1
     ·simp[Array.getElem?_eq_none h'] at h1
    have h2:=Cv hoj (kC hnd hoj) (hfree j oj hoj hji hjun hnot) (fun cs b=>hsel i oi cs b hi) (fun cs b=>hsel j oj cs b hoj) hQ hy h1
    have hfree':∀k ok,ops[k]?=some ok->k≠i->(listed.setIfInBounds j true).getD k true=false ->
     (∀e∈ok.after,Region.binds md e=true->e.on≠i)->oi.apart ops ok=true:=fun k ok hk hki hun hno=>by
     refine hfree k ok hk hki ?_ hno
     by_cases hjk:j=k
     ·subst hjk;exact hjun
     ·rw[getD_set_ne true hjk] at hun;exact hun
    refine wpOpIn_mono (fun a' w' h3=>⟨h3.2.1,ih (listed.setIfInBounds j true) a' w' hfree' (ready_mono hr (Ne.symm hji)) h3.1 h3.2.1 ?_⟩) h2;rw[Array.setIfInBounds_comm _ _ hji];exact h3.2.2
theorem Cw{listed:Array Bool}{a:Act}{w:World}(hr:Region.ready md ops listed=[])(h:Q .normal a w):∀fuel,dU P n md ops Q S fuel listed a w
 | 0=>⟨hr,h⟩
 | _+1=>⟨fun _=>h,by rw[hr];simp⟩
theorem Cx{k:Nat}{o:Oper}{fuel:Nat}{listed:Array Bool}{a:Act}{w:World}(ho:ops[k]?=some o)(hr:Region.ready md ops listed=[k])(hnd:gV ops=true)(hw:Region.wanted o (yielded ops a.tmps)=true)
 {f:FuncId}{args:Array Value}(hx:(execOp a.eval o).run P w=.ok (.enter f args) w){R:Ending->World->Prop}(hy:Calls P f args w R)
 (h:∀e w',R e w'->∃v,e=.returned v/\S w'/\dU P n md ops Q S fuel (listed.setIfInBounds k true) (a.put o.dst v) w'):dU P n md ops Q S (fuel+1) listed a w:=
 ⟨fun h1=>(by rw[hr] at h1;cases h1),fun j hj=>by
  rw[hr] at hj;obtain rfl:j=k:=by simpa using hj
  unfold wpOpIn;simp only[ho,hw,if_true];refine⟨fun _ _=>trivial,?_⟩;rw[Oper.semAt_eq _ _ _ (kC hnd ho),hx];simp only[Oper.uponIn];refine⟨fun hd=>by simp[Fence.wide] at hd,CallsIn.mono ((callsIn_wide (n:=n-1)).2 hy) fun e w' he=>?_⟩;obtain⟨v,rfl,h1,h2⟩:=h e w' he;exact⟨h1,h2⟩⟩
theorem Bw{k:Nat}{o:Oper}{fuel:Nat}{listed:Array Bool}{a:Act}{w:World}(ho:ops[k]?=some o)(hr:Region.ready md ops listed=[k])(hnd:gV ops=true)(hw:Region.wanted o (yielded ops a.tmps)=true)
 {l:Nat}{args:Array Value}(hx:(execOp a.eval o).run P w=(Instr.yield l args).run P w){R:Ending->World->Prop}(hy:YieldAt Fence.wide (n-1) P l args w R)
 (h:∀e w',R e w'->∃v,e=.returned v/\S w'/\dU P n md ops Q S fuel (listed.setIfInBounds k true) (a.put o.dst v) w'):dU P n md ops Q S (fuel+1) listed a w:=
 ⟨fun h1=>(by rw[hr] at h1;cases h1),fun j hj=>by
  rw[hr] at hj;obtain rfl:j=k:=by simpa using hj
  unfold wpOpIn;simp only[ho,hw,if_true];obtain⟨fn,tmps,assign,body,hrun,hR⟩:=hy;refine⟨fun _ _=>trivial,?_⟩;rw[Oper.semAt_eq _ _ _ (kC hnd ho),hx,hrun];simp only[Oper.uponIn];refine⟨fun hd=>by simp[Fence.wide] at hd,hR.mono fun e w' he=>?_⟩;obtain⟨v,rfl,h1,h2⟩:=h e w' he;exact⟨h1,h2⟩⟩
theorem oW{i:Nat}{oi:Oper}{v:Value}{fuel:Nat}{listed:Array Bool}{a:Act}{w:World}(hi:ops[i]?=some oi)
 (hs:Region.noSelect ops=true) (hnd:gV ops=true) (hf:Region.free md ops listed i=true) (hr:(Region.ready md ops listed).contains i=true)
 (hQ:∀c a w,Q (.panic c) (a.put oi.dst v) w->Q (.panic c) a w) (hy:YieldsIf P ops S oi v a) (hS:S w)
 (h:dU P n md ops Q S fuel (listed.setIfInBounds i true) (a.put oi.dst v) w):dU P n md ops Q S (fuel+1) listed a w:=
 Bv hnd hi (Region.noSelect_spec hs) hQ fuel listed a w (Region.free_spec hi hf) (by simpa using hr) hy hS h
theorem tia(i:Nat)(v:Value){oi:Oper}{fuel:Nat}{listed:Array Bool}{a:Act}{w:World}{q:Prop}(hi:ops[i]?=some oi)(hS:S w)
 (h:q) (e:dU P n md ops Q S fuel (listed.setIfInBounds i true) (a.put oi.dst v) w=q:=by first|(simp only[Act.put,List.setIfInBounds_toArray,List.set_cons_zero,List.set_cons_succ,List.getElem_toArray,List.getElem_cons_succ,List.getElem_cons_zero];rfl)|rfl) (hs:Region.noSelect ops=true:=by kernel_rfl) (hnd:gV ops=true:=by kernel_rfl) (hf:Region.free md ops listed i=true:=by kernel_rfl) (hr:(Region.ready md ops listed).contains i=true:=by kernel_rfl)
 (hQ:∀c a w,Q (.panic c) (a.put oi.dst v) w->Q (.panic c) a w:=by exact fun _ _ _ h=>h) (hy:YieldsIf P ops S oi v a:=by exact .inl ⟨by rfl,fun _ _=>rfl⟩):dU P n md ops Q S (fuel+1) listed a w:=oW hi hs hnd hf hr hQ hy hS (e▸h)
theorem tib(i:Nat)(v:Value){oi:Oper}{fuel:Nat}{listed:Array Bool}{a:Act}{w:World}{q:Prop}(hi:ops[i]?=some oi)(hS:S w)
 (h:q) (e:dU P n md ops Q S fuel (listed.setIfInBounds i true) (a.put oi.dst v) w=q:=by first|(simp only[Act.put,List.setIfInBounds_toArray,List.set_cons_zero,List.set_cons_succ,List.getElem_toArray,List.getElem_cons_succ,List.getElem_cons_zero];rfl)|rfl) (hs:Region.noSelect ops=true:=by kernel_rfl) (hnd:gV ops=true:=by kernel_rfl) (hf:Region.free md ops listed i=true:=by kernel_rfl) (hr:(Region.ready md ops listed).contains i=true:=by kernel_rfl)
 (hQ:∀c a w,Q (.panic c) (a.put oi.dst v) w->Q (.panic c) a w:=by exact fun _ _ _ h=>h) (hy:YieldsIf P ops S oi v a:=by exact .inl ⟨by rfl,fun _ _=>by go_simp⟩):dU P n md ops Q S (fuel+1) listed a w:=oW hi hs hnd hf hr hQ hy hS (e▸h)
theorem tid(i:Nat)(v:Value){oi:Oper}{fuel:Nat}{listed:Array Bool}{a:Act}{w:World}{q:Prop}(hi:ops[i]?=some oi)(hy:YieldsIf P ops S oi v a)(hS:S w)
 (h:q) (e:dU P n md ops Q S fuel (listed.setIfInBounds i true) (a.put oi.dst v) w=q:=by first|(simp only[Act.put,List.setIfInBounds_toArray,List.set_cons_zero,List.set_cons_succ,List.getElem_toArray,List.getElem_cons_succ,List.getElem_cons_zero];rfl)|rfl) (hs:Region.noSelect ops=true:=by kernel_rfl) (hnd:gV ops=true:=by kernel_rfl) (hf:Region.free md ops listed i=true:=by kernel_rfl) (hr:(Region.ready md ops listed).contains i=true:=by kernel_rfl)
 (hQ:∀c a w,Q (.panic c) (a.put oi.dst v) w->Q (.panic c) a w:=by exact fun _ _ _ h=>h):dU P n md ops Q S (fuel+1) listed a w:=oW hi hs hnd hf hr hQ hy hS (e▸h)
theorem vB{id:Nat}{a:Act}{w:World}(hm:P.follows .mixedOrders=true)
 (h:dU P n .any ops Q S ops.size (Array.replicate ops.size false) a { w with drawn:=w.drawn+1 }):(Code.region id ops true).wpIn Fence.wide n P Q a w:=
 wpIn_region_any hm (pM _ _ _ _ h)
end
open Go.RowKit
variable {F:Fence}{n:Nat}{P:Program}
def KpC(Res:Nat->Prop)(W W':World):Prop:=∀k cs t fr,¬Res k->W.heap[k]?=some (.cells cs t fr)->W'.heap[k]?=some (.cells cs t fr)
theorem KpC.trans{Res:Nat->Prop}{A B C:World}(h:KpC Res A B)(h2:KpC Res B C):KpC Res A C:=fun k cs t fr hr hc=>h2 k cs t fr hr (h k cs t fr hr hc)
theorem KpC.put{Res:Nat->Prop}{A B:World}(h:KpC Res A B){l:Nat}{o o':Obj}(hl:B.heap[l]?=some o)(ho:o.isCells=false):KpC Res A (B.putObj l o'):=fun k cs t fr hr hc=>by
 have h1:=h k cs t fr hr hc;have:l≠k:=fun e=>by subst e;rw[hl] at h1;cases h1;cases ho
 exact(World.putObj_heap_other (by omega)).trans h1
theorem KpC.of{Res S:Nat->Prop}{A B:World}(h:aA S A B)(hS:∀k,S k->Res k):KpC Res A B:=fun k cs t fr hr hc=>h.blk hc (fun e=>hr (hS k e))
theorem KpC.refl{Res:Nat->Prop}(A:World):KpC Res A A:=fun _ _ _ _ _ h=>h
def Lz(Res:Nat->Prop)(Ix:World->Prop)(W:World):Exit->Act->World->Prop
 | .ret,_,W'=>KeepsOthers W W'/\KpC Res W W'/\Ix W'
 | _,_,_=>False
theorem Bx{α:Type}{Res:Nat->Prop}{g:Operand}{ps:Array Tmp}{assign body:Code}{Q:Exit->Act->World->Prop}{a:Act}{w:World}
 (hro:F.round=none) (h1:1≤n){gf:Nat}{lb:Array Value}(hg:a.eval g=.func (.func gf) #[] lb) (hFg:F.fn gf) (eg:∀args w,(callFunc gf args).run P w=.ok (.enter gf args) w)
 {encs:α->Array Value}{R:α->World->World->Prop}(hRk:∀x A B,R x A B->aA aB A B)
 (hseq:∀(l:Nat) (Jx:α->World->Prop) (W:World),aA aB w W->(∀x W1,R x W W1->YieldAt F (n-1-1) P l (encs x) W1 fun e W'=>e=.returned (.bool false)/\Jx x W'/\KpC Res W1 W') ->
   CallsIn F (n-1) P gf (#[.func (.yield l) #[] #[]]++lb) W fun e W'=>(∃v,e=.returned v)/\∃x,Jx x W')
 (hps:∀x,(encs x).size=ps.size) (Ix:World->Prop) (hI:∀W l o,w.heap.size<l->Ix W->W.heap[l]?=some o->o.isCells=false->∀o',Ix (W.putObj l o'))
 (hround:∀(l:Nat) (x:α) (W W1:World),aA aB w W->R x W W1->w.heap.size<l ->
   assign.wpIn (F.inRound l) (n-1-1) P (Exit.then (fun a' Wa=>KeepsOthers W1 Wa/\KpC Res W1 Wa/\∀o o',Wa.heap[l]?=some o->o.isCells=false->body.wpIn (F.inRound l) (n-1-1) P (Lz Res Ix (Wa.putObj l o')) a' (Wa.putObj l o')) (fun _ _ _=>False))
    { tmps:=(ps.zip (encs x)).foldl (fun t (p,v)=>t.setIfInBounds p v) a.tmps,defers:=[] } W1)
 (hstop:∀(D:Nat) (W:World),w.heap.size≤D->Ix W->W.heap[D]?=some (.deferred (some []))->Q .ret { a with defers:={ target:=.collected D,args:=#[] }::a.defers } W) :
 (Code.rangeFunc g ps assign body).wpIn F n P Q a w:=by
 refine wpIn_rangeFunc ?_;intro fn hfn;rw[hro];obtain⟨rec,hrec⟩:∃rec:LoopState->Option Code->Loop,rec=fun st pe=>{ state:=st,pending:=pe,fn,tmps:=a.tmps,params:=ps,assign,body,defers:=w.heap.size }:=⟨_,rfl⟩
 obtain⟨W1,hW1⟩:∃W1,(w.alloc (.deferred (some []))).alloc (.loop (rec .ready none))=W1:=⟨_,rfl⟩
 have hL1:W1.heap[w.heap.size+1]?=some (.loop (rec .ready none)):=by
  rw[←hW1];have:=World.alloc_heap_new (w.alloc (.deferred (some []))) (.loop (rec .ready none));rwa [World.size_alloc] at this
 have hK1:W1.heap[w.heap.size]?=some (.deferred (some [])):=by
  rw[←hW1];exact(Below.heap_alloc _ _ _ (by simp)).trans (World.alloc_heap_new w _)
 have hb1:aA aB w W1:=by rw[←hW1];exact((aA.refl _ _).alloc _).alloc _
 refine⟨w.heap.size+1,[{ target:=.collected w.heap.size,args:=#[] }],W1,{ target:=.fn (.func gf) lb,args:=#[.func (.yield (w.heap.size+1)) #[] #[]] },W1,gf,
  #[.func (.yield (w.heap.size+1)) #[] #[]]++lb,W1,?_,?_,?_,?_,fun _=>h1,?_⟩
 ·rw[←hW1,hrec];exact run_enterLoop_outer _ _ _ _ _
 ·simp only[resolve,hg]
  simp[go_sem]
 ·intro f' hf';simp[Target.leads] at hf';subst hf';exact hFg
 ·simp[invoke,go_sem,eg]
 ·refine(hseq (w.heap.size+1) (fun _ W=>Ix W/\W.heap[w.heap.size+1]?=some (.loop (rec .done (some .ret)))/\W.heap[w.heap.size]?=some (.deferred (some []))) W1 hb1 ?_).mono ?_
  ·intro x W hR
   have hkW:=hRk x _ _ hR;have hl:=hkW.blk hL1 id;have hk:=hkW.blk hK1 id;have hy:=run_yield (P:=P) (args:=encs x) hl (by rw[hrec];exact hps x);rw[hrec] at hy;refine⟨fn,_,assign,body,hy,roundIn_of_wpIn hfn (wpIn_mono (hround _ x W1 W hb1 hR (by omega)) ?_)⟩;intro e a' Wa he;cases e with
   | normal =>
     obtain⟨hka,hca,hbody⟩:=he;have hla:=hka.same _ _ hl rfl;have hkk:=hka.same _ _ hk rfl;refine⟨_,run_beginRound hla (by rw[hrec]),?_⟩;have hlt:w.heap.size+1<Wa.heap.size:=(Array.getElem?_eq_some_iff.1 hla).1;have hl2:(Wa.putObj (w.heap.size+1) (.loop { rec .ready none with state:=.busy })).heap[w.heap.size+1]?=some (.loop { rec .ready none with state:=.busy }):=World.putObj_heap_same hlt;have hk2:(Wa.putObj (w.heap.size+1) (.loop { rec .ready none with state:=.busy })).heap[w.heap.size]?=some (.deferred (some [])):=(World.putObj_heap_other (by omega)).trans hkk;refine wpIn_mono (hbody _ _ hla rfl) ?_;intro e3 a3 W3 hp;cases e3 with
     | ret =>
       obtain⟨hk3,hc3,hi3⟩:=hp;have hl3:=hk3.same _ _ hl2 rfl;have hr:=run_endRound (P:=P) (some .ret) hl3;rw[hrec] at hr hl3;refine⟨_,_,hr,rfl,⟨hI _ _ _ (by omega) hi3 hl3 rfl _,?_,?_⟩,((hca.put hla rfl).trans hc3).put hl3 rfl⟩
       ·rw[hrec];exact World.putObj_heap_same (Array.getElem?_eq_some_iff.1 hl3).1
       ·exact(World.putObj_heap_other (by omega)).trans (hk3.same _ _ hk2 rfl)
     | normal=>exact hp.elim
     | exit id=>exact hp.elim
     | goto t=>exact hp.elim
     | panic ch=>exact hp.elim
     | outgrown=>exact hp.elim
   | ret=>exact he
   | exit id=>exact he
   | goto t=>exact he
   | panic ch=>exact he
   | outgrown=>exact he
  ·rintro e W2 ⟨⟨v,rfl⟩,x,hi,hl,hk⟩
   have hr:=run_endLoop (P:=P) hl (by rw[hrec];simp);rw[hrec] at hr hl;refine⟨some .ret,_,hr,?_⟩;exact wpIn_ret (hstop _ _ (Nat.le_refl _) (hI _ _ _ (by omega) hi hl rfl _) ((World.putObj_heap_other (by omega)).trans hk))
variable {F:Fence}{n:Nat}{P:Program}
def KpN(N0:Nat)(W W':World):Prop:=∀k o,N0≤k->W.heap[k]?=some o->o.isCells=false->W'.heap[k]?=some o
theorem KpN.trans{N0:Nat}{A B C:World}(h:KpN N0 A B)(h2:KpN N0 B C):KpN N0 A C:=fun k o hk ho hc=>h2 k o hk (h k o hk ho hc) hc
theorem KpN.of{N0:Nat}{S:Nat->Prop}{A B:World}(h:aA S A B)(hS:∀k o,S k->N0≤k->A.heap[k]?=some o->o.isCells=true):KpN N0 A B:=fun k o hk ho hc=>h.blk ho fun e=>by rw[hS k o e hk ho] at hc;cases hc
variable {P:Program}
def Fa(P:Program)(l:Nat)(R:Ending->World->Prop):Exit->Act->World->Prop
 | .panic ch,a,w=>a.defers=[]/\R (.panicked ch) w
 | e,a,w=>roundPost P l R e a w
theorem zV{l:Nat}{f:FuncId}{fn:Func}{tmps:Array Value}{assign body:Code}{w:World}{n:Nat}{R:Ending->World->Prop}(hf:P.funcs[f]?=some fn)
 (h:assign.wpIn (Fence.wide.inRound l) n P (Exit.then (fun a₁ w₁=>∃w₂,(Instr.beginRound l).run P w₁=.ok () w₂/\body.wpIn (Fence.wide.inRound l) n P (Fa P l R) a₁ w₂) (fun _ _ _=>False))
   { tmps:=tmps,defers:=[] } w) :
 RoundIn Fence.wide n P l f tmps assign body w R:=by
 have hF:Fence.wide.fn f:=trivial;refine⟨hF,fun c cs hr=>?_⟩
 let b:Frame:={ (default:Frame) with fn:=f,kind:=.normal,roundOf:=some l }
 have hb0:Frame.round l f tmps assign body .normal=b.atR { tmps:=tmps,defers:=[] } [.code assign,.beginRound,.code body]:=by
  simp[Frame.round,Frame.atR,b]
 have hr':(Fence.wide.inRound l).room ((c::cs).length+1+n):=hr;have hF':(Fence.wide.inRound l).fn b.fn:=hF;obtain⟨e,a₁,w₁,hq,harr⟩:=h b [.beginRound,.code body] (c::cs) rfl hF' hr';rw[←hb0] at harr;cases e with
 | normal =>
   obtain⟨w₂,hbr,hbody⟩:=hq
   have s1:StepsIn (Machine.fenced P (Fence.wide.inRound l)) P (lone (b.atR a₁ [.beginRound,.code body]) (c::cs) w₁) (lone (b.atR a₁ [.code body]) (c::cs) w₂):=
    .one (fenced_calm (fr:=b.atR a₁ [.beginRound,.code body]) hF' hr' rfl) (stepR_beginRound rfl hbr)
   obtain⟨e₂,a₂,w₃,hq₂,harr₂⟩:=hbody b [] (c::cs) rfl hF' hr';cases e₂ with
   | normal =>
     obtain⟨v,w₄,hend,hR⟩:=hq₂;exact⟨.returned v,w₄,hR,(StepsIn.trans harr s1).trans (StepsIn.trans harr₂ (.one (fenced_calm (fr:=b.atR a₂ []) hF' hr' rfl) (stepR_round_end rfl rfl hend)))⟩
   | ret =>
     obtain⟨v,w₄,hend,hR⟩:=hq₂;obtain⟨k₁,hs⟩:=harr₂.2 rfl;exact⟨.returned v,w₄,hR,(StepsIn.trans harr s1).trans (StepsIn.trans hs (.one (fenced_calm (fr:=b.atR a₂ (.code .ret::k₁)) hF' hr' rfl) (stepR_round_ret rfl rfl hend)))⟩
   | exit id =>
     obtain⟨v,w₄,hend,hR⟩:=hq₂;obtain⟨k₁,hk,hs⟩:=harr₂.2 rfl rfl;exact⟨.returned v,w₄,hR,(StepsIn.trans harr s1).trans (StepsIn.trans hs (.one (fenced_calm (fr:=b.atR a₂ (.code (.exit id)::k₁)) hF' hr' rfl) (stepR_round_exit rfl rfl hk hend)))⟩
   | goto t =>
     obtain⟨v,w₄,hend,hR⟩:=hq₂;obtain⟨k₁,hk,hs⟩:=harr₂.2 rfl rfl;exact⟨.returned v,w₄,hR,(StepsIn.trans harr s1).trans (StepsIn.trans hs (.one (fenced_calm (fr:=b.atR a₂ (.code (.goto t)::k₁)) hF' hr' rfl) (stepR_round_goto rfl rfl hk hend)))⟩
   | panic chain =>
     obtain⟨hd,hR⟩:=hq₂;obtain⟨todo,hs⟩:=harr₂;have hl:({ b.atR a₂ todo with mode:=.panicking chain }:Frame).leaving P w₃ (.panicked chain):=⟨rfl,hd,fn,hf⟩
     exact⟨.panicked chain,w₃,hR,(StepsIn.trans harr s1).trans (StepsIn.trans hs (.one (fenced_leaving (n:=n) hF' hr' hl) (step_leave_panicked hl)))⟩
   | outgrown=>exact hq₂.elim
 | exit id=>exact hq.elim
 | goto t=>exact hq.elim
 | ret=>exact hq.elim
 | panic chain=>exact hq.elim
 | outgrown=>exact hq.elim
def tI(f:FuncId)(P:Program)(c:Code)(Q:Exit->Act->World->Prop)(a:Act)(w:World):Prop:=
 ∀(b:Frame) (k:List Item) (cs:List Frame),b.roundOf=none->b.fn=f ->
  ∃e a' w',Q e a' w'/\ArrivesIn (Machine.fenced P Fence.wide) P (lone (b.atR a (.code c::k)) cs w) b k cs e a' w'
section
variable {f:FuncId}{Q:Exit->Act->World->Prop}{a:Act}{w:World}
theorem lS{x y:Code}(h:x.wp P (Exit.then (tI f P y Q) Q) a w):tI f P (.seq x y) Q a w:=by
 intro b k cs hro hb;have h0:(lone (b.atR a (.code (.seq x y)::k)) cs w).fenced P Fence.wide:=fenced_wide _ _;obtain⟨e,a₁,w₁,hq,harr⟩:=wpIn_wide (n:=3).2 h b (.code y::k) cs hro trivial (room_wide _);cases e with
 | normal =>
   obtain⟨e₂,a₂,w₂,hq₂,harr₂⟩:=hq b k cs hro hb;exact⟨e₂,a₂,w₂,hq₂,.of_steps (.head h0 stepR_seq harr) harr₂⟩
 | exit id=>exact⟨_,a₁,w₁,hq,.of_steps (.one h0 stepR_seq) (.pass (x:=.code y) rfl (fun _ _=>.inl (by simp)) harr)⟩
 | goto l=>exact⟨_,a₁,w₁,hq,.of_steps (.one h0 stepR_seq) (.pass (x:=.code y) rfl (fun _ _=>.inl (by simp)) harr)⟩
 | ret=>exact⟨_,a₁,w₁,hq,.of_steps (.one h0 stepR_seq) (.pass (x:=.code y) rfl (fun _ _=>.inl (by simp)) harr)⟩
 | panic ch=>exact⟨_,a₁,w₁,hq,.of_steps (.one h0 stepR_seq) (.pass (x:=.code y) rfl (fun _ _=>.inl (by simp)) harr)⟩
 | outgrown=>exact⟨_,a₁,w₁,hq,.of_steps (.one h0 stepR_seq) (.pass (x:=.code y) rfl (fun _ _=>.inl (by simp)) harr)⟩
theorem yB{x y:Code}(h:tI f P x (Exit.then (fun a w=>y.wp P Q a w) Q) a w):tI f P (.seq x y) Q a w:=by
 intro b k cs hro hb;have h0:(lone (b.atR a (.code (.seq x y)::k)) cs w).fenced P Fence.wide:=fenced_wide _ _;obtain⟨e,a₁,w₁,hq,harr⟩:=h b (.code y::k) cs hro hb;cases e with
 | normal =>
   obtain⟨e₂,a₂,w₂,hq₂,harr₂⟩:=wpIn_wide (n:=3).2 hq b k cs hro trivial (room_wide _);exact⟨e₂,a₂,w₂,hq₂,.of_steps (.head h0 stepR_seq harr) harr₂⟩
 | exit id=>exact⟨_,a₁,w₁,hq,.of_steps (.one h0 stepR_seq) (.pass (x:=.code y) rfl (fun _ _=>.inl (by simp)) harr)⟩
 | goto l=>exact⟨_,a₁,w₁,hq,.of_steps (.one h0 stepR_seq) (.pass (x:=.code y) rfl (fun _ _=>.inl (by simp)) harr)⟩
 | ret=>exact⟨_,a₁,w₁,hq,.of_steps (.one h0 stepR_seq) (.pass (x:=.code y) rfl (fun _ _=>.inl (by simp)) harr)⟩
 | panic ch=>exact⟨_,a₁,w₁,hq,.of_steps (.one h0 stepR_seq) (.pass (x:=.code y) rfl (fun _ _=>.inl (by simp)) harr)⟩
 | outgrown=>exact⟨_,a₁,w₁,hq,.of_steps (.one h0 stepR_seq) (.pass (x:=.code y) rfl (fun _ _=>.inl (by simp)) harr)⟩
theorem yC{id:Nat}{c:Code}(h:tI f P c (Exit.inBlock id Q) a w):tI f P (.block id c) Q a w:=by
 intro b k cs hro hb;have h0:(lone (b.atR a (.code (.block id c)::k)) cs w).fenced P Fence.wide:=fenced_wide _ _;obtain⟨e,a₁,w₁,hq,harr⟩:=h b (.inBlock id::k) cs hro hb;cases e with
 | normal=>exact⟨.normal,a₁,w₁,hq,.head h0 stepR_block (StepsIn.trans harr (.one (fenced_wide _ _) stepR_inBlock))⟩
 | exit id' =>
   by_cases hid:id'=id
   ·simp only[Exit.inBlock,hid,if_true] at hq
    exact⟨.normal,a₁,w₁,hq,.head h0 stepR_block (harr.1 k (by simp[exitTo,hid]))⟩
   ·simp only[Exit.inBlock,hid,if_false] at hq
    have this:(id == id')=false:=by simp;exact fun h=>hid h.symm
    have hx:exitTo id' (.inBlock id::k)=exitTo id' k:=by simp[exitTo,this]
    exact⟨.exit id',a₁,w₁,hq,fun k' hk=>.head h0 stepR_block (harr.1 k' (by rw[hx];exact hk)),
     fun hr' hk=>let ⟨k₁,h1,h2⟩:=harr.2 hr' (by rw[hx];exact hk);⟨k₁,h1,.head h0 stepR_block h2⟩⟩
 | goto l =>
   have hx:gotoIn l (.inBlock id::k)=gotoIn l k:=by simp[gotoIn]
   exact⟨_,a₁,w₁,hq,fun k' hk=>.head h0 stepR_block (harr.1 k' (by rw[hx];exact hk)),
    fun hr' hk=>let ⟨k₁,h1,h2⟩:=harr.2 hr' (by rw[hx];exact hk);⟨k₁,h1,.head h0 stepR_block h2⟩⟩
 | ret=>exact⟨_,a₁,w₁,hq,.of_steps (.one h0 stepR_block) harr⟩
 | panic ch=>exact⟨_,a₁,w₁,hq,.of_steps (.one h0 stepR_block) harr⟩
 | outgrown=>exact⟨_,a₁,w₁,hq,.of_steps (.one h0 stepR_block) harr⟩
end
theorem sP{f:FuncId}{fn:Func}{c:Code}{args:Array Value}{w:World}{R:Ending->World->Prop}
 (hf:P.funcs[f]?=some fn) (hb:fn.body=some c)
 (h:tI f P c (bodyPostM Fence.wide 3 P fn R) { tmps:=args++Array.replicate (fn.ntmps-args.size) undef,defers:=[] } w):Calls P f args w R:=by
 refine callsIn_wide (n:=3).1 ⟨trivial,fun cs hr=>?_⟩;have hF:Fence.wide.fn f:=trivial
 let b:Frame:={ (default:Frame) with fn:=f,kind:=.normal,roundOf:=none }
 have henter:Frame.enter P f args .normal =
  b.atR { tmps:=args++Array.replicate (fn.ntmps-args.size) undef,defers:=[] } [.code c]:=by
  simp[Frame.enter,Frame.atR,hf,hb,b]
 obtain⟨e,a',w',hq,harr⟩:=h b [] cs rfl rfl;rw[←henter] at harr;cases e with
 | normal =>
   obtain⟨e',w'',fr',hR,hs,hfn,hl⟩:=leaves_stepsInM a'.defers .returning w' { b.atR a' [] with mode:=.returning } cs rfl rfl rfl hf rfl hF hr hq;exact⟨e',w'',fr',hR,ComesIn.of_steps (StepsIn.trans harr (.one (fenced_calm (fr:=b.atR a' []) hF hr rfl) (stepR_end rfl))) hs,hfn,hl⟩
 | ret =>
   obtain⟨todo,hs₀⟩:=harr.1 rfl;obtain⟨e',w'',fr',hR,hs,hfn,hl⟩:=leaves_stepsInM a'.defers .returning w' { b.atR a' todo with mode:=.returning } cs rfl rfl rfl hf rfl hF hr hq;exact⟨e',w'',fr',hR,ComesIn.of_steps hs₀ hs,hfn,hl⟩
 | panic chain =>
   obtain⟨todo,hs₀⟩:=harr;obtain⟨e',w'',fr',hR,hs,hfn,hl⟩:=leaves_stepsInM a'.defers (.panicking chain) w' { b.atR a' todo with mode:=.panicking chain } cs rfl rfl rfl hf rfl hF hr hq;exact⟨e',w'',fr',hR,ComesIn.of_steps hs₀ hs,hfn,hl⟩
 | exit id=>exact hq.elim
 | goto l=>exact hq.elim
 | outgrown=>exact⟨.outgrown,w',b,hq,harr.resolve_left (by simp[b]),rfl,trivial⟩
def Fb(Res:Nat->Prop)(N0:Nat)(I:Nat->World->Prop)(Ip:List PanicEntry->World->Prop)(k:Nat)(W:World):Exit->Act->World->Prop
 | .normal,_,W'=>KpN N0 W W'/\KpC Res W W'/\I (k+1) W'
 | .panic ch,a,W'=>a.defers=[]/\KpN N0 W W'/\Ip ch W'
 | _,_,_=>False
theorem oX{Res:Nat->Prop}{f:FuncId}{fd:Func}(hf:P.funcs[f]?=some fd){g:Operand}{ps:Array Tmp}{assign body:Code}{Q:Exit->Act->World->Prop}{a:Act}{w:World}
 {gf:Nat}{lb:Array Value}(hg:a.eval g=.func (.func gf) #[] lb) (eg:∀args w,(callFunc gf args).run P w=.ok (.enter gf args) w)
 {N:Nat}{encs:Nat->Array Value}
 (hseq:∀(l:Nat) (J:Nat->World->Prop) (Jp:List PanicEntry->World->Prop) (W:World),(∀k W W',J k W->aA aB W W'->J k W')->aA aB w W->J 0 W ->
   (∀k W1,k<N->J k W1->YieldAt Fence.wide (3-1-1) P l (encs k) W1 fun e W'=>(e=.returned (.bool true)/\J (k+1) W'/\KpC Res W1 W')\/(∃ch,e=.panicked ch/\Jp ch W')) ->
   CallsIn Fence.wide (3-1) P gf (#[.func (.yield l) #[] #[]]++lb) W fun e W'=>((∃v,e=.returned v)/\J N W')\/(∃ch,e=.panicked ch/\Jp ch W'))
 (hps:∀k,(encs k).size=ps.size) (I:Nat->World->Prop) (Ip:List PanicEntry->World->Prop)
 (hI0:∀W,aA aB w W->I 0 W) (hIk:∀k W W',I k W->aA aB W W'->I k W')
 (hI:∀k W l o,w.heap.size≤l->I k W->W.heap[l]?=some o->o.isCells=false->∀o',I k (W.putObj l o'))
 (hround:∀(l k:Nat) (W1:World),k<N->I k W1->w.heap.size<l ->
   assign.wpIn (Fence.wide.inRound l) (3-1-1) P (Exit.then (fun a' Wa=>KpN w.heap.size W1 Wa/\KpC Res W1 Wa/\∀o o',Wa.heap[l]?=some o->o.isCells=false->body.wpIn (Fence.wide.inRound l) (3-1-1) P (Fb Res w.heap.size I Ip k (Wa.putObj l o')) a' (Wa.putObj l o')) (fun _ _ _=>False))
    { tmps:=(ps.zip (encs k)).foldl (fun t (p,v)=>t.setIfInBounds p v) a.tmps,defers:=[] } W1)
 (hdone:∀(D:Nat) (W:World),w.heap.size≤D->I N W->W.heap[D]?=some (.deferred (some []))->Q .normal { a with defers:={ target:=.collected D,args:=#[] }::a.defers } W)
 (hthrow:∀(D:Nat) (W:World) (ch:List PanicEntry),w.heap.size≤D->Ip ch W->W.heap[D]?=some (.deferred (some []))->Q (.panic ch) { a with defers:={ target:=.collected D,args:=#[] }::a.defers } W) :
 tI f P (Code.rangeFunc g ps assign body) Q a w:=by
 intro b0 k0 cs0 hro0 hb0;obtain⟨fn,hfn⟩:∃fn,fn=f:=⟨_,rfl⟩
 have hff:P.funcs[fn]?=some fd:=by rw[hfn];exact hf
 have hb1:b0.fn=fn:=by rw[hfn];exact hb0
 clear hfn hb0 hf;obtain⟨rec,hrec⟩:∃rec:LoopState->Option Code->Loop,rec=fun st pe=>{ state:=st,pending:=pe,fn,tmps:=a.tmps,params:=ps,assign,body,defers:=w.heap.size }:=⟨_,rfl⟩
 obtain⟨W1,hW1⟩:∃W1,(w.alloc (.deferred (some []))).alloc (.loop (rec .ready none))=W1:=⟨_,rfl⟩
 have hL1:W1.heap[w.heap.size+1]?=some (.loop (rec .ready none)):=by
  rw[←hW1];have:=World.alloc_heap_new (w.alloc (.deferred (some []))) (.loop (rec .ready none));rwa [World.size_alloc] at this
 have hK1:W1.heap[w.heap.size]?=some (.deferred (some [])):=by
  rw[←hW1];exact(Below.heap_alloc _ _ _ (by simp)).trans (World.alloc_heap_new w _)
 have hb2:aA aB w W1:=by rw[←hW1];exact((aA.refl _ _).alloc _).alloc _
 have he:(Instr.enterLoop b0.fn a.tmps ps assign body b0.roundOf).run P w=.ok (w.heap.size+1,[{ target:=.collected w.heap.size,args:=#[] }]) W1:=by
  rw[hro0,hb1,←hW1,hrec];exact run_enterLoop_outer _ _ _ _ _
 have hres:(resolve a.eval (rangeCall g (w.heap.size+1)) 0).run P W1=.ok { target:=.fn (.func gf) lb,args:=#[.func (.yield (w.heap.size+1)) #[] #[]] } W1:=by
  simp only[resolve,hg];simp[go_sem]
 have hinv:(invoke (Target.fn (.func gf) lb) #[.func (.yield (w.heap.size+1)) #[] #[]]).run P W1=.ok (.enter gf (#[.func (.yield (w.heap.size+1)) #[] #[]]++lb)) W1:=by simp[invoke,go_sem,eg]
 have hcall:=hseq (w.heap.size+1) (fun k W=>I k W/\W.heap[w.heap.size+1]?=some (.loop (rec .ready none))/\W.heap[w.heap.size]?=some (.deferred (some [])))
  (fun ch W=>Ip ch W/\W.heap[w.heap.size]?=some (.deferred (some []))) W1 (fun k W W' h hk=>⟨hIk k W W' h.1 hk,hk.blk h.2.1 id,hk.blk h.2.2 id⟩) hb2 ⟨hI0 _ hb2,hL1,hK1⟩ (by
  rintro k W hkN ⟨hik,hl,hk⟩;have hy:=run_yield (P:=P) (args:=encs k) hl (by rw[hrec];exact hps k);rw[hrec] at hy;refine⟨fn,_,assign,body,hy,zV hff (wpIn_mono (hround _ k W hkN hik (by omega)) ?_)⟩;intro e a' Wa he;cases e with
  | normal =>
    obtain⟨hka,hca,hbody⟩:=he;have hla:=hka _ _ (by omega) hl rfl;have hkk:=hka _ _ (Nat.le_refl _) hk rfl;refine⟨_,run_beginRound hla (by rw[hrec]),?_⟩;have hlt:w.heap.size+1<Wa.heap.size:=(Array.getElem?_eq_some_iff.1 hla).1;have hl2:(Wa.putObj (w.heap.size+1) (.loop { rec .ready none with state:=.busy })).heap[w.heap.size+1]?=some (.loop { rec .ready none with state:=.busy }):=World.putObj_heap_same hlt;have hk2:(Wa.putObj (w.heap.size+1) (.loop { rec .ready none with state:=.busy })).heap[w.heap.size]?=some (.deferred (some [])):=(World.putObj_heap_other (by omega)).trans hkk;refine wpIn_mono (hbody _ _ hla rfl) ?_;intro e3 a3 W3 hp;cases e3 with
    | normal =>
      obtain⟨hk3,hc3,hi3⟩:=hp;have hl3:=hk3 _ _ (by omega) hl2 rfl;have hr:=run_endRound (P:=P) none hl3;rw[hrec] at hr hl3;refine⟨_,_,hr,.inl ⟨rfl,⟨hI _ _ _ _ (by omega) hi3 hl3 rfl _,?_,?_⟩,((hca.put hla rfl).trans hc3).put hl3 rfl⟩⟩
      ·rw[hrec];exact World.putObj_heap_same (Array.getElem?_eq_some_iff.1 hl3).1
      ·exact(World.putObj_heap_other (by omega)).trans (hk3 _ _ (Nat.le_refl _) hk2 rfl)
    | panic ch =>
      obtain⟨hd,hk3,hi3⟩:=hp;exact⟨hd,.inr ⟨ch,rfl,hi3,hk3 _ _ (Nat.le_refl _) hk2 rfl⟩⟩
    | ret=>exact hp.elim
    | exit id=>exact hp.elim
    | goto t=>exact hp.elim
    | outgrown=>exact hp.elim
  | ret=>exact he
  | exit id=>exact he
  | goto t=>exact he
  | panic ch=>exact he
  | outgrown=>exact he)
 have henter:=stepR_rangeFunc (P:=P) (b:=b0) (a:=a) (k:=k0) (cs:=cs0) (w:=w) he hres hinv;have hroom:Fence.wide.room ((b0.atR { a with defers:=[{ target:=.collected w.heap.size,args:=#[] }]++a.defers } (.inRangeFunc (w.heap.size+1)::k0)::cs0).length+1+(3-1)):=room_wide _;obtain⟨e,w₃,fr,hR,hsteps,hfn,hleave⟩:=hcall.2 (b0.atR { a with defers:=[{ target:=.collected w.heap.size,args:=#[] }]++a.defers } (.inRangeFunc (w.heap.size+1)::k0)::cs0) hroom;rcases hR with⟨⟨v,rfl⟩,hi,hl,hk⟩|⟨ch,rfl,hi,hk⟩
 ·obtain⟨w₄,o',hr,hw4⟩:∃w4 o',(Instr.endLoop (w.heap.size+1)).run P w₃=.ok none w4/\w4=w₃.putObj (w.heap.size+1) o':=by
   have hr:=run_endLoop (P:=P) hl (by rw[hrec];simp);rw[hrec] at hr;exact⟨_,_,hr,rfl⟩
  have hq:=hdone w.heap.size w₄ (Nat.le_refl _) (by rw[hw4];exact hI _ _ _ _ (by omega) hi hl rfl _) (by rw[hw4];exact(World.putObj_heap_other (by omega)).trans hk);refine⟨.normal,_,w₄,hq,?_⟩;refine .head (fenced_wide _ _) henter (StepsIn.trans hsteps (.head (fenced_wide _ _) ?_ (.one (fenced_wide _ _) (stepR_endRangeFunc hr))));rw[←finish_atR_inRangeFunc (w.heap.size+1) v];exact step_leave_returned hleave
 ·refine⟨.panic ch,_,w₃,hthrow _ _ _ (Nat.le_refl _) hi hk,.inRangeFunc (w.heap.size+1)::k0,.head (fenced_wide _ _) henter (StepsIn.trans hsteps (.one (fenced_wide _ _) ?_))⟩
  rw[←Frame.raise_atR];exact step_leave_panicked hleave
end
end Go.Proofs.YthihofpfonfjfaaGreatDoor
