import Derived.Test.YtiinnfhjpaeffaaGreatW1
import Derived.Test.YtiinnfhjpaeffaaGreatW2
import Derived.RangeFuncKeeps
import Derived.RangeFuncNested
namespace Go.Proofs.YtiinnfhjpaeffaaGreat
set_option maxHeartbeats 64000000
set_option maxRecDepth 100000
set_option linter.unusedVariables false
section
open Go.RowKit
section
variable {P:Program}{ops:Array Oper}{Q:Exit->Act->World->Prop}{md:Region.Mode}{S:World->Prop}{n:Nat}
theorem YieldsIf.wpOpInH{i:Nat}{o:Oper}{v:Value}{a:Act}(hi:ops[i]?=some o)(hnd:∀c,o.op≠.defer c)(hy:YieldsIf P ops S o v a)
 {K:Act->World->Prop}{w:World}(hS:S w) (h:K (a.put o.dst v) w):wpOpIn Fence.wide n P ops Q i K a w:=by
 unfold Go.wpOpIn;simp only[hi];rcases hy with⟨hw,hv⟩|⟨hw,rfl⟩
 ·simp only[hw,if_true,Oper.wpIn]
  refine⟨fun _ _=>trivial,?_⟩;rw[Oper.semAt_eq _ _ _ hnd,hv w hS];exact h
 ·simp only[hw,Bool.false_eq_true,if_false];exact⟨fun _ _=>trivial,h⟩
theorem C8{j:Nat}{oi oj:Oper}{v:Value}(hj:ops[j]?=some oj)(hnd:∀c,oj.op≠.defer c)(hap:oi.apart ops oj=true)
 (hsi:∀cs b,oi.op≠.select cs b) (hsj:∀cs b,oj.op≠.select cs b)
 (hQ:∀c a w,Q (.panic c) (a.put oi.dst v) w->Q (.panic c) a w){K:Act->World->Prop}{a:Act}{w:World}
 (hy:YieldsIf P ops S oi v a) (h:wpOpIn Fence.wide n P ops Q j K (a.put oi.dst v) w) :
 wpOpIn Fence.wide n P ops Q j (fun a' w'=>YieldsIf P ops S oi v a'/\K (a'.put oi.dst v) w') a w:=by
 obtain⟨h1,h2,h3⟩:=Oper.apart_spec hap
 have keep:∀(a:Act),YieldsIf P ops S oi v a->∀u,YieldsIf P ops S oi v (a.put oj.dst u):=fun a hy u =>
  hy.of_same (execOp_put oi hsi a oj.dst u h3) (wanted_put oi a oj.dst u h3)
 have keepD:∀d,YieldsIf P ops S oi v { a with defers:=d::a.defers }:=fun d=>hy.of_same rfl rfl
 unfold wpOpIn at *;simp only[hj] at *;rw[wanted_put oj a oi.dst v h1] at h;split
 ·rename_i hw
  simp only[hw,if_true] at h;unfold Oper.wpIn at *;refine⟨fun _ _=>trivial,?_⟩;have h:=h.2;rw[Oper.semAt_eq _ _ _ hnd,execOp_put oj hsj a oi.dst v h1] at h;rw[Oper.semAt_eq _ _ _ hnd];generalize (execOp a.eval oj).run P w=r at *;cases r with
  | ok x w' =>
    cases x<;>simp only[Oper.uponIn] at h ⊢
    case value u=>exact⟨keep a hy u,by rw[←Act.put_comm a v u h2];exact h⟩
    case skip=>exact⟨keep a hy _,by rw[←Act.put_comm a v undef h2];exact h⟩
    case defer d =>
     refine⟨keep _ (keepD d) _,?_⟩;rw[←Act.put_comm _ v undef h2,←Act.put_defers];exact h
    case enter f args =>
     refine⟨h.1,CallsIn.mono h.2 fun e w'' he=>?_⟩;cases e with
     | returned u=>exact⟨keep a hy u,by rw[←Act.put_comm a v u h2];exact he⟩
     | panicked c=>exact hQ _ _ _ he
     | outgrown=>exact he
    case row row args=>exact⟨h.1,RowsIn.mono h.2 fun u w'' he=>⟨keep a hy u,by rw[←Act.put_comm a v u h2];exact he⟩⟩
    case round l f tmps assign body =>
     refine⟨h.1,RoundIn.mono h.2 fun e w'' he=>?_⟩;cases e with
     | returned u=>exact⟨keep a hy u,by rw[←Act.put_comm a v u h2];exact he⟩
     | panicked c=>exact hQ _ _ _ he
     | outgrown=>exact he
  | halt x w' =>
    cases x<;>simp only[Oper.uponIn] at h ⊢
    case panic u=>exact hQ _ _ _ h
 ·rename_i hw
  simp only[hw] at h;exact⟨fun _ _=>trivial,keep a hy _,by rw[←Act.put_comm a v undef h2];exact h.2⟩
def eB(P:Program)(n:Nat)(md:Region.Mode)(ops:Array Oper)(Q:Exit->Act->World->Prop)(S:World->Prop):Nat->Array Bool->Act->World->Prop
 | 0,listed,a,w=>Region.ready md ops listed=[]/\Q .normal a w
 | fuel+1,listed,a,w =>
   (Region.ready md ops listed=[]->Q .normal a w) /\
   ∀i∈Region.ready md ops listed,wpOpIn Fence.wide n P ops Q i (fun a' w'=>S w'/\eB P n md ops Q S fuel (listed.setIfInBounds i true) a' w') a w
theorem qH:∀(fuel:Nat) (listed:Array Bool) (a:Act) (w:World),eB P n md ops Q S fuel listed a w->wpAnyIn Fence.wide n P md ops Q fuel listed a w
 | 0,_,_,_,h=>h
 | fuel+1,_,_,_,h=>⟨h.1,fun i hi=>wpOpIn_mono (fun a' w' h'=>qH fuel _ a' w' h'.2) (h.2 i hi)⟩
theorem kJ{ops:Array Oper}(h:gX ops=true){j:Nat}{o:Oper}(ho:ops[j]?=some o):∀c,o.op≠.defer c:=by
 intro c hc;have:=Array.all_eq_true'.1 h o (Array.mem_of_getElem? ho);rw[hc] at this;cases this
theorem BK{i:Nat}{oi:Oper}{v:Value}(hnd:gX ops=true)(hi:ops[i]?=some oi)(hsel:∀(j:Nat) (o:Oper) cs b,ops[j]?=some o->o.op≠.select cs b)
 (hQ:∀c a w,Q (.panic c) (a.put oi.dst v) w->Q (.panic c) a w) :
 ∀(fuel:Nat) (listed:Array Bool) (a:Act) (w:World),
  (∀j oj,ops[j]?=some oj->j≠i->listed.getD j true=false->(∀e∈oj.after,Region.binds md e=true->e.on≠i)->oi.apart ops oj=true) ->
  i∈Region.ready md ops listed->YieldsIf P ops S oi v a->S w ->
  eB P n md ops Q S fuel (listed.setIfInBounds i true) (a.put oi.dst v) w->eB P n md ops Q S (fuel+1) listed a w:=by
 intro fuel
 induction fuel with
 | zero =>
   intro listed a w _ hr hy hS H;refine⟨fun h=>(by rw[h] at hr;cases hr),fun j hj=>?_⟩
   by_cases hji:j=i
   ·subst hji;exact YieldsIf.wpOpInH hi (kJ hnd hi) hy hS ⟨hS,H⟩
   ·have:=ready_mono hj hji
    rw[H.1] at this;cases this
 | succ fuel ih =>
   intro listed a w hfree hr hy hS H;refine⟨fun h=>(by rw[h] at hr;cases hr),fun j hj=>?_⟩
   by_cases hji:j=i
   ·subst hji;exact YieldsIf.wpOpInH hi (kJ hnd hi) hy hS ⟨hS,H⟩
   ·have h1:=H.2 j (ready_mono hj hji)
    obtain⟨hjun,oj,hoj,hall⟩:=mem_ready.1 hj
    have hnot:∀e∈oj.after,Region.binds md e=true->e.on≠i:=fun e he hb heq=>by
     have h1:=hall e he hb;have h0:=(mem_ready.1 hr).1;rw[heq] at h1;rcases Nat.lt_or_ge i listed.size with h'|h'
     ·simp[h'] at h0 h1;rw[h0] at h1;cases h1
     ·simp[Array.getElem?_eq_none h'] at h1
    have h2:=C8 hoj (kJ hnd hoj) (hfree j oj hoj hji hjun hnot) (fun cs b=>hsel i oi cs b hi) (fun cs b=>hsel j oj cs b hoj) hQ hy h1
    have hfree':∀k ok,ops[k]?=some ok->k≠i->(listed.setIfInBounds j true).getD k true=false ->
     (∀e∈ok.after,Region.binds md e=true->e.on≠i)->oi.apart ops ok=true:=fun k ok hk hki hun hno=>by
     refine hfree k ok hk hki ?_ hno
     by_cases hjk:j=k
     ·subst hjk;exact hjun
     ·rw[getD_set_ne true hjk] at hun;exact hun
    refine wpOpIn_mono (fun a' w' h3=>⟨h3.2.1,ih (listed.setIfInBounds j true) a' w' hfree' (ready_mono hr (Ne.symm hji)) h3.1 h3.2.1 ?_⟩) h2;rw[Array.setIfInBounds_comm _ _ hji];exact h3.2.2
theorem C9{listed:Array Bool}{a:Act}{w:World}(hr:Region.ready md ops listed=[])(h:Q .normal a w):∀fuel,eB P n md ops Q S fuel listed a w
 | 0=>⟨hr,h⟩
 | _+1=>⟨fun _=>h,by rw[hr];simp⟩
theorem Da{k:Nat}{o:Oper}{fuel:Nat}{listed:Array Bool}{a:Act}{w:World}(ho:ops[k]?=some o)(hr:Region.ready md ops listed=[k])(hnd:gX ops=true)(hw:Region.wanted o (yielded ops a.tmps)=true)
 {f:FuncId}{args:Array Value}(hx:(execOp a.eval o).run P w=.ok (.enter f args) w){R:Ending->World->Prop}(hy:Calls P f args w R)
 (h:∀e w',R e w'->∃v,e=.returned v/\S w'/\eB P n md ops Q S fuel (listed.setIfInBounds k true) (a.put o.dst v) w'):eB P n md ops Q S (fuel+1) listed a w:=
 ⟨fun h1=>(by rw[hr] at h1;cases h1),fun j hj=>by
  rw[hr] at hj;obtain rfl:j=k:=by simpa using hj
  unfold wpOpIn;simp only[ho,hw,if_true];refine⟨fun _ _=>trivial,?_⟩;rw[Oper.semAt_eq _ _ _ (kJ hnd ho),hx];simp only[Oper.uponIn];refine⟨fun hd=>by simp[Fence.wide] at hd,CallsIn.mono ((callsIn_wide (n:=n-1)).2 hy) fun e w' he=>?_⟩;obtain⟨v,rfl,h1,h2⟩:=h e w' he;exact⟨h1,h2⟩⟩
theorem BL{k:Nat}{o:Oper}{fuel:Nat}{listed:Array Bool}{a:Act}{w:World}(ho:ops[k]?=some o)(hr:Region.ready md ops listed=[k])(hnd:gX ops=true)(hw:Region.wanted o (yielded ops a.tmps)=true)
 {l:Nat}{args:Array Value}(hx:(execOp a.eval o).run P w=(Instr.yield l args).run P w){R:Ending->World->Prop}(hy:YieldAt Fence.wide (n-1) P l args w R)
 (h:∀e w',R e w'->∃v,e=.returned v/\S w'/\eB P n md ops Q S fuel (listed.setIfInBounds k true) (a.put o.dst v) w'):eB P n md ops Q S (fuel+1) listed a w:=
 ⟨fun h1=>(by rw[hr] at h1;cases h1),fun j hj=>by
  rw[hr] at hj;obtain rfl:j=k:=by simpa using hj
  unfold wpOpIn;simp only[ho,hw,if_true];obtain⟨fn,tmps,assign,body,hrun,hR⟩:=hy;refine⟨fun _ _=>trivial,?_⟩;rw[Oper.semAt_eq _ _ _ (kJ hnd ho),hx,hrun];simp only[Oper.uponIn];refine⟨fun hd=>by simp[Fence.wide] at hd,hR.mono fun e w' he=>?_⟩;obtain⟨v,rfl,h1,h2⟩:=h e w' he;exact⟨h1,h2⟩⟩
theorem pO{i:Nat}{oi:Oper}{v:Value}{fuel:Nat}{listed:Array Bool}{a:Act}{w:World}(hi:ops[i]?=some oi)
 (hs:Region.noSelect ops=true) (hnd:gX ops=true) (hf:Region.free md ops listed i=true) (hr:(Region.ready md ops listed).contains i=true)
 (hQ:∀c a w,Q (.panic c) (a.put oi.dst v) w->Q (.panic c) a w) (hy:YieldsIf P ops S oi v a) (hS:S w)
 (h:eB P n md ops Q S fuel (listed.setIfInBounds i true) (a.put oi.dst v) w):eB P n md ops Q S (fuel+1) listed a w:=
 BK hnd hi (Region.noSelect_spec hs) hQ fuel listed a w (Region.free_spec hi hf) (by simpa using hr) hy hS h
theorem tia(i:Nat)(v:Value){oi:Oper}{fuel:Nat}{listed:Array Bool}{a:Act}{w:World}{q:Prop}(hi:ops[i]?=some oi)(hS:S w)
 (h:q) (e:eB P n md ops Q S fuel (listed.setIfInBounds i true) (a.put oi.dst v) w=q:=by first|(simp only[Act.put,List.setIfInBounds_toArray,List.set_cons_zero,List.set_cons_succ,List.getElem_toArray,List.getElem_cons_succ,List.getElem_cons_zero];rfl)|rfl) (hs:Region.noSelect ops=true:=by kernel_rfl) (hnd:gX ops=true:=by kernel_rfl) (hf:Region.free md ops listed i=true:=by kernel_rfl) (hr:(Region.ready md ops listed).contains i=true:=by kernel_rfl)
 (hQ:∀c a w,Q (.panic c) (a.put oi.dst v) w->Q (.panic c) a w:=by exact fun _ _ _ h=>h) (hy:YieldsIf P ops S oi v a:=by exact .inl ⟨by rfl,fun _ _=>rfl⟩):eB P n md ops Q S (fuel+1) listed a w:=pO hi hs hnd hf hr hQ hy hS (e▸h)
theorem tib(i:Nat)(v:Value){oi:Oper}{fuel:Nat}{listed:Array Bool}{a:Act}{w:World}{q:Prop}(hi:ops[i]?=some oi)(hS:S w)
 (h:q) (e:eB P n md ops Q S fuel (listed.setIfInBounds i true) (a.put oi.dst v) w=q:=by first|(simp only[Act.put,List.setIfInBounds_toArray,List.set_cons_zero,List.set_cons_succ,List.getElem_toArray,List.getElem_cons_succ,List.getElem_cons_zero];rfl)|rfl) (hs:Region.noSelect ops=true:=by kernel_rfl) (hnd:gX ops=true:=by kernel_rfl) (hf:Region.free md ops listed i=true:=by kernel_rfl) (hr:(Region.ready md ops listed).contains i=true:=by kernel_rfl)
 (hQ:∀c a w,Q (.panic c) (a.put oi.dst v) w->Q (.panic c) a w:=by exact fun _ _ _ h=>h) (hy:YieldsIf P ops S oi v a:=by exact .inl ⟨by rfl,fun _ _=>by go_simp⟩):eB P n md ops Q S (fuel+1) listed a w:=pO hi hs hnd hf hr hQ hy hS (e▸h)
theorem tid(i:Nat)(v:Value){oi:Oper}{fuel:Nat}{listed:Array Bool}{a:Act}{w:World}{q:Prop}(hi:ops[i]?=some oi)(hy:YieldsIf P ops S oi v a)(hS:S w)
 (h:q) (e:eB P n md ops Q S fuel (listed.setIfInBounds i true) (a.put oi.dst v) w=q:=by first|(simp only[Act.put,List.setIfInBounds_toArray,List.set_cons_zero,List.set_cons_succ,List.getElem_toArray,List.getElem_cons_succ,List.getElem_cons_zero];rfl)|rfl) (hs:Region.noSelect ops=true:=by kernel_rfl) (hnd:gX ops=true:=by kernel_rfl) (hf:Region.free md ops listed i=true:=by kernel_rfl) (hr:(Region.ready md ops listed).contains i=true:=by kernel_rfl)
 (hQ:∀c a w,Q (.panic c) (a.put oi.dst v) w->Q (.panic c) a w:=by exact fun _ _ _ h=>h):eB P n md ops Q S (fuel+1) listed a w:=pO hi hs hnd hf hr hQ hy hS (e▸h)
theorem vU{id:Nat}{a:Act}{w:World}(hm:P.follows .mixedOrders=true)
 (h:eB P n .any ops Q S ops.size (Array.replicate ops.size false) a { w with drawn:=w.drawn+1 }):(Code.region id ops true).wpIn Fence.wide n P Q a w:=
 wpIn_region_any hm (qH _ _ _ _ h)
end
open Go.RowKit
variable {F:Fence}{n:Nat}{P:Program}
def KpC(Res:Nat->Prop)(W W':World):Prop:=∀k cs t fr,¬Res k->W.heap[k]?=some (.cells cs t fr)->W'.heap[k]?=some (.cells cs t fr)
theorem KpC.trans{Res:Nat->Prop}{A B C:World}(h:KpC Res A B)(h2:KpC Res B C):KpC Res A C:=fun k cs t fr hr hc=>h2 k cs t fr hr (h k cs t fr hr hc)
theorem KpC.put{Res:Nat->Prop}{A B:World}(h:KpC Res A B){l:Nat}{o o':Obj}(hl:B.heap[l]?=some o)(ho:o.isCells=false):KpC Res A (B.putObj l o'):=fun k cs t fr hr hc=>by
 have h1:=h k cs t fr hr hc;have:l≠k:=fun e=>by subst e;rw[hl] at h1;cases h1;cases ho
 exact(World.putObj_heap_other (by omega)).trans h1
theorem KpC.of{Res S:Nat->Prop}{A B:World}(h:aA S A B)(hS:∀k,S k->Res k):KpC Res A B:=fun k cs t fr hr hc=>h.blk hc (fun e=>hr (hS k e))
def Mj(Res:Nat->Prop)(Ix:World->Prop)(W:World):Exit->Act->World->Prop
 | .ret,_,W'=>KeepsOthers W W'/\KpC Res W W'/\Ix W'
 | _,_,_=>False
theorem BM{α:Type}{Res:Nat->Prop}{g:Operand}{ps:Array Tmp}{assign body:Code}{Q:Exit->Act->World->Prop}{a:Act}{w:World}
 (hro:F.round=none) (h1:1≤n){gf:Nat}{lb:Array Value}(hg:a.eval g=.func (.func gf) #[] lb) (hFg:F.fn gf) (eg:∀args w,(callFunc gf args).run P w=.ok (.enter gf args) w)
 {encs:α->Array Value}{R:α->World->World->Prop}(hRk:∀x A B,R x A B->aA aB A B)
 (hseq:∀(l:Nat) (Jx:α->World->Prop) (W:World),aA aB w W->(∀x W1,R x W W1->YieldAt F (n-1-1) P l (encs x) W1 fun e W'=>e=.returned (.bool false)/\Jx x W'/\KpC Res W1 W') ->
   CallsIn F (n-1) P gf (#[.func (.yield l) #[] #[]]++lb) W fun e W'=>(∃v,e=.returned v)/\∃x,Jx x W')
 (hps:∀x,(encs x).size=ps.size) (Ix:World->Prop) (hI:∀W l o,w.heap.size<l->Ix W->W.heap[l]?=some o->o.isCells=false->∀o',Ix (W.putObj l o'))
 (hround:∀(l:Nat) (x:α) (W W1:World),aA aB w W->R x W W1->w.heap.size<l ->
   assign.wpIn (F.inRound l) (n-1-1) P (Exit.then (fun a' Wa=>KeepsOthers W1 Wa/\KpC Res W1 Wa/\∀o o',Wa.heap[l]?=some o->o.isCells=false->body.wpIn (F.inRound l) (n-1-1) P (Mj Res Ix (Wa.putObj l o')) a' (Wa.putObj l o')) (fun _ _ _=>False))
    { tmps:=(ps.zip (encs x)).foldl (fun t (p,v)=>t.setIfInBounds p v) a.tmps,defers:=[] } W1)
 (hstop:∀(D:Nat) (W:World),w.heap.size≤D->Ix W->W.heap[D]?=some (.deferred (some []))->Q .ret { a with defers:={ target:=.collected D,args:=#[] }::a.defers } W) :
 (Code.rangeFunc g ps assign body).wpIn F n P Q a w:=by
 refine wpIn_rangeFunc ?_;intro fn hfn;rw[hro];obtain⟨rec,hrec⟩:∃rec:LoopState->Option Code->Loop,rec=fun st pe=>{ state:=st,pending:=pe,fn,tmps:=a.tmps,params:=ps,assign,body,defers:=w.heap.size }:=⟨_,rfl⟩
 obtain⟨W1,hW1⟩:∃W1,(w.alloc (.deferred (some []))).alloc (.loop (rec .ready none))=W1:=⟨_,rfl⟩
 have hL1:W1.heap[w.heap.size+1]?=some (.loop (rec .ready none)):=by
  rw[←hW1];have:=World.alloc_heap_new (w.alloc (.deferred (some []))) (.loop (rec .ready none));rwa [World.size_alloc] at this
 have hK1:W1.heap[w.heap.size]?=some (.deferred (some [])):=by
  rw[←hW1];exact(Below.heap_alloc _ _ _ (by simp)).trans (World.alloc_heap_new w _)
 have hb1:aA aB w W1:=by rw[←hW1];exact((aA.refl _ _).alloc _).alloc _
 refine⟨w.heap.size+1,[{ target:=.collected w.heap.size,args:=#[] }],W1,{ target:=.fn (.func gf) lb,args:=#[.func (.yield (w.heap.size+1)) #[] #[]] },W1,gf,
  #[.func (.yield (w.heap.size+1)) #[] #[]]++lb,W1,?_,?_,?_,?_,fun _=>h1,?_⟩
 ·rw[←hW1,hrec];exact run_enterLoop_outer _ _ _ _ _
 ·simp only[resolve,hg]
  simp[go_sem]
 ·intro f' hf';simp[Target.leads] at hf';subst hf';exact hFg
 ·simp[invoke,go_sem,eg]
 ·refine(hseq (w.heap.size+1) (fun _ W=>Ix W/\W.heap[w.heap.size+1]?=some (.loop (rec .done (some .ret)))/\W.heap[w.heap.size]?=some (.deferred (some []))) W1 hb1 ?_).mono ?_
  ·intro x W hR
   have hkW:=hRk x _ _ hR;have hl:=hkW.blk hL1 id;have hk:=hkW.blk hK1 id;have hy:=run_yield (P:=P) (args:=encs x) hl (by rw[hrec];exact hps x);rw[hrec] at hy;refine⟨fn,_,assign,body,hy,roundIn_of_wpIn hfn (wpIn_mono (hround _ x W1 W hb1 hR (by omega)) ?_)⟩;intro e a' Wa he;cases e with
   | normal =>
     obtain⟨hka,hca,hbody⟩:=he;have hla:=hka.same _ _ hl rfl;have hkk:=hka.same _ _ hk rfl;refine⟨_,run_beginRound hla (by rw[hrec]),?_⟩;have hlt:w.heap.size+1<Wa.heap.size:=(Array.getElem?_eq_some_iff.1 hla).1;have hl2:(Wa.putObj (w.heap.size+1) (.loop { rec .ready none with state:=.busy })).heap[w.heap.size+1]?=some (.loop { rec .ready none with state:=.busy }):=World.putObj_heap_same hlt;have hk2:(Wa.putObj (w.heap.size+1) (.loop { rec .ready none with state:=.busy })).heap[w.heap.size]?=some (.deferred (some [])):=(World.putObj_heap_other (by omega)).trans hkk;refine wpIn_mono (hbody _ _ hla rfl) ?_;intro e3 a3 W3 hp;cases e3 with
     | ret =>
       obtain⟨hk3,hc3,hi3⟩:=hp;have hl3:=hk3.same _ _ hl2 rfl;have hr:=run_endRound (P:=P) (some .ret) hl3;rw[hrec] at hr hl3;refine⟨_,_,hr,rfl,⟨hI _ _ _ (by omega) hi3 hl3 rfl _,?_,?_⟩,((hca.put hla rfl).trans hc3).put hl3 rfl⟩
       ·rw[hrec];exact World.putObj_heap_same (Array.getElem?_eq_some_iff.1 hl3).1
       ·exact(World.putObj_heap_other (by omega)).trans (hk3.same _ _ hk2 rfl)
     | normal=>exact hp.elim
     | exit id=>exact hp.elim
     | goto t=>exact hp.elim
     | panic ch=>exact hp.elim
     | outgrown=>exact hp.elim
   | ret=>exact he
   | exit id=>exact he
   | goto t=>exact he
   | panic ch=>exact he
   | outgrown=>exact he
  ·rintro e W2 ⟨⟨v,rfl⟩,x,hi,hl,hk⟩
   have hr:=run_endLoop (P:=P) hl (by rw[hrec];simp);rw[hrec] at hr hl;refine⟨some .ret,_,hr,?_⟩;exact wpIn_ret (hstop _ _ (Nat.le_refl _) (hI _ _ _ (by omega) hi hl rfl _) ((World.putObj_heap_other (by omega)).trans hk))
variable {F:Fence}{n:Nat}{P:Program}
def KpN(N0:Nat)(W W':World):Prop:=∀k o,N0≤k->W.heap[k]?=some o->o.isCells=false->W'.heap[k]?=some o
theorem KpN.of{N0:Nat}{S:Nat->Prop}{A B:World}(h:aA S A B)(hS:∀k o,S k->N0≤k->A.heap[k]?=some o->o.isCells=true):KpN N0 A B:=fun k o hk ho hc=>h.blk ho fun e=>by rw[hS k o e hk ho] at hc;cases hc
def N4(Res:Nat->Prop)(N0:Nat)(I:Nat->World->Prop)(Ix:World->Prop)(k:Nat)(W:World):Exit->Act->World->Prop
 | .normal,_,W'=>KpN N0 W W'/\KpC Res W W'/\I (k+1) W'
 | .ret,_,W'=>KpN N0 W W'/\Ix W'
 | _,_,_=>False
theorem Ap{Res:Nat->Prop}{g:Operand}{ps:Array Tmp}{assign body:Code}{Q:Exit->Act->World->Prop}{a:Act}{w:World}
 (hro:F.round=none) (h1:1≤n){gf:Nat}{lb:Array Value}(hg:a.eval g=.func (.func gf) #[] lb) (hFg:F.fn gf) (eg:∀args w,(callFunc gf args).run P w=.ok (.enter gf args) w)
 {N:Nat}{encs:Nat->Array Value}
 (hseq:∀(l:Nat) (J:Nat->World->Prop) (Jx:World->Prop) (W:World),aA aB w W->J 0 W ->
   (∀k W1,k<N->J k W1->YieldAt F (n-1-1) P l (encs k) W1 fun e W'=>(e=.returned (.bool true)/\J (k+1) W'/\KpC Res W1 W')\/(e=.returned (.bool false)/\Jx W')) ->
   CallsIn F (n-1) P gf (#[.func (.yield l) #[] #[]]++lb) W fun e W'=>(∃v,e=.returned v)/\(J N W'\/Jx W'))
 (hps:∀k,(encs k).size=ps.size) (I:Nat->World->Prop) (Ix:World->Prop)
 (hI0:∀W,aA aB w W->I 0 W)
 (hI:∀k W l o,w.heap.size≤l->I k W->W.heap[l]?=some o->o.isCells=false->∀o',I k (W.putObj l o'))
 (hIx:∀W l o,w.heap.size≤l->Ix W->W.heap[l]?=some o->o.isCells=false->∀o',Ix (W.putObj l o'))
 (hround:∀(l k:Nat) (W1:World),k<N->I k W1->w.heap.size<l ->
   assign.wpIn (F.inRound l) (n-1-1) P (Exit.then (fun a' Wa=>KpN w.heap.size W1 Wa/\KpC Res W1 Wa/\∀o o',Wa.heap[l]?=some o->o.isCells=false->body.wpIn (F.inRound l) (n-1-1) P (N4 Res w.heap.size I Ix k (Wa.putObj l o')) a' (Wa.putObj l o')) (fun _ _ _=>False))
    { tmps:=(ps.zip (encs k)).foldl (fun t (p,v)=>t.setIfInBounds p v) a.tmps,defers:=[] } W1)
 (hdone:∀(D:Nat) (W:World),w.heap.size≤D->I N W->W.heap[D]?=some (.deferred (some []))->Q .normal { a with defers:={ target:=.collected D,args:=#[] }::a.defers } W)
 (hstop:∀(D:Nat) (W:World),w.heap.size≤D->Ix W->W.heap[D]?=some (.deferred (some []))->Q .ret { a with defers:={ target:=.collected D,args:=#[] }::a.defers } W) :
 (Code.rangeFunc g ps assign body).wpIn F n P Q a w:=by
 refine wpIn_rangeFunc ?_;intro fn hfn;rw[hro];obtain⟨rec,hrec⟩:∃rec:LoopState->Option Code->Loop,rec=fun st pe=>{ state:=st,pending:=pe,fn,tmps:=a.tmps,params:=ps,assign,body,defers:=w.heap.size }:=⟨_,rfl⟩
 obtain⟨W1,hW1⟩:∃W1,(w.alloc (.deferred (some []))).alloc (.loop (rec .ready none))=W1:=⟨_,rfl⟩
 have hL1:W1.heap[w.heap.size+1]?=some (.loop (rec .ready none)):=by
  rw[←hW1];have:=World.alloc_heap_new (w.alloc (.deferred (some []))) (.loop (rec .ready none));rwa [World.size_alloc] at this
 have hK1:W1.heap[w.heap.size]?=some (.deferred (some [])):=by
  rw[←hW1];exact(Below.heap_alloc _ _ _ (by simp)).trans (World.alloc_heap_new w _)
 have hb1:aA aB w W1:=by rw[←hW1];exact((aA.refl _ _).alloc _).alloc _
 refine⟨w.heap.size+1,[{ target:=.collected w.heap.size,args:=#[] }],W1,{ target:=.fn (.func gf) lb,args:=#[.func (.yield (w.heap.size+1)) #[] #[]] },W1,gf,
  #[.func (.yield (w.heap.size+1)) #[] #[]]++lb,W1,?_,?_,?_,?_,fun _=>h1,?_⟩
 ·rw[←hW1,hrec];exact run_enterLoop_outer _ _ _ _ _
 ·simp only[resolve,hg]
  simp[go_sem]
 ·intro f' hf';simp[Target.leads] at hf';subst hf';exact hFg
 ·simp[invoke,go_sem,eg]
 ·refine(hseq (w.heap.size+1) (fun k W=>I k W/\W.heap[w.heap.size+1]?=some (.loop (rec .ready none))/\W.heap[w.heap.size]?=some (.deferred (some [])))
   (fun W=>Ix W/\W.heap[w.heap.size+1]?=some (.loop (rec .done (some .ret)))/\W.heap[w.heap.size]?=some (.deferred (some []))) W1 hb1 ⟨hI0 _ hb1,hL1,hK1⟩ ?_).mono ?_
  ·rintro k W hkN ⟨hik,hl,hk⟩
   have hy:=run_yield (P:=P) (args:=encs k) hl (by rw[hrec];exact hps k);rw[hrec] at hy;refine⟨fn,_,assign,body,hy,roundIn_of_wpIn hfn (wpIn_mono (hround _ k W hkN hik (by omega)) ?_)⟩;intro e a' Wa he;cases e with
   | normal =>
     obtain⟨hka,hca,hbody⟩:=he;have hla:=hka _ _ (by omega) hl rfl;have hkk:=hka _ _ (Nat.le_refl _) hk rfl;refine⟨_,run_beginRound hla (by rw[hrec]),?_⟩;have hlt:w.heap.size+1<Wa.heap.size:=(Array.getElem?_eq_some_iff.1 hla).1;have hl2:(Wa.putObj (w.heap.size+1) (.loop { rec .ready none with state:=.busy })).heap[w.heap.size+1]?=some (.loop { rec .ready none with state:=.busy }):=World.putObj_heap_same hlt;have hk2:(Wa.putObj (w.heap.size+1) (.loop { rec .ready none with state:=.busy })).heap[w.heap.size]?=some (.deferred (some [])):=(World.putObj_heap_other (by omega)).trans hkk;refine wpIn_mono (hbody _ _ hla rfl) ?_;intro e3 a3 W3 hp;cases e3 with
     | normal =>
       obtain⟨hk3,hc3,hi3⟩:=hp;have hl3:=hk3 _ _ (by omega) hl2 rfl;have hr:=run_endRound (P:=P) none hl3;rw[hrec] at hr hl3;refine⟨_,_,hr,.inl ⟨rfl,⟨hI _ _ _ _ (by omega) hi3 hl3 rfl _,?_,?_⟩,((hca.put hla rfl).trans hc3).put hl3 rfl⟩⟩
       ·rw[hrec];exact World.putObj_heap_same (Array.getElem?_eq_some_iff.1 hl3).1
       ·exact(World.putObj_heap_other (by omega)).trans (hk3 _ _ (Nat.le_refl _) hk2 rfl)
     | ret =>
       obtain⟨hk3,hi3⟩:=hp;have hl3:=hk3 _ _ (by omega) hl2 rfl;have hr:=run_endRound (P:=P) (some .ret) hl3;rw[hrec] at hr hl3;refine⟨_,_,hr,.inr ⟨rfl,hIx _ _ _ (by omega) hi3 hl3 rfl _,?_,?_⟩⟩
       ·rw[hrec];exact World.putObj_heap_same (Array.getElem?_eq_some_iff.1 hl3).1
       ·exact(World.putObj_heap_other (by omega)).trans (hk3 _ _ (Nat.le_refl _) hk2 rfl)
     | exit id=>exact hp.elim
     | goto t=>exact hp.elim
     | panic ch=>exact hp.elim
     | outgrown=>exact hp.elim
   | ret=>exact he
   | exit id=>exact he
   | goto t=>exact he
   | panic ch=>exact he
   | outgrown=>exact he
  ·rintro e W2 ⟨⟨v,rfl⟩,⟨hi,hl,hk⟩|⟨hi,hl,hk⟩⟩
   ·have hr:=run_endLoop (P:=P) hl (by rw[hrec];simp)
    rw[hrec] at hr hl;refine⟨none,_,hr,?_⟩;exact hdone _ _ (Nat.le_refl _) (hI _ _ _ _ (by omega) hi hl rfl _) ((World.putObj_heap_other (by omega)).trans hk)
   ·have hr:=run_endLoop (P:=P) hl (by rw[hrec];simp)
    rw[hrec] at hr hl;refine⟨some .ret,_,hr,?_⟩;exact wpIn_ret (hstop _ _ (Nat.le_refl _) (hIx _ _ _ (by omega) hi hl rfl _) ((World.putObj_heap_other (by omega)).trans hk))
end
end Go.Proofs.YtiinnfhjpaeffaaGreat
