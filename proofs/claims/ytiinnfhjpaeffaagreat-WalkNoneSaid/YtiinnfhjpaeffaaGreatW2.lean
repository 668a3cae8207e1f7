import Derived.Test.YtiinnfhjpaeffaaGreatW1
import Derived.StillTail
import Derived.RangeFuncBox
import Derived.RangeFuncCalls
import Derived.OrdersIn
import Derived.OrdersHeld
namespace Go.Proofs.YtiinnfhjpaeffaaGreat
set_option maxHeartbeats 64000000
set_option maxRecDepth 100000
set_option linter.unusedVariables false
section
open Go.RowKit
def oE(P:Program)(o:Oper)(a:Act)(w:World)(X:Value->World->Prop):Prop:=
 match (execOp a.eval o).run P w with
 | .ok (.value v) w'=>X v w'
 | .ok (.enter f args) w'=>Calls P f args w' fun e w''=>∃v,e=.returned v/\X v w''
 | _=>False
theorem oE.wp{P:Program}{o:Oper}{a a2:Act}{w:World}{X:Value->World->Prop}{K:Act->World->Prop}{Q:Exit->Act->World->Prop}(h:oE P o a w X)(he:execOp a2.eval o=execOp a.eval o)
 (hK:∀v w',X v w'->K (a2.put o.dst v) w'):o.wp P a2 w K Q:=by
 unfold oE at h;unfold Oper.wp;rw[he];generalize (execOp a.eval o).run P w=r at *;cases r with
 | ok x w' =>
   cases x<;>simp only[Oper.upon] at h ⊢<;>first
    | exact hK _ _ h
    | exact h.elim
    | exact Calls.mono h fun e w'' hx=>by obtain⟨v,rfl,hv⟩:=hx;exact hK _ _ hv
 | halt x w'=>exact h.elim
def nL(ops:Array Oper)(n:Nat):Bool:=
 ((List.range n).all fun i=>match ops[i]? with
   | none=>false
   | some o=>o.guard.isNone && o.after.all (fun e=>!Region.binds .any e) && (match o.op with|.select _ _=>false|_=>true) &&
     (List.range n).all fun j=>j == i || match ops[j]? with|none=>false|some o'=>o.apart ops o') &&
 (List.range ops.size).all fun t=>decide (t<n) || (List.range n).all fun i=>Region.waitsFor .any ops t i
def cY(ops:Array Oper)(a:Act)(v:Nat->Value)(listed:Array Bool):Nat->Act
 | 0=>a
 | k+1=>if listed.getD k false=true then (cY ops a v listed k).put ((ops[k]?).bind (·.dst)) (v k) else cY ops a v listed k
section
variable {P:Program}{ops:Array Oper}{n:Nat}{a:Act}
theorem iO(hB:nL ops n=true){i:Nat}(hi:i<n):∃o,ops[i]?=some o/\o.guard=none/\(∀e∈o.after,Region.binds .any e=false)/\(∀cs b,o.op≠.select cs b) /\
 ∀j o',j<n->j≠i->ops[j]?=some o'->o.apart ops o'=true:=by
 simp only[nL,Bool.and_eq_true] at hB;have h:=List.all_eq_true.1 hB.1 i (List.mem_range.2 hi);cases ho:ops[i]? with
 | none=>simp[ho] at h
 | some o =>
   simp only[ho,Bool.and_eq_true] at h;refine⟨o,rfl,by simpa using h.1.1.1,fun e he=>?_,fun cs b hs=>?_,fun j o' hj hne ho'=>?_⟩
   ·have:=Array.all_eq_true'.1 h.1.1.2 e he
    simpa using this
   ·have:=h.1.2
    rw[hs] at this;cases this
   ·have:=List.all_eq_true.1 h.2 j (List.mem_range.2 hj)
    simp only[ho',Bool.or_eq_true,beq_iff_eq] at this;rcases this with h1|h1
    ·exact absurd h1 hne
    ·exact h1
theorem DV(hB:nL ops n=true){t i:Nat}(ht:n≤t)(hts:t<ops.size)(hi:i<n):Region.waitsFor .any ops t i=true:=by
 simp only[nL,Bool.and_eq_true] at hB;have h:=List.all_eq_true.1 hB.2 t (List.mem_range.2 hts);simp only[Bool.or_eq_true,decide_eq_true_eq] at h;rcases h with h|h
 ·omega
 ·exact List.all_eq_true.1 h i (List.mem_range.2 hi)
theorem pD(hB:nL ops n=true)(v:Nat->Value)(listed:Array Bool){i:Nat}{o:Oper}(hi:i<n)(ho:ops[i]?=some o)(hun:listed.getD i false=false) :
 ∀k,k≤n->execOp (cY ops a v listed k).eval o=execOp a.eval o
 | 0,_=>rfl
 | k+1,hk=>by
   rw[cY];split
   ·rename_i hl
    have hne:k≠i:=fun e=>by rw[e,hun] at hl;cases hl
    obtain⟨ok,hok,_,_,_,hap⟩:=iO hB (show k<n by omega);obtain⟨o',ho',_,_,hs,_⟩:=iO hB hi;have e1:o'=o:=Option.some.inj (ho'.symm.trans ho);subst e1;have h1:=(Oper.apart_spec (hap i _ hi (Ne.symm hne) ho)).1;rw[hok];rw[execOp_put (ops:=ops) _ hs _ _ _ (by simpa using h1)];exact pD hB v listed hi ho hun k (by omega)
   ·exact pD hB v listed hi ho hun k (by omega)
theorem tI{v v':Nat->Value}{listed listed':Array Bool}:∀k,(∀j,j<k->v j=v' j/\listed.getD j false=listed'.getD j false)->cY ops a v listed k=cY ops a v' listed' k
 | 0,_=>rfl
 | k+1,h=>by
   rw[cY,cY,tI k (fun j hj=>h j (by omega)),(h k (by omega)).1,(h k (by omega)).2]
theorem vX(hB:nL ops n=true)(v:Nat->Value)(listed:Array Bool){i:Nat}(hi:i<n)(his:i<listed.size)(hun:listed.getD i false=false)(u:Value) :
 ∀k,i<k->k≤n->cY ops a (fun j=>if j=i then u else v j) (listed.setIfInBounds i true) k=(cY ops a v listed k).put ((ops[i]?).bind (·.dst)) u
 | 0,h,_=>by omega
 | k+1,h,hk=>by
   by_cases e:k=i
   ·subst e
    rw[cY,cY];have h1:(listed.setIfInBounds k true).getD k false=true:=by simp[his]
    rw[if_pos h1,hun];simp only[if_true,Bool.false_eq_true,if_false];rw[tI (v':=v) (listed':=listed) k (fun j hj=>⟨if_neg (by omega),getD_set_ne false (by omega)⟩)]
   ·have ih:=vX hB v listed hi his hun u k (by omega) (by omega)
    rw[cY,cY,getD_set_ne false (Ne.symm e),if_neg e,ih];split
    ·obtain⟨ok,hok,_,_,_,hap⟩:=iO hB (show k<n by omega)
     obtain⟨oi,hoi,_⟩:=iO hB hi;have h2:=(Oper.apart_spec (hap i _ hi (Ne.symm e) hoi)).2.1;rw[hok,hoi];exact(Act.put_comm _ _ _ (by simpa using h2)).symm
    ·rfl
theorem AF{Q:Exit->Act->World->Prop}(hB:nL ops n=true)(hn:n≤ops.size)
 (hseq:Region.seqB .any ops (ops.size-n) n ((Array.range ops.size).map fun i=>decide (i<n))=true)
 (Pst:Nat->Value->World->Prop) (hst:∀i v w w',Pst i v w->aA aB w w'->Pst i v w') (F0:World->Prop) (hF:∀w w',F0 w->aA aB w w'->F0 w')
 (hop:∀i o,i<n->ops[i]?=some o->∀w,F0 w->oE P o a w fun v w'=>aA aB w w'/\Pst i v w')
 (hend:∀(v:Nat->Value) (listed:Array Bool) w',(∀i,i<n->listed.getD i false=true)->F0 w'->(∀i,i<n->Pst i (v i) w')->wpList P ops Q (ops.toList.drop n) (cY ops a v listed n) w') :
 ∀(f:Nat) (listed:Array Bool) (v:Nat->Value) (w:World),listed.size=ops.size->(∀t,n≤t->t<ops.size->listed.getD t false=false)->((List.range n).countP fun i=>!listed.getD i false)=f ->
  F0 w->(∀i,i<n->listed.getD i false=true->Pst i (v i) w)->wpAny P .any ops Q (f+(ops.size-n)) listed (cY ops a v listed n) w
 | 0,listed,v,w,hs,ht,hc,h0,hp=>by
   have hall:∀i,i<n->listed.getD i false=true:=by
    intro i hi;have:=(List.countP_eq_zero.1 hc) i (List.mem_range.2 hi)
    simpa using this
   have hl:listed=(Array.range ops.size).map fun i=>decide (i<n):=by
    apply Array.ext
    ·simp[hs]
    ·intro i h1 h2
     have h3:listed.getD i false=listed[i]:=by simp[h1]
     rw[←h3];simp only[Array.getElem_map,Array.getElem_range]
     by_cases hi:i<n
     ·rw[hall i hi];simp[hi]
     ·rw[ht i (by omega) (by omega)];simp[hi]
   have hlen:(ops.toList.drop n).length=ops.size-n:=by simp
   rw[Nat.zero_add,←hlen];refine wpAny_of_seq (ops.toList.drop n) n listed _ w (fun j=>by simp) (by rw[hlen,hl];exact hseq) ?_;exact hend v listed w hall h0 fun i hi=>hp i hi (hall i hi)
 | f+1,listed,v,w,hs,ht,hc,h0,hp=>by
   obtain⟨i0,hi0,hun0⟩:∃i,i<n/\listed.getD i false=false:=by
    have:0<(List.range n).countP fun i=>!listed.getD i false:=by omega
    obtain⟨i,hi,h⟩:=List.countP_pos_iff.1 this;exact⟨i,List.mem_range.1 hi,by simpa using h⟩
   rw[show f+1+(ops.size-n)=(f+(ops.size-n))+1 by omega];have inb:∀{i},i<n->listed.getD i false=false->listed.getD i true=false:=fun hi h=>getD_in (by rw[hs];omega) h
   have rdy:∀i,i<n->listed.getD i false=false->i∈Region.ready .any ops listed:=by
    intro i hi h;obtain⟨o,ho,_,haf,_⟩:=iO hB hi;exact mem_ready.2 ⟨inb hi h,o,ho,fun e he hb=>by rw[haf e he] at hb;cases hb⟩
   refine⟨fun h=>(by have:=rdy i0 hi0 hun0;rw[h] at this;cases this),fun i hi=>?_⟩;obtain⟨h1,o,ho,hall⟩:=mem_ready.1 hi;have hlt:i<ops.size:=(Array.getElem?_eq_some_iff.1 ho).1
   have hin:i<n:=by
    rcases Nat.lt_or_ge i n with h|h
    ·exact h
    ·obtain⟨oj,hoj,e,he,hb,hon⟩:=Region.waitsFor_spec (DV hB h hlt hi0)
     have:oj=o:=Option.some.inj (hoj.symm.trans ho);subst this;have:=hall e he hb;rw[hon,hun0] at this;cases this
   have hun:listed.getD i false=false:=getD_both h1;obtain⟨o',ho',hg,_⟩:=iO hB hin;have e1:o'=o:=Option.some.inj (ho'.symm.trans ho);subst e1;unfold wpOp;simp only[ho,Region.wanted,hg,if_true];refine .inl (oE.wp (hop i _ hin ho w h0) (pD hB v listed hin ho hun n (Nat.le_refl _)) ?_);rintro u w' ⟨hk,hpu⟩;have hadd:=vX (a:=a) hB v listed hin (by rw[hs];omega) hun u n hin (Nat.le_refl _);rw[ho] at hadd;have hadd':cY ops a (fun j=>if j=i then u else v j) (listed.setIfInBounds i true) n=(cY ops a v listed n).put o'.dst u:=hadd;rw[←hadd'];refine AF hB hn hseq Pst hst F0 hF hop hend f _ _ w' (by simpa using hs) (fun t h1 h2=>?_) ?_ (hF _ _ h0 hk) ?_
   ·rw[getD_set_ne false (by omega)];exact ht t h1 h2
   ·have key:∀m,m≤n->((List.range m).countP fun j=>!(listed.setIfInBounds i true).getD j false)+(if i<m then 1 else 0)=(List.range m).countP fun j=>!listed.getD j false:=by
     intro m
     induction m with
     | zero=>simp
     | succ m ih =>
       intro hm;have ih:=ih (by omega);simp only[List.range_succ,List.countP_append,List.countP_singleton]
       by_cases e:m=i
       ·subst e
        have h3:(listed.setIfInBounds m true).getD m false=true:=by simp[hs,hlt]
        rw[h3,hun];simp at ih ⊢;exact ih
       ·rw[getD_set_ne false (Ne.symm e)]
        have e5:(i<m+1)=(i<m):=propext (by omega);simp only[e5];omega
    have:=key n (Nat.le_refl _);rw[if_pos hin] at this;omega
   ·intro j hj hl
    by_cases e:j=i
    ·subst e;simpa using hpu
    ·rw[getD_set_ne false (Ne.symm e)] at hl
     simp only[e,if_false];exact hst _ _ _ _ (hp j hj hl) hk
theorem xX{id:Nat}{w:World}{Q:Exit->Act->World->Prop}(hm:P.follows .mixedOrders=true)(n:Nat)(hB:nL ops n=true)(hn:n≤ops.size)
 (hseq:Region.seqB .any ops (ops.size-n) n ((Array.range ops.size).map fun i=>decide (i<n))=true)
 (Pst:Nat->Value->World->Prop) (hst:∀i v w w',Pst i v w->aA aB w w'->Pst i v w') (F0:World->Prop) (hF:∀w w',F0 w->aA aB w w'->F0 w')
 (hop:∀i o,i<n->ops[i]?=some o->∀w,F0 w->oE P o a w fun v w'=>aA aB w w'/\Pst i v w') (h0:F0 w.drew)
 (hend:∀(v:Nat->Value) (listed:Array Bool) w',(∀i,i<n->listed.getD i false=true)->F0 w'->(∀i,i<n->Pst i (v i) w')->wpList P ops Q (ops.toList.drop n) (cY ops a v listed n) w') :
 (Code.region id ops true).wp P Q a w:=by
 refine wp_region_any hm ?_;have hz:∀j,(Array.replicate ops.size false).getD j false=false:=fun j=>getD_replicate_false _ _
 have hc:((List.range n).countP fun i=>!(Array.replicate ops.size false).getD i false)=n:=by
  have:((List.range n).countP fun i=>!(Array.replicate ops.size false).getD i false)=(List.range n).length:=List.countP_eq_length.2 fun i _=>by rw[hz];rfl
  simpa using this
 have:=AF hB hn hseq Pst hst F0 hF hop hend n (Array.replicate ops.size false) (fun _=>undef) w.drew (by simp) (fun t _ _=>hz t) hc h0 (fun i _ h=>by rw[hz] at h;cases h)
 have hpa:cY ops a (fun _=>undef) (Array.replicate ops.size false) n=a:=by
  have:∀k,cY ops a (fun _=>undef) (Array.replicate ops.size false) k=a:=by
   intro k
   induction k with
   | zero=>rfl
   | succ k ih=>rw[cY,hz,ih];rfl
  exact this n
 rw[hpa,show n+(ops.size-n)=ops.size by omega] at this;exact this
end
section
variable {P:Program}{o:Oper}{a:Act}{w:World}{X:Value->World->Prop}
theorem Ca{v:Value}{w':World}(h:(execOp a.eval o).run P w=.ok (.value v) w')(hx:X v w'):oE P o a w X:=by
 unfold oE;rw[h];exact hx
theorem By(ty:TypeId)(x:Operand)(ho:o.op=.load ty x)
 (b off:Nat) (hx:a.eval x=.pointer (some ⟨b,off,none⟩)) (cs:List Value) (d:TypeDesc) (hc:w.rangeAt b off cs)
 (hu:P.underlying ty=some d) (hd:d.isRow=true) (hi:(P.info? ty).map (·.size)=some cs.length)
 (h:X (.agg cs.toArray) w):oE P o a w X:=by
 refine Ca (v:=.agg cs.toArray) (w':=w) ?_ h;unfold execOp;simp only[ho,hx,Instr.loadAt,Instr.sureAddr,Sem.run_bind,Sem.run_pure,Result.andThen_ok,run_loadVar_mid w b off ty cs d hc hu hd hi]
theorem xY(T:TypeId)(ho:o.op=.alloc T)(z:Value)(hz:∀w,(zeroValue T).run P w=.ok z w)(h:X (.pointer (some ⟨w.heap.size,0,none⟩)) (w.alloc (.cells z.cells T))):oE P o a w X:=by
 refine Ca (v:=.pointer (some ⟨w.heap.size,0,none⟩)) (w':=w.alloc (.cells z.cells T)) ?_ h;unfold execOp;simp only[ho,Sem.run_bind,Sem.run_pure,lZ hz,Result.andThen_ok]
theorem GV{f:FuncId}{args:Array Value}(h:(execOp a.eval o).run P w=.ok (.enter f args) w)(hc:Calls P f args w fun e w''=>∃v,e=.returned v/\X v w''):oE P o a w X:=by
 unfold oE;rw[h];exact hc
end
theorem aD{w:World}{b:Nat}{cs:List Value}{t:TypeId}{fr:Nat×Nat}(hb:w.heap[b]?=some (.cells cs.toArray t fr)):w.rangeAt b 0 cs:=fun j v hv=>by
 rw[Nat.zero_add,cell_of_row w b j _ _ _ hb];simpa using hv
open Go.RowKit
def gX(ops:Array Oper):Bool:=ops.all fun o=>match o.op with|.defer _=>false|_=>true
section
variable {P:Program}{lp n:Nat}{Q:Exit->Act->World->Prop}{ops:Array Oper}
theorem GW{o:Oper}{a:Act}{w:World}{K:Act->World->Prop}(hnd:∀c,o.op≠.defer c)(h:o.wp P a w K Q):o.wpIn (Fence.wide.inRound lp) n P a w K Q:=by
 refine⟨fun _ _=>trivial,?_⟩;rw[Oper.semAt_eq _ _ _ hnd];unfold Oper.wp at h;generalize (execOp a.eval o).run P w=r at *;cases r with
 | ok x w' =>
   cases x<;>simp only[Oper.upon,Oper.uponIn] at h ⊢<;>first
    | exact h
    | exact⟨fun hd=>by simp[Fence.wide] at hd,(callsIn_wide (n:=n-1)).2 h⟩
    | exact⟨fun hd=>by simp[Fence.wide] at hd,fun c cs _=>let ⟨v,w'',r,s⟩:=h c cs;⟨v,w'',r,stepsIn_wide.2 s⟩⟩
    | exact h.elim
 | halt x w'=>cases x<;>simp only[Oper.upon,Oper.uponIn] at h ⊢<;>exact h
theorem lI(hnd:gX ops=true)(hQ:¬LetsOut Q):∀(l:List Nat) (a:Act) (w:World),wpOps P ops Q l a w->wpOpsIn (Fence.wide.inRound lp) n P ops Q l a w
 | [],_,_,h=>h
 | i::rest,a,w,h=>by
   simp only[wpOps,wpOpsIn] at h ⊢;cases ho:ops[i]? with
   | none=>simp only[ho] at h;exact lI hnd hQ rest a w h
   | some o =>
     simp only[ho] at h ⊢
     have hd:∀c,o.op≠.defer c:=by
      intro c hc;have:=Array.all_eq_true'.1 hnd o (Array.mem_of_getElem? ho);rw[hc] at this;cases this
     split
     ·rename_i hw
      rw[if_pos hw] at h;rcases h with h|h
      ·exact GW hd (Oper.wp_mono (fun a' w' h'=>lI hnd hQ rest a' w' h') h)
      ·exact absurd h.2 hQ
     ·rename_i hw
      rw[if_neg hw] at h;exact⟨fun _ _=>trivial,lI hnd hQ rest _ w h⟩
theorem cO{id:Nat}{a:Act}{w:World}{l:List Oper}(hnd:gX l.toArray=true)(hQ:¬LetsOut Q)(h:wpList P l.toArray Q l a w) :
 (Code.region id l.toArray false).wpIn (Fence.wide.inRound lp) n P Q a w:=by
 refine wpIn_region (lI hnd hQ _ _ _ ?_);rw[List.range_eq_range',←Array.length_toList,wpOps_eq_wpList (ops:=l.toArray) l.toArray.toList 0 (by simp)];exact h
theorem lJ{id:Nat}{a:Act}{w:World}(hm:P.follows .mixedOrders=true)(hnd:gX ops=true)(hQ:¬LetsOut Q)(h:wpAny P .any ops Q ops.size (Array.replicate ops.size false) a { w with drawn:=w.drawn+1 }) :
 (Code.region id ops true).wpIn (Fence.wide.inRound lp) n P Q a w:=by
 refine wpIn_region_draw fun t=>?_
 simp only[Region.schedule,hm,Bool.true_or,if_true];exact lI hnd hQ _ _ _ (wpAny_sound ops.size t _ a _ h)
end
section
variable {P:Program}{ops:Array Oper}{Q:Exit->Act->World->Prop}{md:Region.Mode}{S:World->Prop}{i:Nat}
def xZ(P:Program)(md:Region.Mode)(ops:Array Oper)(Q:Exit->Act->World->Prop)(S:World->Prop)(i:Nat):Nat->Array Bool->Act->World->Prop
 | 0,listed,a,w=>Region.ready md ops listed=[]/\Q .normal a w
 | fuel+1,listed,a,w =>
   (Region.ready md ops listed=[]->Q .normal a w) /\
   ∀j∈Region.ready md ops listed,wpOp P ops Q j (fun a' w'=>(Region.waitsFor md ops j i=false->S w')/\xZ P md ops Q S i fuel (listed.setIfInBounds j true) a' w') a w
theorem rV:∀(fuel:Nat) (listed:Array Bool) (a:Act) (w:World),xZ P md ops Q S i fuel listed a w->wpAny P md ops Q fuel listed a w
 | 0,_,_,_,h=>h
 | fuel+1,_,_,_,h=>⟨h.1,fun i hi=>wpOp_mono (fun a' w' h'=>rV fuel _ a' w' h'.2) (h.2 i hi)⟩
theorem DW{j:Nat}{oj:Oper}(hoj:ops[j]?=some oj)(hnot:∀e∈oj.after,Region.binds md e=true->e.on≠i):Region.waitsFor md ops j i=false:=by
 cases h:Region.waitsFor md ops j i with
 | false=>rfl
 | true =>
   obtain⟨o',ho',e,he,hb,hon⟩:=Region.waitsFor_spec h;have:o'=oj:=Option.some.inj (ho'.symm.trans hoj);subst this;exact absurd hon (hnot e he hb)
theorem Cb{oi:Oper}{v:Value}(hi:ops[i]?=some oi)(hsel:∀(j:Nat) (o:Oper) cs b,ops[j]?=some o->o.op≠.select cs b)
 (hQ:∀c a w,Q (.panic c) (a.put oi.dst v) w->Q (.panic c) a w) :
 ∀(fuel:Nat) (listed:Array Bool) (a:Act) (w:World),
  (∀j oj,ops[j]?=some oj->j≠i->listed.getD j true=false->(∀e∈oj.after,Region.binds md e=true->e.on≠i)->oi.apart ops oj=true) ->
  i∈Region.ready md ops listed->YieldsIf P ops S oi v a->S w ->
  xZ P md ops Q S i fuel (listed.setIfInBounds i true) (a.put oi.dst v) w->wpAny P md ops Q (fuel+1) listed a w:=by
 intro fuel
 induction fuel with
 | zero =>
   intro listed a w _ hr hy hS H;refine⟨fun h=>(by rw[h] at hr;cases hr),fun j hj=>?_⟩
   by_cases hji:j=i
   ·subst hji;exact hy.wpOp hi hS (rV _ _ _ _ H)
   ·have:=ready_mono hj hji
    rw[H.1] at this;cases this
 | succ fuel ih =>
   intro listed a w hfree hr hy hS H;refine⟨fun h=>(by rw[h] at hr;cases hr),fun j hj=>?_⟩
   by_cases hji:j=i
   ·subst hji;exact hy.wpOp hi hS (rV _ _ _ _ H)
   ·have h1:=H.2 j (ready_mono hj hji)
    obtain⟨hjun,oj,hoj,hall⟩:=mem_ready.1 hj
    have hnot:∀e∈oj.after,Region.binds md e=true->e.on≠i:=fun e he hb heq=>by
     have h1:=hall e he hb;have h0:=(mem_ready.1 hr).1;rw[heq] at h1;rcases Nat.lt_or_ge i listed.size with h'|h'
     ·simp[h'] at h0 h1;rw[h0] at h1;cases h1
     ·simp[Array.getElem?_eq_none h'] at h1
    have h2:=wpOp_putIf hoj (hfree j oj hoj hji hjun hnot) (fun cs b=>hsel i oi cs b hi) (fun cs b=>hsel j oj cs b hoj) hQ hy h1
    have hfree':∀k ok,ops[k]?=some ok->k≠i->(listed.setIfInBounds j true).getD k true=false ->
     (∀e∈ok.after,Region.binds md e=true->e.on≠i)->oi.apart ops ok=true:=fun k ok hk hki hun hno=>by
     refine hfree k ok hk hki ?_ hno
     by_cases hjk:j=k
     ·subst hjk;exact hjun
     ·rw[getD_set_ne true hjk] at hun;exact hun
    refine wpOp_mono (fun a' w' h3=>ih (listed.setIfInBounds j true) a' w' hfree' (ready_mono hr (Ne.symm hji)) h3.1 (h3.2.1 (DW hoj hnot)) ?_) h2;rw[Array.setIfInBounds_comm _ _ hji];exact h3.2.2
theorem jD{j:Nat}{o:Oper}{K:Act->World->Prop}{a:Act}{w:World}(ho:ops[j]?=some o)(h:wpList P ops (Exit.then K Q) [o] a w):wpOp P ops Q j K a w:=by
 unfold wpOp;simp only[ho];unfold wpList at h;split
 ·rename_i hw
  rw[if_pos hw] at h;rcases h with h|h
  ·refine .inl ?_
   unfold Oper.wp at *;generalize (execOp a.eval o).run P w=r at *;cases r with
   | ok x w'=>cases x<;>exact h
   | halt x w'=>cases x<;>exact h
  ·exact .inr h
 ·rename_i hw
  rw[if_neg hw] at h;exact h
def mC(P:Program)(md:Region.Mode)(ops:Array Oper)(Q:Exit->Act->World->Prop)(S:World->Prop)(i:Nat):Nat->List Oper->Act->World->Prop
 | _,[],a,w=>Q .normal a w
 | k,o::rest,a,w=>wpList P ops (Exit.then (fun a' w'=>(Region.waitsFor md ops k i=false->S w')/\mC P md ops Q S i (k+1) rest a' w') Q) [o] a w
theorem tC:∀(l:List Oper) (k:Nat) (listed:Array Bool) (a:Act) (w:World),(∀j,l[j]?=ops[k+j]?) ->
 Region.seqB md ops l.length k listed=true->mC P md ops Q S i k l a w->xZ P md ops Q S i l.length listed a w
 | [],_,_,_,_,_,hB,h=>⟨by simpa [Region.seqB] using hB,h⟩
 | o::l,k,listed,a,w,hl,hB,h=>by
   have h0:ops[k]?=some o:=by simpa using (hl 0).symm
   simp only[List.length_cons,Region.seqB,Bool.and_eq_true,decide_eq_true_eq] at hB;refine⟨fun h1=>(by rw[hB.1] at h1;cases h1),fun j hj=>?_⟩;rw[hB.1] at hj;have hjk:j=k:=by simpa using hj
   subst hjk;exact wpOp_mono (fun a' w' h'=>⟨h'.1,tC l (j+1) _ a' w' (fun m=>by have:=hl (m+1);simpa [Nat.add_assoc,Nat.add_comm 1 m] using this) hB.2 h'.2⟩) (jD h0 h)
theorem qB:∀(l:List Oper) (k:Nat) (a:Act) (w:World),(∀j,j<l.length->Region.waitsFor md ops (k+j) i=true)->wpList P ops Q l a w->mC P md ops Q S i k l a w
 | [],_,_,_,_,h=>h
 | o::l,k,a,w,hw,h=>by
   have h0:Region.waitsFor md ops k i=true:=hw 0 (by simp)
   have key:∀a' w',wpList P ops Q l a' w'->(Region.waitsFor md ops k i=false->S w')/\mC P md ops Q S i (k+1) l a' w':=fun a' w' h' =>
    ⟨fun e=>(by rw[h0] at e;cases e),qB l (k+1) a' w' (fun j hj=>by have:=hw (j+1) (by simpa using hj);rwa [show k+(j+1)=k+1+j by omega] at this) h'⟩
   unfold mC wpList;unfold wpList at h;split
   ·rename_i hwt
    rw[if_pos hwt] at h;rcases h with h|h
    ·refine .inl ?_
     unfold Oper.wp at *;generalize (execOp a.eval o).run P w=r at *;cases r with
     | ok x w'=>cases x<;>first|exact key _ _ h|exact h.elim|(simp only[Oper.upon] at h ⊢;exact Rows.mono h fun v w'' hx=>key _ _ hx)|(simp only[Oper.upon] at h ⊢;exact Calls.mono h fun e w'' hx=>by cases e<;>first|exact key _ _ hx|exact hx)
     | halt x w'=>cases x<;>exact h
    ·exact .inr h
   ·rename_i hwt
    rw[if_neg hwt] at h;exact key _ _ h
theorem zU(l:List Oper)(k:Nat)(a:Act)(w:World)(h:((List.range l.length).all fun j=>Region.waitsFor md ops (k+j) i)=true)(hl:wpList P ops Q l a w):mC P md ops Q S i k l a w:=
 qB l k a w (fun j hj=>List.all_eq_true.1 h j (List.mem_range.2 hj)) hl
theorem Fe{oi:Oper}{v:Value}{a:Act}{w:World}(S:World->Prop)(hi:ops[0]?=some oi)(hsel:Region.noSelect ops=true)(hpos:1≤ops.size)(hfree:Region.free md ops (Array.replicate ops.size false) 0=true)
 (hready:(Region.ready md ops (Array.replicate ops.size false)).contains 0=true) (hseq:Region.seqB md ops (ops.size-1) 1 ((Array.replicate ops.size false).setIfInBounds 0 true)=true)
 (hQ:∀c a w,Q (.panic c) (a.put oi.dst v) w->Q (.panic c) a w) (hy:YieldsIf P ops S oi v a) (hS:S w)
 (h:mC P md ops Q S 0 1 (ops.toList.drop 1) (a.put oi.dst v) w):wpAny P md ops Q ops.size (Array.replicate ops.size false) a w:=by
 have hlen:(ops.toList.drop 1).length=ops.size-1:=by simp
 have:=tC (ops.toList.drop 1) 1 ((Array.replicate ops.size false).setIfInBounds 0 true) _ w (fun j=>by simp[Nat.add_comm]) (by rw[hlen];exact hseq) h;have h2:=Cb hi (Region.noSelect_spec hsel) hQ _ _ a w (Region.free_spec hi hfree) (by simpa using hready) hy hS this;rw[hlen] at h2;have e:ops.size-1+1=ops.size:=by omega
 rwa [e] at h2
end
theorem yA:(Tryz.prog.info? 5).map (·.size)=some 1:=by kernel_rfl
theorem tJ(cur:Array Value)(off:Nat)(cs:List Value)(h:off+cs.length≤cur.size):(cur.toList.take off++(cs++cur.toList.drop (off+cs.length))).toArray=spl cur off cs:=by
 apply Array.ext_getElem?;intro j;rw[mA _ _ _ _ h,List.getElem?_toArray,List.getElem?_append,List.getElem?_append];have hl:(cur.toList.take off).length=off:=by simp;omega
 rw[hl]
 by_cases h1:j<off
 ·rw[if_pos h1,if_neg (by omega),List.getElem?_take,if_pos h1];simp
 ·rw[if_neg h1]
  by_cases h2:j-off<cs.length
  ·rw[if_pos h2,if_pos (by omega)]
  ·rw[if_neg h2,if_neg (by omega),List.getElem?_drop,show off+cs.length+(j-off-cs.length)=j by omega];simp
theorem rA{P:Program}{w:World}{ops:Array Oper}{rest:List Oper}{o:Oper}{a:Act}{Q:Exit->Act->World->Prop}(hgd:o.guard=none)(d s:Operand)(dT sT:TypeId)
 (ho:o.op=.call { callee:=.builtin .copy,args:=#[d,s],argTypes:=#[dT,sT] }) (elem:TypeId) (hu:P.underlying dT=some (.slice elem)) (hsz:(P.info? elem).map (·.size)=some 1)
 (g off dLen dCap:Nat) (hd:a.eval d=.slice (some ⟨g,off,none⟩) dLen dCap) (v2:Value) (m:Nat) (news:List Value) (hs:a.eval s=v2) (hrd:Rd w 1 v2 m news) (k:Nat) (hk:k=Nat.min m dLen)
 (cur:Array Value) (t:TypeId) (hg:w.heap[g]?=some (.cells cur t (0,0))) (hfit:off+k≤cur.size) (h1:∀u∈news,u.oneCell'=true)
 (h:∀w',w'.heap[g]?=some (.cells (spl cur off (news.take k)) t (0,0))->aA (fun i=>i=g) w w'->wpList P ops Q rest (a.put o.dst (goInt k)) w'):wpList P ops Q (o::rest) a w:=by
 obtain⟨hlen,ad,cap,rfl,h2,h3,h4,h5⟩:=hrd;rcases Nat.eq_zero_or_pos k with h0|h0
 ·refine wpList_copy_nothing hgd d s dT sT ho elem hu hsz _ ad dLen dCap m cap hd hs (by omega) ?_
  have:=h w (by rw[h0];simpa [spl] using hg) (aA.refl _ _)
  rwa [h0] at this
 ·have hkm:k≤m:=by rw[hk];exact Nat.min_le_left _ _
  have hnl:(news.take k).length=k:=by rw[List.length_take];omega
  obtain⟨g2,o2,rfl,hc⟩:=h5 (by omega);refine wpList_copy_own hgd d s dT sT ho elem hu hsz g off dLen dCap ⟨g2,o2,none⟩ m cap hd hs cur t hg (news.take k) (by rw[hnl,hk]) ?_ (by rw[hnl];exact hfit) (fun v hv=>h1 v (List.mem_of_mem_take hv)) ?_
  ·intro j v hj
   rw[lB];rw[List.getElem?_take] at hj;split at hj
   ·exact hc j v hj
   ·cases hj
  ·rw[tJ cur off _ (by rw[hnl];exact hfit),hnl]
   exact h _ (setRow_heap w g _ _ t _ hg) ⟨rfl,rfl,rfl,by simp[World.setRow],fun i _ hi=>setRow_other w g i _ hi⟩
theorem AG{P:Program}{ops:Array Oper}{Q:Exit->Act->World->Prop}{md:Region.Mode}{k:Nat}{o:Oper}{fuel:Nat}{listed:Array Bool}{a:Act}{w:World}(ho:ops[k]?=some o)(hr:Region.ready md ops listed=[k])
 (h:wpList P ops (Exit.then (fun a' w'=>wpAny P md ops Q fuel (listed.setIfInBounds k true) a' w') Q) [o] a w):wpAny P md ops Q (fuel+1) listed a w:=
 ⟨fun h1=>(by rw[hr] at h1;cases h1),fun j hj=>by
  rw[hr] at hj;obtain rfl:j=k:=by simpa using hj
  exact jD ho h⟩
theorem Bz{P:Program}{ops:Array Oper}{Q:Exit->Act->World->Prop}{a:Act}{w:World}{rest:List Oper}{o:Oper}(hw:Region.wanted o (yielded ops a.tmps)=true)
 (h:∀K:Act->World->Prop,(∀a w,wpList P ops Q rest a w->K a w)->o.wp P a w K Q):wpList P ops Q (o::rest) a w:=
 wpList_step fun K hK=>by rw[if_pos hw];exact h K hK
theorem aM{P:Program}{ops:Array Oper}{rest:List Oper}{op:Oper}{a:Act}{w:World}{Q:Exit->Act->World->Prop}(hw:Region.wanted op (yielded ops a.tmps)=true)(ty:TypeId)(x:Operand)(ho:op.op=.load ty x)
 (b o:Nat) (hx:a.eval x=.pointer (some ⟨b,o,none⟩)) (cs:List Value) (d:TypeDesc) (hc:w.rangeAt b o cs)
 (hu:P.underlying ty=some d) (hd:d.isRow=true) (hi:(P.info? ty).map (·.size)=some cs.length)
 (h:wpList P ops Q rest (a.put op.dst (.agg cs.toArray)) w):wpList P ops Q (op::rest) a w:=
 Bz hw fun _ hK=>wp_load_mid ty x ho b o hx cs d hc hu hd hi (hK _ _ h)
open Go.RowKit
theorem Ff{P:Program}{ops:Array Oper}{Q:Exit->Act->World->Prop}{md:Region.Mode}{S:World->Prop}{k:Nat}{o:Oper}{fuel:Nat}{listed:Array Bool}{a:Act}{w:World}(ho:ops[k]?=some o)(hr:Region.ready md ops listed=[k])
 (h:wpList P ops (Exit.then (fun a' w'=>S w'/\wpAnyH P md ops Q S fuel (listed.setIfInBounds k true) a' w') Q) [o] a w):wpAnyH P md ops Q S (fuel+1) listed a w:=
 ⟨fun h1=>(by rw[hr] at h1;cases h1),fun j hj=>by
  rw[hr] at hj;obtain rfl:j=k:=by simpa using hj
  exact jD ho h⟩
theorem gH{P:Program}{ops:Array Oper}{Q:Exit->Act->World->Prop}{md:Region.Mode}{S:World->Prop}{k l:Nat}{o o':Oper}{fuel:Nat}{listed:Array Bool}{a:Act}{w:World}(ho:ops[k]?=some o)(ho':ops[l]?=some o')(hr:Region.ready md ops listed=[k,l])
 (h:wpList P ops (Exit.then (fun a' w'=>S w'/\wpAnyH P md ops Q S fuel (listed.setIfInBounds k true) a' w') Q) [o] a w)
 (h':wpList P ops (Exit.then (fun a' w'=>S w'/\wpAnyH P md ops Q S fuel (listed.setIfInBounds l true) a' w') Q) [o'] a w):wpAnyH P md ops Q S (fuel+1) listed a w:=
 ⟨fun h1=>(by rw[hr] at h1;cases h1),fun j hj=>by
  rw[hr] at hj;have:j=k\/j=l:=by simpa using hj
  rcases this with rfl|rfl
  ·exact jD ho h
  ·exact jD ho' h'⟩
theorem wA9 {P:Program}{ops:Array Oper}{Q:Exit->Act->World->Prop}{md:Region.Mode}{S:World->Prop}(k:Nat){o:Oper}{fuel:Nat}{listed:Array Bool}{a:Act}{w:World}(h:wpList P ops (Exit.then (fun a' w'=>S w'/\wpAnyH P md ops Q S fuel (listed.setIfInBounds k true) a' w') Q) [o] a w)(ho:ops[k]?=some o:=by rfl)(hr:Region.ready md ops listed=[k]:=by kernel_rfl):wpAnyH P md ops Q S (fuel+1) listed a w:=Ff ho hr h
end
end Go.Proofs.YtiinnfhjpaeffaaGreat
