import Derived.Test.YtiinnfhjpaeffaaGreatA1
import Derived.Test.YtiinnfhjpaeffaaGreatA2
import Derived.Test.YtiinnfhjpaeffaaGreatA3
import Derived.Test.YtiinnfhjpaeffaaGreatA4
import Derived.Sort.Grow
import Derived.Stop.BytesEq
import Derived.RangeFuncKeeps
import Derived.RangeFuncLeaves
import Derived.RangeFuncFrom
import Derived.RangeFuncNested
import Derived.OwnWalkIn
import Derived.TacticsInMore
import Derived.LoopNIn
import Derived.LoopIn
namespace Go.Proofs.YtiinnfhjpaeffaaGreat
set_option maxHeartbeats 64000000
set_option maxRecDepth 100000
set_option linter.unusedVariables false
section
open Go.RowKit Go.Maps Go.ChangeMaps Go.Sort
theorem aO{w:World}{base e size n:Nat}{v:Value}{xs:List Value}(h:w.ownsRow base e size v n xs){k:Nat}(d:v.ownBlock=some k):∃cur,w.heap[k]?=some (.cells cur e (0,0)):=by
 rcases h.2 with⟨rfl,-⟩|⟨g,f,cur,rfl,_,i,-⟩
 ·cases d
 ·cases d;exact⟨cur,i⟩
theorem eY{S:Nat->Prop}{W d:World}(h:aA S W d)(i:∀k o,W.heap[k]?=some o->S k->o.isCells=true):KeepsOthers W d:=
 ⟨h.size,fun k o f g=>h.blk f fun j=>by rw[i k o f j] at g;cases g⟩
section
variable {P:Program}{n:Nat}{Q:Exit->Act->World->Prop}{ops:Array Oper}{rest:List Oper}
variable{o op:Oper}{a:Act}{w:World}
theorem FK{K:Act->World->Prop}(f:∀c,o.op≠.defer c)(h:o.wp P a w K Q):o.wpIn Fence.wide n P a w K Q:=by
 refine⟨fun _ _=>trivial,?_⟩;rw[Oper.semAt_eq _ _ _ f];unfold Oper.wp at h;generalize (execOp a.eval o).run P w=r at *;cases r with
 | ok x w' =>
   cases x<;>simp only[Oper.upon,Oper.uponIn] at h ⊢<;>first
    | exact h
    | exact⟨fun d=>by simp[Fence.wide] at d,(callsIn_wide (n:=n-1)).2 h⟩
    | exact⟨fun d=>by simp[Fence.wide] at d,fun c i _=>let ⟨v,g,r,s⟩:=h c i;⟨v,g,r,stepsIn_wide.2 s⟩⟩
    | exact h.elim
 | halt x w'=>cases x<;>simp only[Oper.upon,Oper.uponIn] at h ⊢<;>exact h
theorem qU(g:o.guard=none)(d:∀c,o.op≠.defer c)(h:∀K:Act->World->Prop,(∀a w,wpListIn Fence.wide n P ops Q rest a w->K a w)->o.wp P a w K Q) :
 wpListIn Fence.wide n P ops Q (o::rest) a w:=wpListIn_plain g fun K f=>FK d (h K f)
theorem oL(j:o.guard=none)(T:TypeId)(f:o.op=.alloc T)(z:Value)(m:∀w,(zeroValue T).run P w=.ok z w)(cs:Array Value)(d:z.cells=cs)
 (h:wpListIn Fence.wide n P ops Q rest (a.put o.dst (.pointer (w.heap.size))) (w.alloc (.cells cs T))):wpListIn Fence.wide n P ops Q (o::rest) a w:=by
 subst d;refine qU j (by rw[f];intro c i;cases i) fun K g=>?_
 unfold Oper.wp execOp;simp only[f,Sem.run_bind,Sem.run_pure,mB m,Result.andThen_ok];exact g _ _ h
theorem nP(f:op.guard=none)(g:TypeId)(x y:Operand)(m:op.op=.store g x y)
 (b o:Nat) (vs:List Value) (C:a.eval x=.pointer (some ⟨b,o,none⟩)) (hy:a.eval y=.agg vs.toArray) (cs:Array Value) (t:TypeId) (d:w.heap[b]?=some (.cells cs t (0,0))) (i:o+vs.length≤cs.size)
 (z:(P.info? g).map (·.size)=some vs.length) (p:∀v∈vs,v.oneCell'=true)
 (h:∀w',w'.heap[b]?=some (.cells (spl cs o vs) t (0,0))->aA (fun k=>k=b) w w'->wpListIn Fence.wide n P ops Q rest (a.put op.dst undef) w'):wpListIn Fence.wide n P ops Q (op::rest) a w:=by
 refine qU f (by rw[m];intro c u;cases u) fun K q=>?_
 refine wp_store_mid g x y m b o vs.toArray C hy ?_ (by simpa using z) (all_oneCell_toArray p) (q _ _ (h _ (lL _ _ _ _ d) (aA.setCells (S:=fun k=>k=b) (fun _=>rfl) _ _ _ (aA.refl _ _))));intro j B;refine⟨?_,frozen_of_row w b _ _ _ d⟩;rw[cell_of_row w b _ _ _ _ d];have:o+j<cs.size:=by simp at B;omega
 simp[this]
theorem kJ(i:op.guard=none)(f:TypeId)(x:Operand)(j:op.op=.load f x)
 (b o:Nat) (v:a.eval x=.pointer (some ⟨b,o,none⟩)) (cs:List Value) (d:TypeDesc) (g:w.rangeAt b o cs)
 (u:P.underlying f=some d) (p:d.isRow=true) (q:(P.info? f).map (·.size)=some cs.length)
 (h:wpListIn Fence.wide n P ops Q rest (a.put op.dst (.agg cs.toArray)) w):wpListIn Fence.wide n P ops Q (op::rest) a w:=
 qU i (by rw[j];intro c g;cases g) fun K m=>wp_load_mid f x j b o v cs d g u p q (m _ _ h)
end
def Cx(d:Nat)(A B:World):Prop:=KeepsWalks A B/\B.heap[d]?=A.heap[d]?
variable{w w' A a:World}{r b n size:Nat}{t:TypeId}
theorem oH{α:Type}:∀{l:List α}{i:Nat}{x:α},l[i]?=some x->l.Perm (x::l.eraseIdx i)
 | [],_,_,h=>by simp at h
 | y::l,0,x,h=>by
   simp only[List.getElem?_cons_zero,Option.some.injEq] at h;subst h;exact List.Perm.refl _
 | y::l,i+1,x,h=>by
   rw[List.getElem?_cons_succ] at h;rw[List.eraseIdx_cons_succ];exact((oH h).cons y).trans (List.Perm.swap x y _)
theorem BX(h:aA (fun k=>k=r) w w'):w.grownBy w' (some r):=
 ⟨h.os,h.tape,h.output,h.size,fun i f d=>h.block i f (fun e=>d (by rw[e]))⟩
theorem mF(h:aA aB w w'):w.grownBy w' none:=
 ⟨h.os,h.tape,h.output,h.size,fun i d _=>h.block i d id⟩
theorem dS.walks{α β:Type}{ok:α->Prop}{enc:α->Value}{ev:β->Value}{B:World}{l left:List (α×β)}(h:dS ok enc ev A b r l left)(k:KeepsWalks A B):dS ok enc ev B b r l left:=by
 obtain⟨g,clock,d,f,c0,i,m,j,h⟩:=h;exact⟨g,clock,d,f,c0,k.same _ _ i rfl,m,k.same _ _ j rfl,h⟩
theorem dS.walk{α β:Type}{ok:α->Prop}{enc:α->Value}{ev:β->Value}{l left:List (α×β)}(h:dS ok enc ev A b r l left):∃o:Obj,A.heap[r]?=some o/\o.isWalk=true:=by
 obtain⟨i,clock,d,f,c0,j,m,g,h⟩:=h;exact⟨_,g,rfl⟩
theorem dS.count{α β:Type}{ok:α->Prop}{enc:α->Value}{ev:β->Value}{l left:List (α×β)}(h:dS ok enc ev A b r l left):A.rangeLeft b r=left.length:=by
 obtain⟨m,clock,d,f,c0,g,p,i,_,_,_,j,_⟩:=h;have:=congrArg List.length j;simp only[List.length_map,Array.length_toList] at this;simp only[World.rangeLeft,g,i];exact this
theorem dE{vs:List Value}(d:w.heap[b]?=some (.cells vs.toArray t (0,0)))(f:vs.length=n*size)(g:n≤maxLen):Rd w size (.slice b n n) n vs:=
 ⟨f,_,n,rfl,Nat.le_refl _,g,(by intro h;cases h),fun _=>⟨b,0,rfl,fun i u j=>aC d (by simpa using j)⟩⟩
theorem aW{base e k:Nat}{v:Value}{xs:List Value}(h:w.ownsRow base e size v n xs)(d:v.ownBlock=some k):base≤k:=by
 rcases h.2 with⟨rfl,-⟩|⟨g,f,cur,rfl,i,-⟩
 ·cases d
 ·cases d;exact i
theorem JY(t:Array Value)(p:Nat)(v:Value):(Array.zip #[p] #[v]).foldl (fun(t:Array Value) (pv:Nat×Value)=>t.setIfInBounds pv.1 pv.2) t=t.setIfInBounds p v:=by
 simp[Array.zip]
def Gr(w w':World):Prop:=∃(q:Nat) (os:Array Obj),w'=grow (w.drewN q) os
theorem Gr.refl(w:World):Gr w w:=⟨0,#[],by simp[grow];rfl⟩
theorem Gr.trans{b c:World}(h:Gr a b)(k:Gr b c):Gr a c:=by
 obtain⟨q,os,rfl⟩:=h;obtain⟨f,d,rfl⟩:=k;refine⟨q+f,os++d,?_⟩;rw[←grow_grow,←World.drewN_drewN];rfl
theorem Gr.alloc{b:World}(h:Gr a b)(o:Obj):Gr a (b.alloc o):=h.trans ⟨0,#[o],by rw[alloc_eq_grow];rfl⟩
theorem Gr.drewN{b:World}(h:Gr a b)(q:Nat):Gr a (b.drewN q):=h.trans ⟨q,#[],(grow_empty _).symm⟩
theorem Gr.keep{b:World}(h:Gr a b):aA aB a b:=by
 obtain⟨q,os,rfl⟩:=h;refine⟨rfl,rfl,rfl,by simp[grow],fun k d _=>?_⟩;simp only[grow];rw[Array.getElem?_append_left (by exact d)];rfl
theorem aS(w:World)(cs:Array Value)(t:TypeId):∃w',w.alloc (.cells cs t)=w'/\aA aB w w'/\w'.heap[w.heap.size]?=some (.cells cs t (0,0))/\w'.heap.size=w.heap.size+1:=
 ⟨_,rfl,(aA.refl _ _).alloc _,heap_alloc_new _ _,World.size_alloc _ _⟩
def aX(w:World)(b:Bool)(e:Ending)(w':World):Prop:=e=.returned (.bool b)/\aA aB w w'
theorem yQ{P:Program}{xs ys:Array Value}{b:Bool}(h:(binOp .eql t (.agg xs) (.agg ys)).run P w=.ok (.bool b) w):(binOp .neq t (.agg xs) (.agg ys)).run P w=.ok (.bool (!b)) w:=by
 rw[run_eql_struct] at h;rw[run_neq_struct];cases d:(Op.equalIn 10000 t (.agg xs) (.agg ys)).run P w with
 | ok x w' =>
   rw[d] at h;simp only[Result.andThen_ok,Result.ok.injEq,Value.bool.injEq] at h ⊢;exact⟨by rw[h.1],h.2⟩
 | halt x w'=>rw[d] at h;cases h
def eqT(d:Nat)(xs ys:Array Value):List (String×TypeId×Nat)->Sem Bool
 | []=>pure true
 | f::fs =>
   if f.1 ≠ "_" then do
    let a ←part f.2.1 xs f.2.2
    let b ←part f.2.1 ys f.2.2
    let r ←Op.equalIn d f.2.1 a b
    if (!r)=true then pure false else eqT d xs ys fs
   else eqT d xs ys fs
theorem tU(d:Nat)(xs ys:Array Value):∀(fs:List Field),Op.eqFields d xs ys fs=eqT d xs ys (fs.map fun f=>(f.name,f.type,f.offset))
 | []=>rfl
 | f::fs=>by simp only[Op.eqFields,eqT,List.map_cons,tU d xs ys fs]
theorem sD(cs:Array Value)(off:Nat)(v:Value)(h:cs[off]?=some v)(w:World):(part 3 cs off).run Tryz.prog w=.ok v w:=by
 simp[part,isAgg,run_underlying Tryz.underlying3,h]
theorem aA.rangeAt(h:aA aB w w'){o:Nat}{cs:List Value}(d:w.rangeAt b o cs):w'.rangeAt b o cs:=fun j v f=>h.cell (d j v f) id
end
section
open Go.RowKit Go.Maps Go.ChangeMaps
@[ext] structure Ad where
 dev:Int
 sec:Int
deriving DecidableEq
def Aq(n:Int):Prop:=-9223372036854775808≤n/\n≤9223372036854775807
def eL(a:Ad):Prop:=Aq a.1/\Aq a.2
def aM(a:Ad):List Value:=[.int .i64 a.1,.int .i64 a.2]
def adV(a:Ad):Value:=.agg (aM a).toArray
variable{a:Option Addr}{w:World}{s n c k:Nat}{xs:List Value}{P:Program}{t e:TypeId}
theorem bE(a:Ad):(aM a).length=2:=rfl
theorem bG(a:Ad):∀u∈aM a,u.oneCell'=true:=by
 intro u d;simp only[aM,List.mem_cons,List.not_mem_nil,or_false] at d;rcases d with rfl|rfl<;>rfl
theorem JZ{a b:Ad}(h:aM a=aM b):a=b:=by
 unfold aM at h;injection h with d f
 injection f with g m
 injection d with _ i
 injection g with _ j
 exact Ad.ext i j
theorem bH:(Tryz.prog.info? 82).map (·.size)=some 2:=by kernel_rfl
def bT:Value:=.agg #[.int .i64 0,.int .i64 0]
theorem eH(w:World):(zeroValue 82).run Tryz.prog w=.ok bT w:=by kernel_rfl
theorem cR:(Tryz.prog.info? 82).map (fun i=>(i.zero,i.size,i.bytes))=some (some bT,2,16):=by kernel_rfl
theorem tL(d:Nat)(n:Int)(h:Aq n):Tryz.prog.keyLits (d+1) 3 [.int .i64 n]=some [.int .i64 n]:=by
 have f:(Lit.int .i64 n).wf=true:=Go.WalkArith.wf_i64 h;simp[Program.keyLits,Tryz.underlying3,f]
theorem Hv:laidOutB Tryz.prog=true:=by kernel_rfl
theorem bB:Tryz.prog.underlying 82=some (.struct (Tryz.prog.fieldsOf 82)):=by kernel_rfl
theorem xF : (Tryz.prog.fieldsOf 82).toList.map (fun f => (f.name, f.type, f.offset)) = [("Dev", 3, 0), ("At", 3, 1)] := by kernel_rfl
theorem L9:Keyed Tryz.prog 82:=Keyed.of_law (deep_law_gate Hv (of_decide_eq_true (by kernel_rfl)) (of_decide_eq_true (by kernel_rfl)) (by kernel_rfl) (by rw[bB]))
theorem Oc(a:Ad)(h:eL a):∃x,keyOf Tryz.prog 82 (adV a)=some x:=by
 have y:Tryz.prog.keyType 82=true:=by kernel_rfl
 have v:Tryz.prog.cellsOf 82=2:=by kernel_rfl
 have F:Tryz.prog.cellsOf 3=1:=by kernel_rfl
 have z:(adV a).formed Tryz.prog 82=true:=by
  simp[Value.formed,adV,v,aM]
 have B:∃ys,Tryz.prog.keyLits (Tryz.prog.types.size+1) 82 (adV a).cells.toList=some ys:=by
  obtain⟨d,D⟩:∃d,Tryz.prog.types.size=d+1:=⟨Tryz.prog.types.size-1,by have:0<Tryz.prog.types.size:=of_decide_eq_true (by kernel_rfl);omega⟩
  rw[D];have E:(adV a).cells.toList=aM a:=by simp[adV,Value.cells]
  rw[E];unfold Program.keyLits;rw[bB];have C : ((Tryz.prog.fieldsOf 82).all (·.name != "_")) = true := by kernel_rfl
  simp only[v,bE,C,and_self,if_true];obtain⟨f,g,m,i,j,p,q⟩:∃f g,(Tryz.prog.fieldsOf 82).toList=[f,g]/\f.type=3/\f.offset=0/\g.type=3/\g.offset=1:=⟨_,_,rfl,rfl,rfl,rfl,rfl⟩
  rw[m];simp only[List.mapM_cons,List.mapM_nil,i,j,p,q,F,aM,List.drop_zero,List.take_succ_cons,List.take_zero,List.drop_succ_cons,tL d _ h.1,tL d _ h.2];exact⟨_,rfl⟩
 obtain⟨ys,u⟩:=B;refine⟨.string (keyBytes ys),?_⟩;unfold keyOf;rw[bB];simp only[y,z,Bool.and_self,if_true];rw[u];rfl
theorem LS:tS Tryz.prog 82 eL adV where
 law:=L9
 key:=Oc
 inj a c _ _ h:=by
  unfold adV at h;injection h with d
  exact JZ (congrArg Array.toList d)
inductive Nix where
 | nix
def eX(_:Nix):Value:=.agg #[]
def cX(a b:Ad):Bool:=decide (a.1<b.1) || (decide (a.1=b.1) && decide (a.2<b.2))
theorem pI(a b:Ad):cX a b=true↔a.1<b.1\/(a.1=b.1/\a.2<b.2):=by simp[cX]
theorem jY(a b:Ad):cX a b=false↔¬(a.1<b.1\/(a.1=b.1/\a.2<b.2)):=by rw[←pI];simp
def iF(x y:Int):Int:=if x<y then -1 else if y<x then 1 else 0
def vP(a b:Ad):Int:=if iF a.1 b.1≠0 then iF a.1 b.1 else iF a.2 b.2
theorem J0(a b:Ad):decide (vP a b<0)=cX a b:=by
 rw[Bool.eq_iff_iff,pI,decide_eq_true_iff];unfold vP iF;split<;>split<;>(try split)<;>omega
open Go.RowKit
set_option maxRecDepth 100000
set_option linter.unusedVariables false
theorem Rd.cut_to(h:Rd w s (.slice a n c) n xs)(q:k≤n):Rd w s (.slice a k c) k (xs.take (k*s)):=by
 obtain⟨h0,z,B,y,C,f,j,m⟩:=h;cases y
 have v:k*s≤n*s:=Nat.mul_le_mul_right s q;refine⟨by rw[List.length_take,h0];omega,a,c,rfl,by omega,f,j,fun x=>?_⟩;obtain⟨g,o,rfl,p⟩:=m (by rw[List.length_take] at x;omega);refine⟨g,o,rfl,fun i u d=>p i u ?_⟩;rw[List.getElem?_take] at d;split at d
 ·exact d
 ·cases d
theorem Rd.cut_from(h:Rd w s (.slice a n c) n xs)(C:k≤n):Rd w s (sliced a k n c s) (n-k) (xs.drop (k*s)):=by
 obtain⟨h0,x,y,v,z,B,f,j⟩:=h;cases v
 unfold sliced;refine⟨by rw[List.length_drop,h0,Nat.sub_mul],_,c-k,rfl,by omega,by omega,?_,fun q=>?_⟩
 ·intro e
  split at e
  ·omega
  ·rcases a with _|a
   ·have:=f rfl;omega
   ·cases e
 ·rw[List.length_drop,h0] at q
  have p:k<n:=by
   rcases Nat.lt_or_ge k n with h|h
   ·exact h
   ·have:n=k:=by omega
    subst this;omega
  obtain⟨g,o,rfl,m⟩:=j (by rw[h0];omega);rw[if_neg (by omega)];refine⟨g,o+k*s,by simp[iD],fun i u d=>?_⟩;rw[List.getElem?_drop] at d;have:=m _ _ d
  rwa [←Nat.add_assoc] at this
theorem yR(g:P.underlying t=some (.slice e))(a:Option Addr)(n c k:Nat)(i:k≤c)(h:∀w,(sizeOf e).run P w=.ok s w)(w:World) :
 (Instr.sliceAt t (.slice a n c) none (some (.int .i64 k)) none).run P w=.ok (.slice a k c) w:=by
 have f:P.elem t=e:=by simp[Program.elem,g]
 have d:P.underlying t=some (.slice (P.elem t)):=by rw[f];exact g
 have:(k:Int)≤(c:Int):=by omega
 rw[run_sliceAt_slice w t _ _ _ _ d,run_slice_h w t a n c d .i64 (k:Int) (by omega) this,f,h];simp only[Result.andThen,sliced,Int.toNat_natCast,Nat.zero_mul,Nat.sub_zero]
 congr 2
 split
 ·rfl
 ·rcases a with _|a<;>simp[Addr.add]
theorem tV(g:P.underlying t=some (.slice e))(a:Option Addr)(n c k:Nat)(i:k≤n)(h:∀w,(sizeOf e).run P w=.ok s w)(w:World) :
 (Instr.sliceAt t (.slice a n c) (some (.int .i64 k)) none none).run P w=.ok (sliced a k n c s) w:=by
 have f:P.elem t=e:=by simp[Program.elem,g]
 have d:P.underlying t=some (.slice (P.elem t)):=by rw[f];exact g
 have:(k:Int)≤(n:Int):=by omega
 rw[run_sliceAt_slice w t _ _ _ _ d,run_slice_l w t a n c d .i64 (k:Int) (by omega) this,f,h];simp only[Result.andThen,Int.toNat_natCast]
theorem jZ{ops:Array Oper}{S:World->Prop}{op:Oper}{a:Act}{v:Value}(z:Region.wanted op (yielded ops a.tmps)=true)(t:TypeId)(x:Operand)(lo i j:Option Operand)(y:op.op=.slice t x lo i j)
 (m:Value) (f d g:Option Value) (B:a.eval x=m) (p:lo.map a.eval=f) (q:i.map a.eval=d) (u:j.map a.eval=g) (h:∀w,(Instr.sliceAt t m f d g).run P w=.ok v w):YieldsIf P ops S op v a:=
 .inl ⟨z,fun w _=>by
  unfold execOp;simp only[y,B,p,q,u,Sem.run_bind,h w,Result.andThen_ok,Sem.run_pure]⟩
end
section
open Go.RowKit
theorem dwA{P:Program}{ops:Array Oper}{Q:Exit->Act->World->Prop}{id:Nat}{a:Act}{w:World}(U:Nat->Prop)(f:P.follows .mixedOrders=true)(h:∀wd (S:World->Prop),Hid (∀w',S w'->aA U wd w')->Hid (∀w',aA U wd w'->S w')->S wd->aA aB w wd->wpAnyH P .any ops Q S ops.size (Array.replicate ops.size false) a wd):(Code.region id ops true).wp P Q a w:=
 have d:=(aA.refl aB w).drew
 wp_region_held (S:=fun w'=>aA U w.drew w') f (h w.drew (fun w'=>aA U w.drew w') (O fun _ h=>h) (O fun _ h=>h) (aA.refl _ _) d)
theorem EZ(x:Int)(w:World):Calls Tryz.prog 205 #[.int .i64 x] w fun e w'=>e=.returned (.bool false)/\w'=w:=by
 have h:decide (x=x)=true:=decide_eq_true rfl;go_in;go_wp2;go_ret;exact⟨by simp,rfl⟩
theorem E0(x y:Int)(w:World):Calls Tryz.prog 154 #[.int .i64 x,.int .i64 y] w fun e w'=>e=.returned (.int .i64 (iF x y))/\w'=w:=by
 have g:=O (fun w=>EZ x w);have i:=O (fun w=>EZ y w);obtain⟨c,f⟩:∃c,iF x y=c:=⟨_,rfl⟩
 have d:=O f;rw[f];clear f;go_in;go_wp2_with fail;refine(g.out _).mono ?_;rintro e p ⟨rfl,rfl⟩;go_wp2_with fail;refine(i.out _).mono ?_;rintro e q ⟨rfl,rfl⟩;rcases Int.lt_trichotomy x y with h|h|h
 ·have e:c=-1:=by rw[←d.out];unfold iF;rw[if_pos h]
  subst e;go_wp2;go_ret;exact⟨rfl,rfl⟩
 ·have e:c=0:=by rw[←d.out];unfold iF;rw[if_neg (by omega),if_neg (by omega)]
  subst e;have j:¬x<y:=by omega
  have m:¬y<x:=by omega
  clear h;go_wp2;go_ret;exact⟨rfl,rfl⟩
 ·have e:c=1:=by rw[←d.out];unfold iF;rw[if_neg (by omega),if_pos h]
  subst e;have j:¬x<y:=by omega
  go_wp2;go_ret;exact⟨rfl,rfl⟩
def orI(x y:Int):Int:=if x≠0 then x else y
theorem Nq(x y:Int)(b:Nat)(w:World)(h0:w.cell? ⟨b,0,none⟩=some (.int .i64 x))(g:w.cell? ⟨b,1,none⟩=some (.int .i64 y)) :
 Calls Tryz.prog 153 #[.slice b 2 2] w fun e w'=>e=.returned (.int .i64 (orI x y))/\w'=w:=by
 obtain⟨c,f⟩:∃c,orI x y=c:=⟨_,rfl⟩
 have d:=O f;rw[f];have j:=O h0;have m:=O g;clear f h0 g;go_in;go_wp2_with fail
 go_loopw [5,8] (fun _ i wr=>wr=w/\(i=.int .i64 0\/(i=.int .i64 1/\x=0)\/(i=.int .i64 2/\x=0/\y=0))) (fun _ i _=>2-(intOf i).toNat)
 case atStart=>exact⟨rfl,.inl rfl⟩
 case round =>
  obtain⟨rfl,rfl|⟨rfl,rfl⟩|⟨rfl,rfl,rfl⟩⟩:=hrel
  ·have c0:=j.out
   by_cases h:x=0
   ·subst h
    go_wp2
    go_roundw
    case rel=>simp
    case measure=>decide
   ·have e:x=c:=by rw[←d.out];unfold orI;rw[if_pos h]
    subst e;go_wp2;go_ret;exact⟨rfl,rfl⟩
  ·have c1:=m.out
   have e:y=c:=by rw[←d.out];unfold orI;rfl
   subst e
   by_cases p:y=0
   ·subst p
    go_wp2
    go_roundw
    case rel=>simp
    case measure=>decide
   ·go_wp2
    go_ret;exact⟨rfl,rfl⟩
  ·have e:c=0:=by rw[←d.out];rfl
   subst e;go_wp2;go_ret;exact⟨rfl,rfl⟩
theorem Hz(a b:Ad)(w:World):Calls Tryz.prog 106 #[adV a,adV b] w fun e w'=>e=.returned (.int .i64 (vP a b))/\Gr w w':=by
 obtain⟨j,m⟩:∃j,(w.alloc (.cells (aM a).toArray 82)).alloc (.cells (aM b).toArray 82)=j:=⟨_,rfl⟩
 have p:j.heap[w.heap.size]?=some (.cells (aM a).toArray 82 (0,0)):=by rw[←m];exact heap_alloc2_old _ _ _
 have q:j.heap[w.heap.size+1]?=some (.cells (aM b).toArray 82 (0,0)):=by rw[←m];exact heap_alloc2_new _ _ _
 have J:Gr w j:=by rw[←m];exact((Gr.refl _).alloc _).alloc _
 have K:=O (show vP a b=orI (iF a.1 b.1) (iF a.2 b.2) from rfl);obtain⟨S,d⟩:∃S:World->Prop,S=fun w'=>Gr j w':=⟨_,rfl⟩
 have F:=O (show ∀w',S w'->Gr w w' from fun w' h=>by rw[d] at h;exact J.trans h);have v:=O (show ∀w' u,S w'->Gr w' u->S u from fun w' u h k=>by rw[d] at h ⊢;exact Gr.trans h k);have B:=O (show ∀w',S w'->w'.cell? ⟨w.heap.size,0,none⟩=some (.int .i64 a.1) from fun w' h=>by rw[d] at h;exact aC (h.keep.blk p id) rfl);have C:=O (show ∀w',S w'->w'.cell? ⟨w.heap.size,1,none⟩=some (.int .i64 a.2) from fun w' h=>by rw[d] at h;exact aC (h.keep.blk p id) rfl);have D:=O (show ∀w',S w'->w'.cell? ⟨w.heap.size+1,0,none⟩=some (.int .i64 b.1) from fun w' h=>by rw[d] at h;exact aC (h.keep.blk q id) rfl);have E:=O (show ∀w',S w'->w'.cell? ⟨w.heap.size+1,1,none⟩=some (.int .i64 b.2) from fun w' h=>by rw[d] at h;exact aC (h.keep.blk q id) rfl);have x:S j:=by rw[d];exact Gr.refl _
 have H:=O E0;clear d p q J;unfold adV;go_in;go_wp2_with fail;clear m;have g:S j.drew:=v.out _ _ x ((Gr.refl _).drewN 1);clear x;refine wp_region_held (S:=S) (by kernel_rfl) ?_;change wpAnyH _ _ _ _ _ _ _ _ j.drew;generalize j.drew=M at *;refine tka 0 (.pointer (w.heap.size)) rfl g ?_;simp only[Act.put,List.setIfInBounds_toArray,List.set_cons_zero,List.set_cons_succ,List.getElem_toArray,List.getElem_cons_zero];refine tnd 1 (.int .i64 a.1) rfl (.inl ⟨by rfl,fun w' f=>by have c:=B.out w' f;go_simp⟩) g ?_;refine tna 2 (.pointer (some ⟨w.heap.size+1,0,none⟩)) rfl g ?_;refine tnd 3 (.int .i64 b.1) rfl (.inl ⟨by rfl,fun w' f=>by have c:=D.out w' f;go_simp⟩) g ?_;refine tna 5 (.pointer (some ⟨w.heap.size,1,none⟩)) rfl g ?_;refine tnd 6 (.int .i64 a.2) rfl (.inl ⟨by rfl,fun w' f=>by have c:=C.out w' f;go_simp⟩) g ?_;refine tna 7 (.pointer (some ⟨w.heap.size+1,1,none⟩)) rfl g ?_;refine tnd 8 (.int .i64 b.2) rfl (.inl ⟨by rfl,fun w' f=>by have c:=E.out w' f;go_simp⟩) g ?_;refine wA9 4 ?_;go_wp2_with fail;refine(H.out _ _ _).mono ?_;rintro e N ⟨rfl,rfl⟩;go_wp2_with fail;refine⟨g,?_⟩;refine wA9 9 ?_;go_wp2_with fail;refine(H.out _ _ _).mono ?_;rintro e G ⟨rfl,rfl⟩;go_wp2_with fail;refine⟨g,?_⟩;refine wA9 10 ?_;go_wp2_with fail
 obtain⟨z,y,c0,c1,i⟩:∃z,G.alloc (.cells #[.int .i64 (iF a.1 b.1),.int .i64 (iF a.2 b.2)] 3)=z/\z.cell? ⟨G.heap.size,0,none⟩=some (.int .i64 (iF a.1 b.1))/\z.cell? ⟨G.heap.size,1,none⟩=some (.int .i64 (iF a.2 b.2))/\S z:=
  ⟨_,rfl,aC (heap_alloc_new _ _) rfl,aC (heap_alloc_new _ _) rfl,v.out _ _ g ((Gr.refl _).alloc _)⟩
 rw[y];have I:=O (Nq _ _ _ _ c0 c1);clear y c0 c1 g;refine⟨i,?_⟩;refine wA9 11 ?_;go_wp2_with fail;refine I.out.mono ?_;rintro e R ⟨rfl,rfl⟩;rw[←K.out];go_wp2_with fail;refine⟨i,?_⟩;refine tna 12 (.int .i64 (vP a b)) rfl i ?_;refine wpAnyH_done (by kernel_rfl) ?_ _;have L:=O (F.out _ i);clear i I;go_wp2;go_ret;exact⟨rfl,L.out⟩
end
section
open Go.RowKit Go.Maps Go.ChangeMaps
theorem E6:(Tryz.prog.info? 3).map (fun i=>(i.zero,i.size,i.bytes))=some (some (.int .i64 0),1,8):=by kernel_rfl
def Of(w:World)(l:List Int)(e:Ending)(w':World):Prop:=∃v,e=.returned v/\w'.ownsRow w.heap.size 3 1 v l.length (l.map fun x=>.int .i64 x)/\aA aB w w'
theorem CM(l:List Int):∀u∈l.map (fun x=>Value.int .i64 x),u.oneCell'=true:=fun u d=>by obtain⟨x,-,rfl⟩:=List.mem_map.1 d;rfl
section
variable {α β:Type}{P:Program}{k:TypeId}{ok:α->Prop}{enc:α->Value}{ev:β->Value}{w:World}{b:Nat}{l:List (α×β)}
variable {ops:Array Oper}{rest:List Oper}{o:Oper}{a:Act}{Q:Exit->Act->World->Prop}
theorem zZ(j:o.guard=none)(m:Operand)(t:TypeId)(g:o.op=Op.range t m){k e:TypeId}(q:P.underlying t=some (.map k e))(p:a.eval m=.map (some b))(h:cS ok enc ev w b l)
 (i:∀w',dS ok enc ev w' b w.heap.size l l->aA aB w w'->w'.heap.size=w.heap.size+1->wpList P ops Q rest (a.put o.dst (.pointer (w.heap.size))) w'):wpList P ops Q (o::rest) a w:=by
 refine wpList_plain j fun y f=>?_
 obtain⟨w',d,u,v,x⟩:=h.range q;unfold Oper.wp;simp[execOp,g,p,d,Result.andThen];exact f _ _ (i w' u v x)
theorem AT(E:o.guard=none)(q:Operand)(p:o.op=Op.next q false){r:Nat}{left:List (α×β)}(m:a.eval q=.pointer r)(h:dS ok enc ev w b r l left)
 (f:left=[]->wpList P ops Q rest (a.put o.dst (.tuple #[.bool false])) w)
 (g:∀i x v w',left[i]?=some (x,v)->ok x->dS ok enc ev w' b r l (left.eraseIdx i)->aA (fun k=>k=r) w w'->w'.heap.size=w.heap.size->rJ enc ev w' b r x v->wpList P ops Q rest (a.put o.dst (.tuple #[.bool true,enc x,ev v])) w'):wpList P ops Q (o::rest) a w:=by
 refine wpList_plain E fun F j=>?_
 unfold Oper.wp;rcases h.next (P:=P) o.type with⟨h0,d⟩|⟨i,x,v,w',u,y,d,z,B,C,D⟩
 ·simp[execOp,p,m,d,Result.andThen]
  exact j _ _ (f h0)
 ·simp[execOp,p,m,d,Result.andThen]
  exact j _ _ (g i x v w' u y z B C D)
theorem Aa(m:o.guard=none)(i:Operand)(g:o.op=Op.entry i){r:Nat}{x:α}{v:β}(f:a.eval i=.pointer r)(h:rJ enc ev w b r x v)
 (j:wpList P ops Q rest (a.put o.dst (.tuple #[enc x,ev v])) w):wpList P ops Q (o::rest) a w:=by
 refine wpList_plain m fun p d=>?_
 unfold Oper.wp;simp[execOp,g,f,h P,Result.andThen];exact d _ _ j
end
end
end Go.Proofs.YtiinnfhjpaeffaaGreat
