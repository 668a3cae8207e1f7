import Derived.Test.YtiinnfhjpaeffaaGreatU2
import Derived.Test.YtiinnfhjpaeffaaGreatU3
import Derived.Test.YtiinnfhjpaeffaaGreatU4
import Derived.Sort.Grow
import Derived.Stop.BytesEq
import Derived.RangeFuncKeeps
import Derived.RangeFuncLeaves
import Derived.RangeFuncFrom
import Derived.RangeFuncNested
import Derived.OwnWalkIn
import Derived.TacticsInMore
import Derived.LoopNIn
import Derived.LoopIn
namespace Go.Proofs.YtiinnfhjpaeffaaGreat
open Tryz
set_option maxHeartbeats 0
set_option maxRecDepth 100000
set_option linter.unusedVariables false
section
open Go.RowKit Go.Maps Go.ChangeMaps Go.Sort
theorem aL{w:World}{base e size n:Nat}{v:Value}{i:List Value}(h:w.ownsRow base e size v n i){k:Nat}(c:v.ownBlock=some k):∃cur,w.heap[k]?=some (.cells cur e (0,0)):=by
 rcases h.2 with⟨rfl,-⟩|⟨g,d,cur,rfl,_,f,-⟩
 ·cases c
 ·cases c;exact⟨cur,f⟩
theorem fO{S:Nat->Prop}{W c:World}(h:aA S W c)(g:∀k o,W.heap[k]?=some o->S k->o.isCells=true):KeepsOthers W c:=
 ⟨h.size,fun k o d f=>h.blk d fun i=>by rw[g k o d i] at f;cases f⟩
section
variable {P:Program}{n:Nat}{Q:Exit->Act->World->Prop}{ops:Array Oper}{xT:List Oper}
variable{o:Oper}{a:Act}{w:World}
theorem Hh{K:Act->World->Prop}(f:∀c,o.op≠.defer c)(h:o.wp P a w K Q):o.wpIn Fence.wide n P a w K Q:=by
 refine⟨fun _ _=>trivial,?_⟩;rw[Oper.semAt_eq _ _ _ f];unfold Oper.wp at h;generalize (execOp a.eval o).run P w=r at *;cases r with
 | ok x w' =>
   cases x<;>simp only[Oper.upon,Oper.uponIn] at h ⊢<;>first
    | exact h
    | exact⟨fun d=>by simp[Fence.wide] at d,(callsIn_wide (n:=n-1)).2 h⟩
    | exact⟨fun d=>by simp[Fence.wide] at d,fun c i _=>let ⟨v,g,r,s⟩:=h c i;⟨v,g,r,stepsIn_wide.2 s⟩⟩
    | exact h.elim
 | halt x w'=>cases x<;>simp only[Oper.upon,Oper.uponIn] at h ⊢<;>exact h
theorem sO(g:o.guard=none)(d:∀c,o.op≠.defer c)(h:∀K:Act->World->Prop,(∀a w,wpListIn Fence.wide n P ops Q xT a w->K a w)->o.wp P a w K Q) :
 wpListIn Fence.wide n P ops Q (o::xT) a w:=wpListIn_plain g fun K f=>Hh d (h K f)
theorem qA(m:o.guard=none)(T:TypeId)(g:o.op=.alloc T)(z:Value)(p:∀w,(zeroValue T).run P w=.ok z w)(f:Array Value)(d:z.cells=f)
 (h:wpListIn Fence.wide n P ops Q xT (a.put o.dst (.pointer (w.heap.size))) (w.alloc (.cells f T))):wpListIn Fence.wide n P ops Q (o::xT) a w:=by
 subst d;refine sO m (by rw[g];intro c j;cases j) fun K i=>?_
 unfold Oper.wp execOp;simp only[g,Sem.run_bind,Sem.run_pure,nM p,Result.andThen_ok];exact i _ _ h
theorem pE{op:Oper}(i:op.guard=none)(m:TypeId)(x y:Operand)(q:op.op=.store m x y)
 (b o:Nat) (d:List Value) (D:a.eval x=.pointer (some ⟨b,o,none⟩)) (E:a.eval y=.agg d.toArray) (f:Array Value) (t:TypeId) (g:w.heap[b]?=some (.cells f t (0,0))) (p:o+d.length≤f.size)
 (B:(P.info? m).map (·.size)=some d.length) (s:∀v∈d,v.oneCell'=true)
 (h:∀w',w'.heap[b]?=some (.cells (spl f o d) t (0,0))->aA (fun k=>k=b) w w'->wpListIn Fence.wide n P ops Q xT (a.put op.dst undef) w'):wpListIn Fence.wide n P ops Q (op::xT) a w:=by
 refine sO i (by rw[q];intro c z;cases z) fun K u=>?_
 refine wp_store_mid m x y q b o d.toArray D E ?_ (by simpa using B) (all_oneCell_toArray s) (u _ _ (h _ (mQ _ _ _ _ g) (aA.setCells (S:=fun k=>k=b) (fun _=>rfl) _ _ _ (aA.refl _ _))));intro j C;refine⟨?_,frozen_of_row w b _ _ _ g⟩;rw[cell_of_row w b _ _ _ _ g];have:o+j<f.size:=by simp at C;omega
 simp[this]
theorem lL{op:Oper}(j:op.guard=none)(g:TypeId)(x:Operand)(m:op.op=.load g x)
 (b o:Nat) (v:a.eval x=.pointer (some ⟨b,o,none⟩)) (f:List Value) (d:TypeDesc) (i:w.rangeAt b o f)
 (u:P.underlying g=some d) (q:d.isRow=true) (s:(P.info? g).map (·.size)=some f.length)
 (h:wpListIn Fence.wide n P ops Q xT (a.put op.dst (.agg f.toArray)) w):wpListIn Fence.wide n P ops Q (op::xT) a w:=
 sO j (by rw[m];intro c i;cases i) fun K p=>wp_load_mid g x m b o v f d i u q s (p _ _ h)
end
def DY(c:Nat)(A B:World):Prop:=KeepsWalks A B/\B.heap[c]?=A.heap[c]?
variable{w w' A a:World}{r b n size:Nat}{t:TypeId}
theorem lY{α:Type}:∀{l:List α}{i:Nat}{x:α},l[i]?=some x->l.Perm (x::l.eraseIdx i)
 | [],_,_,h=>by simp at h
 | y::l,0,x,h=>by
   simp only[List.getElem?_cons_zero,Option.some.injEq] at h;subst h;exact List.Perm.refl _
 | y::l,i+1,x,h=>by
   rw[List.getElem?_cons_succ] at h;rw[List.eraseIdx_cons_succ];exact((lY h).cons y).trans (List.Perm.swap x y _)
theorem Dt(h:aA (fun k=>k=r) w w'):w.grownBy w' (some r):=
 ⟨h.os,h.tape,h.output,h.size,fun i d c=>h.block i d (fun e=>c (by rw[e]))⟩
theorem nS(h:aA aB w w'):w.grownBy w' none:=
 ⟨h.os,h.tape,h.output,h.size,fun i c _=>h.block i c id⟩
theorem cP.walks{α β:Type}{ok:α->Prop}{enc:α->Value}{ev:β->Value}{B:World}{l left:List (α×β)}(h:cP ok enc ev A b r l left)(k:KeepsWalks A B):cP ok enc ev B b r l left:=by
 obtain⟨d,clock,since,c,c0,f,i,g,h⟩:=h;exact⟨d,clock,since,c,c0,k.same _ _ f rfl,i,k.same _ _ g rfl,h⟩
theorem cP.walk{α β:Type}{ok:α->Prop}{enc:α->Value}{ev:β->Value}{l left:List (α×β)}(h:cP ok enc ev A b r l left):∃o:Obj,A.heap[r]?=some o/\o.isWalk=true:=by
 obtain⟨f,clock,since,c,c0,g,i,d,h⟩:=h;exact⟨_,d,rfl⟩
theorem cP.count{α β:Type}{ok:α->Prop}{enc:α->Value}{ev:β->Value}{l left:List (α×β)}(h:cP ok enc ev A b r l left):A.rangeLeft b r=left.length:=by
 obtain⟨i,clock,since,c,c0,d,j,f,_,_,_,g,_⟩:=h;have:=congrArg List.length g;simp only[List.length_map,Array.length_toList] at this;simp only[World.rangeLeft,d,f];exact this
theorem eQ{vs:List Value}(c:w.heap[b]?=some (.cells vs.toArray t (0,0)))(d:vs.length=n*size)(f:n≤maxLen):Rd w size (.slice b n n) n vs:=
 ⟨d,_,n,rfl,Nat.le_refl _,f,(by intro h;cases h),fun _=>⟨b,0,rfl,fun i u g=>aD c (by simpa using g)⟩⟩
theorem bM{base e k:Nat}{v:Value}{i:List Value}(h:w.ownsRow base e size v n i)(c:v.ownBlock=some k):base≤k:=by
 rcases h.2 with⟨rfl,-⟩|⟨g,d,cur,rfl,f,-⟩
 ·cases c
 ·cases c;exact f
theorem LF(t:Array Value)(p:Nat)(v:Value):(Array.zip #[p] #[v]).foldl (fun(t:Array Value) (pv:Nat×Value)=>t.setIfInBounds pv.1 pv.2) t=t.setIfInBounds p v:=by
 simp[Array.zip]
def Gr(w w':World):Prop:=∃(q:Nat) (os:Array Obj),w'=grow (w.drewN q) os
theorem Gr.refl(w:World):Gr w w:=⟨0,#[],by simp[grow];rfl⟩
theorem Gr.trans{b c:World}(h:Gr a b)(k:Gr b c):Gr a c:=by
 obtain⟨q,os,rfl⟩:=h;obtain⟨f,d,rfl⟩:=k;refine⟨q+f,os++d,?_⟩;rw[←grow_grow,←World.drewN_drewN];rfl
theorem Gr.alloc{b:World}(h:Gr a b)(o:Obj):Gr a (b.alloc o):=h.trans ⟨0,#[o],by rw[alloc_eq_grow];rfl⟩
theorem Gr.drewN{b:World}(h:Gr a b)(q:Nat):Gr a (b.drewN q):=h.trans ⟨q,#[],(grow_empty _).symm⟩
theorem Gr.keep{b:World}(h:Gr a b):aA aB a b:=by
 obtain⟨q,os,rfl⟩:=h;refine⟨rfl,rfl,rfl,by simp[grow],fun k c _=>?_⟩;simp only[grow];rw[Array.getElem?_append_left (by exact c)];rfl
theorem aV(w:World)(c:Array Value)(t:TypeId):∃w',w.alloc (.cells c t)=w'/\aA aB w w'/\w'.heap[w.heap.size]?=some (.cells c t (0,0))/\w'.heap.size=w.heap.size+1:=
 ⟨_,rfl,(aA.refl _ _).alloc _,heap_alloc_new _ _,World.size_alloc _ _⟩
def aY(w:World)(b:Bool)(e:Ending)(w':World):Prop:=e=.returned (.bool b)/\aA aB w w'
theorem AX{P:Program}{c ys:Array Value}{b:Bool}(h:(binOp .eql t (.agg c) (.agg ys)).run P w=.ok (.bool b) w):(binOp .neq t (.agg c) (.agg ys)).run P w=.ok (.bool (!b)) w:=by
 rw[run_eql_struct] at h;rw[run_neq_struct];cases d:(Op.equalIn 10000 t (.agg c) (.agg ys)).run P w with
 | ok x w' =>
   rw[d] at h;simp only[Result.andThen_ok,Result.ok.injEq,Value.bool.injEq] at h ⊢;exact⟨by rw[h.1],h.2⟩
 | halt x w'=>rw[d] at h;cases h
def eqT(d:Nat)(c ys:Array Value):List (String×TypeId×Nat)->Sem Bool
 | []=>pure true
 | f::fs =>
   if f.1 ≠ "_" then do
    let a ←part f.2.1 c f.2.2
    let b ←part f.2.1 ys f.2.2
    let r ←Op.equalIn d f.2.1 a b
    if (!r)=true then pure false else eqT d c ys fs
   else eqT d c ys fs
theorem wN(d:Nat)(c ys:Array Value):∀(fs:List Field),Op.eqFields d c ys fs=eqT d c ys (fs.map fun f=>(f.name,f.type,f.offset))
 | []=>rfl
 | f::fs=>by simp only[Op.eqFields,eqT,List.map_cons,wN d c ys fs]
theorem uG(c:Array Value)(off:Nat)(v:Value)(h:c[off]?=some v)(w:World):(part 3 c off).run prog w=.ok v w:=by
 simp[part,isAgg,run_underlying underlying3,h]
theorem aA.rangeAt(h:aA aB w w'){o:Nat}{c:List Value}(d:w.rangeAt b o c):w'.rangeAt b o c:=fun j v f=>h.cell (d j v f) id
end
section
open Go.RowKit Go.Maps Go.ChangeMaps
@[ext] structure Ad where
 dev:Int
 sec:Int
deriving DecidableEq
def wO(n:Int):Prop:=-9223372036854775808≤n/\n≤9223372036854775807
def dS(a:Ad):Prop:=wO a.1/\wO a.2
def aO(a:Ad):List Value:=[.int .i64 a.1,.int .i64 a.2]
def adV(a:Ad):Value:=.agg (aO a).toArray
theorem bG(a:Ad):(aO a).length=2:=rfl
theorem bN(a:Ad):∀u∈aO a,u.oneCell'=true:=by
 intro u c;simp only[aO,List.mem_cons,List.not_mem_nil,or_false] at c;rcases c with rfl|rfl<;>rfl
theorem LG{a b:Ad}(h:aO a=aO b):a=b:=by
 unfold aO at h;injection h with c d
 injection d with f i
 injection c with _ g
 injection f with _ h6
 exact Ad.ext g h6
theorem bV:(prog.info? 82).map (·.size)=some 2:=by kernel_rfl
def eR:Value:=.agg #[.int .i64 0,.int .i64 0]
theorem eJ(w:World):(zeroValue 82).run prog w=.ok eR w:=by kernel_rfl
theorem tG:(prog.info? 82).map (fun i=>(i.zero,i.size,i.bytes))=some (some eR,2,16):=by kernel_rfl
theorem wF(d:Nat)(n:Int)(h:wO n):prog.keyLits (d+1) 3 [.int .i64 n]=some [.int .i64 n]:=by
 have c:(Lit.int .i64 n).wf=true:=Go.WalkArith.wf_i64 h;simp[Program.keyLits,underlying3,c]
theorem Jn:laidOutB prog=true:=by kernel_rfl
theorem bQ:prog.underlying 82=some (.struct (prog.fieldsOf 82)):=by kernel_rfl
theorem LH : (prog.fieldsOf 82).toList.map (fun f => (f.name, f.type, f.offset)) = [("Dev", 3, 0), ("At", 3, 1)] := by kernel_rfl
theorem NN:Keyed prog 82:=Keyed.of_law (deep_law_gate Jn (of_decide_eq_true (by kernel_rfl)) (of_decide_eq_true (by kernel_rfl)) (by kernel_rfl) (by rw[bQ]))
theorem P6(a:Ad)(h:dS a):∃x,keyOf prog 82 (adV a)=some x:=by
 have u:prog.keyType 82=true:=by kernel_rfl
 have s:prog.cellsOf 82=2:=by kernel_rfl
 have D:prog.cellsOf 3=1:=by kernel_rfl
 have v:(adV a).formed prog 82=true:=by
  simp[Value.formed,adV,s,aO]
 have y:∃ys,prog.keyLits (prog.types.size+1) 82 (adV a).cells.toList=some ys:=by
  obtain⟨d,B⟩:∃d,prog.types.size=d+1:=⟨prog.types.size-1,by have:0<prog.types.size:=of_decide_eq_true (by kernel_rfl);omega⟩
  rw[B];have C:(adV a).cells.toList=aO a:=by simp[adV,Value.cells]
  rw[C];unfold Program.keyLits;rw[bQ];have z : ((prog.fieldsOf 82).all (·.name != "_")) = true := by kernel_rfl
  simp only[s,bG,z,and_self,if_true];obtain⟨f,g,j,c,i,m,p⟩:∃f g,(prog.fieldsOf 82).toList=[f,g]/\f.type=3/\f.offset=0/\g.type=3/\g.offset=1:=⟨_,_,rfl,rfl,rfl,rfl,rfl⟩
  rw[j];simp only[List.mapM_cons,List.mapM_nil,c,i,m,p,D,aO,List.drop_zero,List.take_succ_cons,List.take_zero,List.drop_succ_cons,wF d _ h.1,wF d _ h.2];exact⟨_,rfl⟩
 obtain⟨ys,q⟩:=y;refine⟨.string (keyBytes ys),?_⟩;unfold keyOf;rw[bQ];simp only[u,v,Bool.and_self,if_true];rw[q];rfl
theorem DJ:mV prog 82 dS adV where
 law:=NN
 key:=P6
 inj a c _ _ h:=by
  unfold adV at h;injection h with d
  exact LG (congrArg Array.toList d)
inductive Nix where
 | nix
def eA(_:Nix):Value:=.agg #[]
def gC(a b:Ad):Bool:=decide (a.1<b.1) || (decide (a.1=b.1) && decide (a.2<b.2))
theorem qX(a b:Ad):gC a b=true↔a.1<b.1\/(a.1=b.1/\a.2<b.2):=by simp[gC]
theorem lC(a b:Ad):gC a b=false↔¬(a.1<b.1\/(a.1=b.1/\a.2<b.2)):=by rw[←qX];simp
def iV(x y:Int):Int:=if x<y then -1 else if y<x then 1 else 0
def yL(a b:Ad):Int:=if iV a.1 b.1≠0 then iV a.1 b.1 else iV a.2 b.2
theorem LI(a b:Ad):decide (yL a b<0)=gC a b:=by
 rw[Bool.eq_iff_iff,qX,decide_eq_true_iff];unfold yL iV;split<;>split<;>(try split)<;>omega
open Go.RowKit
set_option maxRecDepth 100000
set_option linter.unusedVariables false
end
section
open Go.RowKit
theorem dwA{P:Program}{ops:Array Oper}{Q:Exit->Act->World->Prop}{id:Nat}{a:Act}{w:World}(U:Nat->Prop)(d:P.follows .mixedOrders=true)(h:∀wd (S:World->Prop),Hid (∀w',S w'->aA U wd w')->Hid (∀w',aA U wd w'->S w')->S wd->aA aB w wd->wpAnyH P .any ops Q S ops.size (Array.replicate ops.size false) a wd):(Code.region id ops true).wp P Q a w:=
 have c:=(aA.refl aB w).drew
 wp_region_held (S:=fun w'=>aA U w.drew w') d (h w.drew (fun w'=>aA U w.drew w') (O fun _ h=>h) (O fun _ h=>h) (aA.refl _ _) c)
theorem Gt(x:Int)(w:World):Calls prog 205 #[.int .i64 x] w fun e w'=>e=.returned (.bool false)/\w'=w:=by
 have h:decide (x=x)=true:=decide_eq_true rfl;go_in;go_wp2;go_ret;exact⟨by simp,rfl⟩
theorem Gu(x y:Int)(w:World):Calls prog 154 #[.int .i64 x,.int .i64 y] w fun e w'=>e=.returned (.int .i64 (iV x y))/\w'=w:=by
 have g:=O (fun w=>Gt x w);have i:=O (fun w=>Gt y w);obtain⟨c,f⟩:=zX9 (iV x y)
 have d:=O f;rw[f];clear f;go_in;go_wp2_with fail;refine(g.out _).mono ?_;rintro e p ⟨rfl,rfl⟩;go_wp2_with fail;refine(i.out _).mono ?_;rintro e q ⟨rfl,rfl⟩;rcases Int.lt_trichotomy x y with h|h|h
 ·have e:c=-1:=by rw[←d.out];unfold iV;rw[if_pos h]
  subst e;go_wp2;go_ret;exact⟨rfl,rfl⟩
 ·have e:c=0:=by rw[←d.out];unfold iV;rw[if_neg (by omega),if_neg (by omega)]
  subst e;have j:¬x<y:=by omega
  have m:¬y<x:=by omega
  clear h;go_wp2;go_ret;exact⟨rfl,rfl⟩
 ·have e:c=1:=by rw[←d.out];unfold iV;rw[if_neg (by omega),if_pos h]
  subst e;have j:¬x<y:=by omega
  go_wp2;go_ret;exact⟨rfl,rfl⟩
def orI(x y:Int):Int:=if x≠0 then x else y
theorem Pc(x y:Int)(b:Nat)(w:World)(h0:w.cell? ⟨b,0,none⟩=some (.int .i64 x))(g:w.cell? ⟨b,1,none⟩=some (.int .i64 y)) :
 Calls prog 153 #[.slice b 2 2] w fun e w'=>e=.returned (.int .i64 (orI x y))/\w'=w:=by
 obtain⟨c,f⟩:=zX9 (orI x y)
 have d:=O f;rw[f];have j:=O h0;have m:=O g;clear f h0 g;go_in;go_wp2_with fail
 go_loopw [5,8] (fun _ i wr=>wr=w/\(i=.int .i64 0\/(i=.int .i64 1/\x=0)\/(i=.int .i64 2/\x=0/\y=0))) (fun _ i _=>2-(intOf i).toNat)
 case atStart=>exact⟨rfl,.inl rfl⟩
 case round =>
  obtain⟨rfl,rfl|⟨rfl,rfl⟩|⟨rfl,rfl,rfl⟩⟩:=hrel
  ·have c0:=j.out
   by_cases h:x=0
   ·subst h
    go_wp2
    go_roundw
    case rel=>simp
    case measure=>decide
   ·have e:x=c:=by rw[←d.out];unfold orI;rw[if_pos h]
    subst e;go_wp2;go_ret;exact⟨rfl,rfl⟩
  ·have c1:=m.out
   have e:y=c:=by rw[←d.out];unfold orI;rfl
   subst e
   by_cases p:y=0
   ·subst p
    go_wp2
    go_roundw
    case rel=>simp
    case measure=>decide
   ·go_wp2
    go_ret;exact⟨rfl,rfl⟩
  ·have e:c=0:=by rw[←d.out];rfl
   subst e;go_wp2;go_ret;exact⟨rfl,rfl⟩
theorem Jr(a b:Ad)(w:World):Calls prog 106 #[adV a,adV b] w fun e w'=>e=.returned (.int .i64 (yL a b))/\Gr w w':=by
 obtain⟨j,m⟩:=zX9 ((w.alloc (.cells (aO a).toArray 82)).alloc (.cells (aO b).toArray 82))
 have p:j.heap[w.heap.size]?=some (.cells (aO a).toArray 82 (0,0)):=by rw[←m];exact heap_alloc2_old _ _ _
 have q:j.heap[w.heap.size+1]?=some (.cells (aO b).toArray 82 (0,0)):=by rw[←m];exact heap_alloc2_new _ _ _
 have I:Gr w j:=by rw[←m];exact((Gr.refl _).alloc _).alloc _
 have J:=O (show yL a b=orI (iV a.1 b.1) (iV a.2 b.2) from rfl);obtain⟨S,d⟩:∃S:World->Prop,S=fun w'=>Gr j w':=⟨_,rfl⟩
 have E:=O (show ∀w',S w'->Gr w w' from fun w' h=>by rw[d] at h;exact I.trans h);have u:=O (show ∀w' s,S w'->Gr w' s->S s from fun w' s h k=>by rw[d] at h ⊢;exact Gr.trans h k);have z:=O (show ∀w',S w'->w'.cell? ⟨w.heap.size,0,none⟩=some (.int .i64 a.1) from fun w' h=>by rw[d] at h;exact aD (h.keep.blk p id) rfl);have B:=O (show ∀w',S w'->w'.cell? ⟨w.heap.size,1,none⟩=some (.int .i64 a.2) from fun w' h=>by rw[d] at h;exact aD (h.keep.blk p id) rfl);have C:=O (show ∀w',S w'->w'.cell? ⟨w.heap.size+1,0,none⟩=some (.int .i64 b.1) from fun w' h=>by rw[d] at h;exact aD (h.keep.blk q id) rfl);have D:=O (show ∀w',S w'->w'.cell? ⟨w.heap.size+1,1,none⟩=some (.int .i64 b.2) from fun w' h=>by rw[d] at h;exact aD (h.keep.blk q id) rfl);have v:S j:=by rw[d];exact Gr.refl _
 have G:=O Gu;clear d p q I;unfold adV;go_in;go_wp2_with fail;clear m;have g:S j.drew:=u.out _ _ v ((Gr.refl _).drewN 1);clear v;refine wp_region_held (S:=S) (by kernel_rfl) ?_;change wpAnyH _ _ _ _ _ _ _ _ j.drew;generalize j.drew=L at *;refine tka 0 (.pointer (w.heap.size)) rfl g ?_;simp only[Act.put,List.setIfInBounds_toArray,List.set_cons_zero,List.set_cons_succ,List.getElem_toArray,List.getElem_cons_zero];refine tnd 1 (.int .i64 a.1) rfl (.inl ⟨by rfl,fun w' f=>by have c:=z.out w' f;go_simp⟩) g ?_;refine tna 2 (.pointer (some ⟨w.heap.size+1,0,none⟩)) rfl g ?_;refine tnd 3 (.int .i64 b.1) rfl (.inl ⟨by rfl,fun w' f=>by have c:=C.out w' f;go_simp⟩) g ?_;refine tna 5 (.pointer (some ⟨w.heap.size,1,none⟩)) rfl g ?_;refine tnd 6 (.int .i64 a.2) rfl (.inl ⟨by rfl,fun w' f=>by have c:=B.out w' f;go_simp⟩) g ?_;refine tna 7 (.pointer (some ⟨w.heap.size+1,1,none⟩)) rfl g ?_;refine tnd 8 (.int .i64 b.2) rfl (.inl ⟨by rfl,fun w' f=>by have c:=D.out w' f;go_simp⟩) g ?_;refine wA9 4 ?_;go_wp2_with fail;refine(G.out _ _ _).mono ?_;rintro e M ⟨rfl,rfl⟩;go_wp2_with fail;refine⟨g,?_⟩;refine wA9 9 ?_;go_wp2_with fail;refine(G.out _ _ _).mono ?_;rintro e F ⟨rfl,rfl⟩;go_wp2_with fail;refine⟨g,?_⟩;refine wA9 10 ?_;go_wp2_with fail
 obtain⟨y,x,c0,c1,i⟩:∃y,F.alloc (.cells #[.int .i64 (iV a.1 b.1),.int .i64 (iV a.2 b.2)] 3)=y/\y.cell? ⟨F.heap.size,0,none⟩=some (.int .i64 (iV a.1 b.1))/\y.cell? ⟨F.heap.size,1,none⟩=some (.int .i64 (iV a.2 b.2))/\S y:=
  ⟨_,rfl,aD (heap_alloc_new _ _) rfl,aD (heap_alloc_new _ _) rfl,u _ _ g ((Gr.refl _).alloc _)⟩
 rw[x];have H:=O (Pc _ _ _ _ c0 c1);clear x c0 c1 g;refine⟨i,?_⟩;refine wA9 11 ?_;go_wp2_with fail;refine H.out.mono ?_;rintro e N ⟨rfl,rfl⟩;rw[←J.out];go_wp2_with fail;refine⟨i,?_⟩;refine tna 12 (.int .i64 (yL a b)) rfl i ?_;refine wpAnyH_done (by kernel_rfl) ?_ _;have K:=O (E _ i);clear i H;go_wp2;go_ret;exact⟨rfl,K.out⟩
end
section
open Go.RowKit Go.Maps Go.ChangeMaps
theorem Gz:(prog.info? 3).map (fun i=>(i.zero,i.size,i.bytes))=some (some (.int .i64 0),1,8):=by kernel_rfl
def Qa(w:World)(l:List Int)(e:Ending)(w':World):Prop:=∃v,e=.returned v/\w'.ownsRow w.heap.size 3 1 v l.length (l.map fun x=>.int .i64 x)/\aA aB w w'
theorem Ea(l:List Int):∀u∈l.map (fun x=>Value.int .i64 x),u.oneCell'=true:=fun u c=>by obtain⟨x,-,rfl⟩:=List.mem_map.1 c;rfl
section
variable {α β:Type}{P:Program}{k:TypeId}{ok:α->Prop}{enc:α->Value}{ev:β->Value}{w:World}{b:Nat}{l:List (α×β)}
variable {ops:Array Oper}{xT:List Oper}{o:Oper}{a:Act}{Q:Exit->Act->World->Prop}
variable{r:Nat}{t e:TypeId}
theorem lU{γ:Type}(f:γ->Bool):∀(l:List γ) (j:Nat) (x:γ),l[j]?=some x->f x=false->(l.eraseIdx j).filter f=l.filter f
 | [],_,_,h,_=>by simp at h
 | y::l,0,x,h,c=>by
   simp only[List.getElem?_cons_zero,Option.some.injEq] at h;subst h;simp[c]
 | y::l,j+1,x,h,c=>by
   rw[List.getElem?_cons_succ] at h;rw[List.eraseIdx_cons_succ,List.filter_cons,List.filter_cons,lU f l j x h c]
theorem cP.delete[DecidableEq α]{left:List (α×β)}(h:cP ok enc ev w b r l left)(K:mV P k ok enc)(ht:P.underlying t=some (.map k e))(ty:TypeId)(a:α)(S:ok a)(J:∀p∈left,p.1≠a) :
 ∃w',(Builtin.delete_ #[t,k] ty #[.map (some b),enc a]).run P w=.ok (.tuple #[]) w'/\cP ok enc ev w' b r (l.filter fun p=>!decide (p.1=a)) left/\aA (fun i=>i=b) w w'/\w'.heap.size=w.heap.size:=by
 have Y:=h.ne;obtain⟨g,clock,since,c,c0,D,z,U,C,M,I,d,s⟩:=h;obtain⟨x,hx⟩:=K.key a S;have v:∀p∈left,p∈l.filter fun p=>!decide (p.1=a):=fun p B=>List.mem_filter.2 ⟨s p B,by simpa using J p B⟩
 rcases z.find K w a S with⟨H,G⟩|⟨j,u,F,H,G,N,h4,h5⟩
 ·have hl:l.filter (fun p=>!decide (p.1=a))=l:=List.filter_eq_self.2 (fun p B=>by simpa using G p B)
  rw[hl];refine⟨setBlock w b (.map g clock),?_,?_,iE _ _ _,by simp[setBlock]⟩
  ·simp[Builtin.delete_,run_underlying ht,MapKept.run_getObj_map D,K.law.check w _ hx,H,MapKept.run_setObj_map _ D,Result.andThen,setBlock]
  ·rw[wD D]
   exact⟨g,clock,since,c,c0,D,z,U,C,M,I,d,s⟩
 ·have qa:=(List.getElem?_eq_some_iff.1 G).1
  have qb:j<g.size:=by have:=(List.getElem?_eq_some_iff.1 N).1;simpa using this
  have hf:l.filter (fun p=>!decide (p.1=a))=l.eraseIdx j:=by
   refine filter_eq_eraseIdx (fun p:α×β=>decide (p.1=a)) l j (a,u) G (by simp) ?_;refine(List.pairwise_map.1 z.2.2.2.1).imp fun {p q} X L=>?_
   have H:=of_decide_eq_true L.1;have G:=of_decide_eq_true L.2;exact X (H.trans G.symm)
  rw[hf] at v ⊢;have Z:=iE w b (.map (g.eraseIdxIfInBounds j) clock);have m:(g.eraseIdxIfInBounds j).toList=g.toList.eraseIdx j:=by simp
  have f:=List.eraseIdx_sublist g.toList j;have y:=List.eraseIdx_sublist l j;have V:r<w.heap.size:=(Array.getElem?_eq_some_iff.1 U).1;refine⟨setBlock w b (.map (g.eraseIdxIfInBounds j) clock),?_,⟨_,clock,since,c,c0,iU D,?_,by rw[Z.block r V Y];exact U,?_,M,I,?_,v⟩,Z,by simp[setBlock]⟩
  ·simp[Builtin.delete_,run_underlying ht,MapKept.run_getObj_map D,K.law.check w _ hx,H,MapKept.run_setObj_map _ D,Result.andThen,setBlock]
  ·refine⟨?_,?_,?_,?_,?_⟩
   ·rw[m,map_eraseIdx,map_eraseIdx,z.1]
   ·rw[m];exact(f.map _).nodup z.2.1
   ·intro e E;rw[m] at E;exact z.2.2.1 e (f.subset E)
   ·exact(y.map _).nodup z.2.2.2.1
   ·intro p B;exact z.2.2.2.2 p (y.subset B)
  ·intro e E;rw[m] at E;exact C e (f.subset E)
  ·rw[←d]
   have R:∀g:Array MapEntry,(leftOf g c).toList=g.toList.filter fun x=>!c.contains x.born:=fun g=>by simp[leftOf]
   rw[R,R,m];refine congrArg _ (lU _ _ j F N ?_);cases hc:!c.contains F.born
   ·rfl
   ·exfalso
    have W:F∈(leftOf g c).toList:=by rw[R];exact List.mem_filter.2 ⟨List.mem_of_getElem? N,hc⟩
    have:(F.key,F.val)∈left.map fun p=>(enc p.1,ev p.2):=by rw[←d];exact List.mem_map.2 ⟨F,W,rfl⟩
    obtain⟨p,B,E⟩:=List.mem_map.1 this;have T:enc p.1=enc a:=by rw[←h4];exact congrArg Prod.fst E
    exact J p B (K.inj _ _ (z.2.2.2.2 p (s p B)) S T)
theorem sH(i:o.guard=none)(m:Operand)(t:TypeId)(f:o.op=Op.range t m){k:TypeId}(p:P.underlying t=some (.map k e))(j:a.eval m=.map (some b))(h:cG ok enc ev w b l)
 (g:∀w',cP ok enc ev w' b w.heap.size l l->aA aB w w'->w'.heap.size=w.heap.size+1->wpList P ops Q xT (a.put o.dst (.pointer (w.heap.size))) w'):wpList P ops Q (o::xT) a w:=by
 refine wpList_plain i fun v d=>?_
 obtain⟨w',c,q,s,u⟩:=h.range p;unfold Oper.wp;simp[execOp,f,j,c,Result.andThen];exact d _ _ (g w' q s u)
theorem tV(B:o.guard=none)(p:Operand)(m:o.op=Op.next p false){left:List (α×β)}(j:a.eval p=.pointer r)(h:cP ok enc ev w b r l left)
 (d:left=[]->wpList P ops Q xT (a.put o.dst (.tuple #[.bool false])) w)
 (f:∀i x v w',left[i]?=some (x,v)->ok x->cP ok enc ev w' b r l (left.eraseIdx i)->aA (fun k=>k=r) w w'->w'.heap.size=w.heap.size->tF enc ev w' b r x v->wpList P ops Q xT (a.put o.dst (.tuple #[.bool true,enc x,ev v])) w'):wpList P ops Q (o::xT) a w:=by
 refine wpList_plain B fun C g=>?_
 unfold Oper.wp;rcases h.next (P:=P) o.type with⟨h0,c⟩|⟨i,x,v,w',q,s,c,u,y,z,h6⟩
 ·simp[execOp,m,j,c,Result.andThen]
  exact g _ _ (d h0)
 ·simp[execOp,m,j,c,Result.andThen]
  exact g _ _ (f i x v w' q s u y z h6)
theorem sI(j:o.guard=none)(g:Operand)(f:o.op=Op.entry g){x:α}{v:β}(d:a.eval g=.pointer r)(h:tF enc ev w b r x v)
 (i:wpList P ops Q xT (a.put o.dst (.tuple #[enc x,ev v])) w):wpList P ops Q (o::xT) a w:=by
 refine wpList_plain j fun m c=>?_
 unfold Oper.wp;simp[execOp,f,d,h P,Result.andThen];exact c _ _ i
theorem AF[DecidableEq α](z:o.guard=none)(m x:Operand)(j:o.op=.call { callee:=.builtin .delete,args:=#[m,x],argTypes:=#[t,k] })(K:mV P k ok enc)(C:P.underlying t=some (.map k e))
 {left:List (α×β)}(c:α) (y:ok c) (B:a.eval m=.map (some b)) (D:a.eval x=enc c) (h:cP ok enc ev w b r l left) (g:∀p∈left,p.1≠c)
 (v:∀w',cP ok enc ev w' b r (l.filter fun p=>!decide (p.1=c)) left->aA (fun i=>i=b) w w'->w'.heap.size=w.heap.size->wpList P ops Q xT (a.put o.dst (.tuple #[])) w'):wpList P ops Q (o::xT) a w:=by
 refine wpList_plain z fun E f=>?_
 obtain⟨w',d,q,s,u⟩:=h.delete K C o.type c y g;unfold Oper.wp;simp[execOp,j,resolve,invoke,builtin,B,D,d,Result.andThen];exact f _ _ (v w' q s u)
end
end
end Go.Proofs.YtiinnfhjpaeffaaGreat
