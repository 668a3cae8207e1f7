import Derived.Test.YtoeinblfcbpcmaaGreatDoorC2
import Derived.Test.YtoeinblfcbpcmaaGreatDoorC3
import Derived.Test.YtoeinblfcbpcmaaGreatDoorC4
import Derived.Sort.Grow
import Derived.Stop.BytesEq
import Derived.RangeFuncKeeps
import Derived.RangeFuncLeaves
import Derived.RangeFuncFrom
import Derived.RangeFuncNested
import Derived.OwnWalkIn
import Derived.TacticsInMore
import Derived.LoopNIn
import Derived.LoopIn
namespace Go.Proofs.YtoeinblfcbpcmaaGreatDoor
open Tryz
set_option maxHeartbeats 0
set_option maxRecDepth 100000
set_option linter.unusedVariables false
section
open Go.RowKit Go.Maps Go.ChangeMaps Go.Sort
theorem aH{w:World}{base e size n:Nat}{v:Value}{xs:List Value}(h:w.ownsRow base e size v n xs){k:Nat}(c:v.ownBlock=some k):∃cur,w.heap[k]?=some (.cells cur e (0,0)):=by
 rcases h.2 with⟨rfl,-⟩|⟨g,d,cur,rfl,_,f,-⟩
 ·cases c
 ·cases c;exact⟨cur,f⟩
theorem cW{S:Nat->Prop}{W c:World}(h:aA S W c)(g:∀k o,W.heap[k]?=some o->S k->o.isCells=true):KeepsOthers W c:=
 ⟨h.size,fun k o d f=>h.blk d fun i=>by rw[g k o d i] at f;cases f⟩
section
variable {P:Program}{n:Nat}{Q:Exit->Act->World->Prop}{ops:Array Oper}{rest:List Oper}
variable{o:Oper}{a:Act}{w:World}
theorem Hm{K:Act->World->Prop}(f:∀c,o.op≠.defer c)(h:o.wp P a w K Q):o.wpIn Fence.wide n P a w K Q:=by
 refine⟨fun _ _=>trivial,?_⟩;rw[Oper.semAt_eq _ _ _ f];unfold Oper.wp at h;generalize (execOp a.eval o).run P w=r at *;cases r with
 | ok x w' =>
   cases x<;>simp only[Oper.upon,Oper.uponIn] at h ⊢<;>first
    | exact h
    | exact⟨fun d=>by simp[Fence.wide] at d,(callsIn_wide (n:=n-1)).2 h⟩
    | exact⟨fun d=>by simp[Fence.wide] at d,fun c i _=>let ⟨v,g,r,s⟩:=h c i;⟨v,g,r,stepsIn_wide.2 s⟩⟩
    | exact h.elim
 | halt x w'=>cases x<;>simp only[Oper.upon,Oper.uponIn] at h ⊢<;>exact h
theorem sS(g:o.guard=none)(d:∀c,o.op≠.defer c)(h:∀K:Act->World->Prop,(∀a w,wpListIn Fence.wide n P ops Q rest a w->K a w)->o.wp P a w K Q) :
 wpListIn Fence.wide n P ops Q (o::rest) a w:=wpListIn_plain g fun K f=>Hm d (h K f)
theorem lE(m:o.guard=none)(T:TypeId)(g:o.op=.alloc T)(z:Value)(p:∀w,(zeroValue T).run P w=.ok z w)(f:Array Value)(d:z.cells=f)
 (h:wpListIn Fence.wide n P ops Q rest (a.put o.dst (.pointer (w.heap.size))) (w.alloc (.cells f T))):wpListIn Fence.wide n P ops Q (o::rest) a w:=by
 subst d;refine sS m (by rw[g];intro c j;cases j) fun K i=>?_
 unfold Oper.wp execOp;simp only[g,Sem.run_bind,Sem.run_pure,nQ p,Result.andThen_ok];exact i _ _ h
theorem kJ{op:Oper}(i:op.guard=none)(m:TypeId)(x y:Operand)(q:op.op=.store m x y)
 (b o:Nat) (d:List Value) (D:a.eval x=.pointer (some ⟨b,o,none⟩)) (E:a.eval y=.agg d.toArray) (f:Array Value) (t:TypeId) (g:w.heap[b]?=some (.cells f t (0,0))) (p:o+d.length≤f.size)
 (B:(P.info? m).map (·.size)=some d.length) (s:∀v∈d,v.oneCell'=true)
 (h:∀w',w'.heap[b]?=some (.cells (spl f o d) t (0,0))->aA (fun k=>k=b) w w'->wpListIn Fence.wide n P ops Q rest (a.put op.dst undef) w'):wpListIn Fence.wide n P ops Q (op::rest) a w:=by
 refine sS i (by rw[q];intro c z;cases z) fun K u=>?_
 refine wp_store_mid m x y q b o d.toArray D E ?_ (by simpa using B) (all_oneCell_toArray s) (u _ _ (h _ (mQ _ _ _ _ g) (aA.setCells (S:=fun k=>k=b) (fun _=>rfl) _ _ _ (aA.refl _ _))));intro j C;refine⟨?_,frozen_of_row w b _ _ _ g⟩;rw[cell_of_row w b _ _ _ _ g];have:o+j<f.size:=by simp at C;omega
 simp[this]
theorem lF{op:Oper}(j:op.guard=none)(g:TypeId)(x:Operand)(m:op.op=.load g x)
 (b o:Nat) (y:a.eval x=.pointer (some ⟨b,o,none⟩)) (f:List Value) (d:TypeDesc) (i:w.rangeAt b o f)
 (u:P.underlying g=some d) (q:d.isRow=true) (s:(P.info? g).map (·.size)=some f.length)
 (h:wpListIn Fence.wide n P ops Q rest (a.put op.dst (.agg f.toArray)) w):wpListIn Fence.wide n P ops Q (op::rest) a w:=
 sS j (by rw[m];intro c i;cases i) fun K p=>wp_load_mid g x m b o y f d i u q s (p _ _ h)
end
def tH(c:Nat)(A B:World):Prop:=KeepsWalks A B/\B.heap[c]?=A.heap[c]?
variable{w w' A a:World}{r b n size:Nat}{t:TypeId}{v:Value}{P:Program}
theorem lS{α:Type}:∀{l:List α}{i:Nat}{x:α},l[i]?=some x->l.Perm (x::l.eraseIdx i)
 | [],_,_,h=>by simp at h
 | y::l,0,x,h=>by
   simp only[List.getElem?_cons_zero,Option.some.injEq] at h;subst h;exact List.Perm.refl _
 | y::l,i+1,x,h=>by
   rw[List.getElem?_cons_succ] at h;rw[List.eraseIdx_cons_succ];exact((lS h).cons y).trans (List.Perm.swap x y _)
theorem wF(h:aA (fun k=>k=r) w w'):w.grownBy w' (some r):=
 ⟨h.os,h.tape,h.output,h.size,fun i d c=>h.block i d (fun e=>c (by rw[e]))⟩
theorem gQ(h:aA aB w w'):w.grownBy w' none:=
 ⟨h.os,h.tape,h.output,h.size,fun i c _=>h.block i c id⟩
theorem dC.walks{α β:Type}{ok:α->Prop}{enc:α->Value}{ev:β->Value}{B:World}{l left:List (α×β)}(h:dC ok enc ev A b r l left)(k:KeepsWalks A B):dC ok enc ev B b r l left:=by
 obtain⟨f,clock,c,d,c0,g,j,i,h⟩:=h;exact⟨f,clock,c,d,c0,k.same _ _ g rfl,j,k.same _ _ i rfl,h⟩
theorem dC.walk{α β:Type}{ok:α->Prop}{enc:α->Value}{ev:β->Value}{l left:List (α×β)}(h:dC ok enc ev A b r l left):∃o:Obj,A.heap[r]?=some o/\o.isWalk=true:=by
 obtain⟨g,clock,c,d,c0,i,j,f,h⟩:=h;exact⟨_,f,rfl⟩
theorem dC.count{α β:Type}{ok:α->Prop}{enc:α->Value}{ev:β->Value}{l left:List (α×β)}(h:dC ok enc ev A b r l left):A.rangeLeft b r=left.length:=by
 obtain⟨j,clock,c,d,c0,f,m,g,_,_,_,i,_⟩:=h;have:=congrArg List.length i;simp only[List.length_map,Array.length_toList] at this;simp only[World.rangeLeft,f,g];exact this
theorem eL{vs:List Value}(c:w.heap[b]?=some (.cells vs.toArray t (0,0)))(d:vs.length=n*size)(f:n≤maxLen):Rd w size (.slice b n n) n vs:=
 ⟨d,_,n,rfl,Nat.le_refl _,f,(by intro h;cases h),fun _=>⟨b,0,rfl,fun i u g=>aC c (by simpa using g)⟩⟩
theorem aX{base e k:Nat}{xs:List Value}(h:w.ownsRow base e size v n xs)(c:v.ownBlock=some k):base≤k:=by
 rcases h.2 with⟨rfl,-⟩|⟨g,d,cur,rfl,f,-⟩
 ·cases c
 ·cases c;exact f
theorem Ej(t:Array Value)(p:Nat)(v:Value):(Array.zip #[p] #[v]).foldl (fun(t:Array Value) (c:Nat×Value)=>t.setIfInBounds c.1 c.2) t=t.setIfInBounds p v:=by
 simp[Array.zip]
def Gr(w w':World):Prop:=∃(q:Nat) (os:Array Obj),w'=grow (w.drewN q) os
theorem Gr.refl(w:World):Gr w w:=⟨0,#[],by simp[grow];rfl⟩
theorem Gr.trans{b c:World}(h:Gr a b)(k:Gr b c):Gr a c:=by
 obtain⟨q,os,rfl⟩:=h;obtain⟨f,d,rfl⟩:=k;refine⟨q+f,os++d,?_⟩;rw[←grow_grow,←World.drewN_drewN];rfl
theorem Gr.alloc{b:World}(h:Gr a b)(o:Obj):Gr a (b.alloc o):=h.trans ⟨0,#[o],by rw[alloc_eq_grow];rfl⟩
theorem Gr.drewN{b:World}(h:Gr a b)(q:Nat):Gr a (b.drewN q):=h.trans ⟨q,#[],(grow_empty _).symm⟩
theorem Gr.keep{b:World}(h:Gr a b):aA aB a b:=by
 obtain⟨q,os,rfl⟩:=h;refine⟨rfl,rfl,rfl,by simp[grow],fun k c _=>?_⟩;simp only[grow];rw[Array.getElem?_append_left (by exact c)];rfl
theorem aM(w:World)(c:Array Value)(t:TypeId):∃w',w.alloc (.cells c t)=w'/\aA aB w w'/\w'.heap[w.heap.size]?=some (.cells c t (0,0))/\w'.heap.size=w.heap.size+1:=
 ⟨_,rfl,(aA.refl _ _).alloc _,heap_alloc_new _ _,World.size_alloc _ _⟩
theorem A9{ops:Array Oper}{S:World->Prop}{o:Oper}{a:Act}(f:Region.wanted o (yielded ops a.tmps)=true)(m x:Operand)(t:TypeId)(c:o.op=Op.lookup t m x false)
 (h:∀w,S w->(Instr.lookup t (a.eval m) (a.eval x) false).run P w=.ok v w):YieldsIf P ops S o v a:=
 .inl ⟨f,fun w d=>by
  have:=h w d;unfold execOp;simp only[c,Sem.run_bind,this,Result.andThen_ok,Sem.run_pure]⟩
def bM(w:World)(b:Bool)(e:Ending)(w':World):Prop:=e=.returned (.bool b)/\aA aB w w'
theorem uH{xs ys:Array Value}{b:Bool}(h:(binOp .eql t (.agg xs) (.agg ys)).run P w=.ok (.bool b) w):(binOp .neq t (.agg xs) (.agg ys)).run P w=.ok (.bool (!b)) w:=by
 rw[run_eql_struct] at h;rw[run_neq_struct];cases c:(Op.equalIn 10000 t (.agg xs) (.agg ys)).run P w with
 | ok x w' =>
   rw[c] at h;simp only[Result.andThen_ok,Result.ok.injEq,Value.bool.injEq] at h ⊢;exact⟨by rw[h.1],h.2⟩
 | halt x w'=>rw[c] at h;cases h
def eqT(d:Nat)(xs ys:Array Value):List (String×TypeId×Nat)->Sem Bool
 | []=>pure true
 | f::fs =>
   if f.1 ≠ "_" then do
    let a ←part f.2.1 xs f.2.2
    let b ←part f.2.1 ys f.2.2
    let r ←Op.equalIn d f.2.1 a b
    if (!r)=true then pure false else eqT d xs ys fs
   else eqT d xs ys fs
theorem wP(d:Nat)(xs ys:Array Value):∀(fs:List Field),Op.eqFields d xs ys fs=eqT d xs ys (fs.map fun f=>(f.name,f.type,f.offset))
 | []=>rfl
 | f::fs=>by simp only[Op.eqFields,eqT,List.map_cons,wP d xs ys fs]
theorem uI(c:Array Value)(off:Nat)(v:Value)(h:c[off]?=some v)(w:World):(part 3 c off).run prog w=.ok v w:=by
 simp[part,isAgg,run_underlying underlying3,h]
theorem aA.rangeAt(h:aA aB w w'){o:Nat}{c:List Value}(d:w.rangeAt b o c):w'.rangeAt b o c:=fun j v f=>h.cell (d j v f) id
end
section
open Go.RowKit Go.Maps Go.ChangeMaps
@[ext] structure Ad where
 dev:Int
 sec:Int
deriving DecidableEq
def Ek(n:Int):Prop:=-9223372036854775808≤n/\n≤9223372036854775807
def fC(a:Ad):Prop:=Ek a.1/\Ek a.2
def aO(a:Ad):List Value:=[.int .i64 a.1,.int .i64 a.2]
def adV(a:Ad):Value:=.agg (aO a).toArray
theorem bD(a:Ad):(aO a).length=2:=rfl
theorem bV(a:Ad):∀u∈aO a,u.oneCell'=true:=by
 intro u c;simp only[aO,List.mem_cons,List.not_mem_nil,or_false] at c;rcases c with rfl|rfl<;>rfl
theorem Mi{a b:Ad}(h:aO a=aO b):a=b:=by
 unfold aO at h;injection h with c d
 injection d with f j
 injection c with _ g
 injection f with _ i
 exact Ad.ext g i
theorem cK:(prog.info? 93).map (·.size)=some 2:=by kernel_rfl
def eN:Value:=.agg #[.int .i64 0,.int .i64 0]
theorem eI(w:World):(zeroValue 93).run prog w=.ok eN w:=by kernel_rfl
theorem tI:(prog.info? 93).map (fun i=>(i.zero,i.size,i.bytes))=some (some eN,2,16):=by kernel_rfl
theorem wG(d:Nat)(n:Int)(h:Ek n):prog.keyLits (d+1) 3 [.int .i64 n]=some [.int .i64 n]:=by
 have c:(Lit.int .i64 n).wf=true:=Go.WalkArith.wf_i64 h;simp[Program.keyLits,underlying3,c]
theorem JN:laidOutB prog=true:=by kernel_rfl
theorem bY:prog.underlying 93=some (.struct (prog.fieldsOf 93)):=by kernel_rfl
theorem Mj : (prog.fieldsOf 93).toList.map (fun f => (f.name, f.type, f.offset)) = [("Dev", 3, 0), ("At", 3, 1)] := by kernel_rfl
theorem OI:Keyed prog 93:=Keyed.of_law (deep_law_gate JN (of_decide_eq_true (by kernel_rfl)) (of_decide_eq_true (by kernel_rfl)) (by kernel_rfl) (by rw[bY]))
theorem QD(a:Ad)(h:fC a):∃x,keyOf prog 93 (adV a)=some x:=by
 have u:prog.keyType 93=true:=by kernel_rfl
 have s:prog.cellsOf 93=2:=by kernel_rfl
 have E:prog.cellsOf 3=1:=by kernel_rfl
 have y:(adV a).formed prog 93=true:=by
  simp[Value.formed,adV,s,aO]
 have z:∃ys,prog.keyLits (prog.types.size+1) 93 (adV a).cells.toList=some ys:=by
  obtain⟨d,C⟩:∃d,prog.types.size=d+1:=⟨prog.types.size-1,by have:0<prog.types.size:=of_decide_eq_true (by kernel_rfl);omega⟩
  rw[C];have D:(adV a).cells.toList=aO a:=by simp[adV,Value.cells]
  rw[D];unfold Program.keyLits;rw[bY];have B : ((prog.fieldsOf 93).all (·.name != "_")) = true := by kernel_rfl
  simp only[s,bD,B,and_self,if_true];obtain⟨f,g,j,c,i,m,p⟩:∃f g,(prog.fieldsOf 93).toList=[f,g]/\f.type=3/\f.offset=0/\g.type=3/\g.offset=1:=⟨_,_,rfl,rfl,rfl,rfl,rfl⟩
  rw[j];simp only[List.mapM_cons,List.mapM_nil,c,i,m,p,E,aO,List.drop_zero,List.take_succ_cons,List.take_zero,List.drop_succ_cons,wG d _ h.1,wG d _ h.2];exact⟨_,rfl⟩
 obtain⟨ys,q⟩:=z;refine⟨.string (keyBytes ys),?_⟩;unfold keyOf;rw[bY];simp only[u,y,Bool.and_self,if_true];rw[q];rfl
theorem Ow:kH prog 93 fC adV where
 law:=OI
 key:=QD
 inj a c _ _ h:=by
  unfold adV at h;injection h with d
  exact Mi (congrArg Array.toList d)
inductive Nix where
 | nix
def fQ(_:Nix):Value:=.agg #[]
def fW(a b:Ad):Bool:=decide (a.1<b.1) || (decide (a.1=b.1) && decide (a.2<b.2))
theorem rA(a b:Ad):fW a b=true↔a.1<b.1\/(a.1=b.1/\a.2<b.2):=by simp[fW]
theorem kV(a b:Ad):fW a b=false↔¬(a.1<b.1\/(a.1=b.1/\a.2<b.2)):=by rw[←rA];simp
def iR(x y:Int):Int:=if x<y then -1 else if y<x then 1 else 0
def yW(a b:Ad):Int:=if iR a.1 b.1≠0 then iR a.1 b.1 else iR a.2 b.2
theorem Mk(a b:Ad):decide (yW a b<0)=fW a b:=by
 rw[Bool.eq_iff_iff,rA,decide_eq_true_iff];unfold yW iR;split<;>split<;>(try split)<;>omega
open Go.RowKit
set_option maxRecDepth 100000
set_option linter.unusedVariables false
theorem El{P:Program}{t e:TypeId}(g:P.underlying t=some (.slice e))(a:Option Addr)(n c k:Nat)(i:k≤n){s:Nat}(h:∀w,(sizeOf e).run P w=.ok s w)(w:World) :
 (Instr.sliceAt t (.slice a n c) (some (.int .i64 k)) none none).run P w=.ok (sliced a k n c s) w:=by
 have f:P.elem t=e:=by simp[Program.elem,g]
 have d:P.underlying t=some (.slice (P.elem t)):=by rw[f];exact g
 have:(k:Int)≤(n:Int):=by omega
 rw[run_sliceAt_slice w t _ _ _ _ d,run_slice_l w t a n c d .i64 (k:Int) (by omega) this,f,h];simp only[Result.andThen,Int.toNat_natCast]
end
section
open Go.RowKit
theorem dwA{P:Program}{ops:Array Oper}{Q:Exit->Act->World->Prop}{id:Nat}{a:Act}{w:World}(U:Nat->Prop)(d:P.follows .mixedOrders=true)(h:∀wd (S:World->Prop),Hid (∀w',S w'->aA U wd w')->Hid (∀w',aA U wd w'->S w')->S wd->aA aB w wd->wpAnyH P .any ops Q S ops.size (Array.replicate ops.size false) a wd):(Code.region id ops true).wp P Q a w:=
 have c:=(aA.refl aB w).drew
 wp_region_held (S:=fun w'=>aA U w.drew w') d (h w.drew (fun w'=>aA U w.drew w') (O fun _ h=>h) (O fun _ h=>h) (aA.refl _ _) c)
theorem GL(x:Int)(w:World):Calls prog 241 #[.int .i64 x] w fun e w'=>e=.returned (.bool false)/\w'=w:=by
 have h:decide (x=x)=true:=decide_eq_true rfl;go_in;go_wp2;go_ret;exact⟨by simp,rfl⟩
theorem GM(x y:Int)(w:World):Calls prog 207 #[.int .i64 x,.int .i64 y] w fun e w'=>e=.returned (.int .i64 (iR x y))/\w'=w:=by
 have g:=O (fun w=>GL x w);have i:=O (fun w=>GL y w);obtain⟨c,f⟩:=zX9 (iR x y)
 have d:=O f;rw[f];clear f;go_in;go_wp2_with fail;refine(g.out _).mono ?_;rintro e p ⟨rfl,rfl⟩;go_wp2_with fail;refine(i.out _).mono ?_;rintro e q ⟨rfl,rfl⟩;rcases Int.lt_trichotomy x y with h|h|h
 ·have e:c=-1:=by rw[←d.out];unfold iR;rw[if_pos h]
  subst e;go_wp2;go_ret;exact⟨rfl,rfl⟩
 ·have e:c=0:=by rw[←d.out];unfold iR;rw[if_neg (by omega),if_neg (by omega)]
  subst e;have j:¬x<y:=by omega
  have m:¬y<x:=by omega
  clear h;go_wp2;go_ret;exact⟨rfl,rfl⟩
 ·have e:c=1:=by rw[←d.out];unfold iR;rw[if_neg (by omega),if_pos h]
  subst e;have j:¬x<y:=by omega
  go_wp2;go_ret;exact⟨rfl,rfl⟩
def orI(x y:Int):Int:=if x≠0 then x else y
theorem PX(x y:Int)(b:Nat)(w:World)(h0:w.cell? ⟨b,0,none⟩=some (.int .i64 x))(g:w.cell? ⟨b,1,none⟩=some (.int .i64 y)) :
 Calls prog 245 #[.slice b 2 2] w fun e w'=>e=.returned (.int .i64 (orI x y))/\w'=w:=by
 obtain⟨c,f⟩:=zX9 (orI x y)
 have d:=O f;rw[f];have j:=O h0;have m:=O g;clear f h0 g;go_in;go_wp2_with fail
 go_loopw [5,8] (fun _ i wr=>wr=w/\(i=.int .i64 0\/(i=.int .i64 1/\x=0)\/(i=.int .i64 2/\x=0/\y=0))) (fun _ i _=>2-(intOf i).toNat)
 case atStart=>exact⟨rfl,.inl rfl⟩
 case round =>
  obtain⟨rfl,rfl|⟨rfl,rfl⟩|⟨rfl,rfl,rfl⟩⟩:=hrel
  ·have c0:=j.out
   by_cases h:x=0
   ·subst h
    go_wp2
    go_roundw
    case rel=>simp
    case measure=>decide
   ·have e:x=c:=by rw[←d.out];unfold orI;rw[if_pos h]
    subst e;go_wp2;go_ret;exact⟨rfl,rfl⟩
  ·have c1:=m.out
   have e:y=c:=by rw[←d.out];unfold orI;rfl
   subst e
   by_cases p:y=0
   ·subst p
    go_wp2
    go_roundw
    case rel=>simp
    case measure=>decide
   ·go_wp2
    go_ret;exact⟨rfl,rfl⟩
  ·have e:c=0:=by rw[←d.out];rfl
   subst e;go_wp2;go_ret;exact⟨rfl,rfl⟩
theorem JQ(a b:Ad)(w:World):Calls prog 215 #[adV a,adV b] w fun e w'=>e=.returned (.int .i64 (yW a b))/\Gr w w':=by
 obtain⟨j,m⟩:=zX9 ((w.alloc (.cells (aO a).toArray 93)).alloc (.cells (aO b).toArray 93))
 have p:j.heap[w.heap.size]?=some (.cells (aO a).toArray 93 (0,0)):=by rw[←m];exact heap_alloc2_old _ _ _
 have q:j.heap[w.heap.size+1]?=some (.cells (aO b).toArray 93 (0,0)):=by rw[←m];exact heap_alloc2_new _ _ _
 have J:Gr w j:=by rw[←m];exact((Gr.refl _).alloc _).alloc _
 have K:=O (show yW a b=orI (iR a.1 b.1) (iR a.2 b.2) from rfl);obtain⟨S,d⟩:∃S:World->Prop,S=fun w'=>Gr j w':=⟨_,rfl⟩
 have F:=O (show ∀w',S w'->Gr w w' from fun w' h=>by rw[d] at h;exact J.trans h);have u:=O (show ∀w' s,S w'->Gr w' s->S s from fun w' s h k=>by rw[d] at h ⊢;exact Gr.trans h k);have B:=O (show ∀w',S w'->w'.cell? ⟨w.heap.size,0,none⟩=some (.int .i64 a.1) from fun w' h=>by rw[d] at h;exact aC (h.keep.blk p id) rfl);have C:=O (show ∀w',S w'->w'.cell? ⟨w.heap.size,1,none⟩=some (.int .i64 a.2) from fun w' h=>by rw[d] at h;exact aC (h.keep.blk p id) rfl);have D:=O (show ∀w',S w'->w'.cell? ⟨w.heap.size+1,0,none⟩=some (.int .i64 b.1) from fun w' h=>by rw[d] at h;exact aC (h.keep.blk q id) rfl);have E:=O (show ∀w',S w'->w'.cell? ⟨w.heap.size+1,1,none⟩=some (.int .i64 b.2) from fun w' h=>by rw[d] at h;exact aC (h.keep.blk q id) rfl);have x:S j:=by rw[d];exact Gr.refl _
 have H:=O GM;clear d p q J;unfold adV;go_in;go_wp2_with fail;clear m;have g:S j.drew:=u.out _ _ x ((Gr.refl _).drewN 1);clear x;refine wp_region_held (S:=S) (by kernel_rfl) ?_;change wpAnyH _ _ _ _ _ _ _ _ j.drew;generalize j.drew=M at *;refine tka 0 (.pointer (w.heap.size)) rfl g ?_;simp only[Act.put,List.setIfInBounds_toArray,List.set_cons_zero,List.set_cons_succ,List.getElem_toArray,List.getElem_cons_zero];refine tnd 1 (.int .i64 a.1) rfl (.inl ⟨by rfl,fun w' f=>by have c:=B.out w' f;go_simp⟩) g ?_;refine tna 2 (.pointer (some ⟨w.heap.size+1,0,none⟩)) rfl g ?_;refine tnd 3 (.int .i64 b.1) rfl (.inl ⟨by rfl,fun w' f=>by have c:=D.out w' f;go_simp⟩) g ?_;refine tna 5 (.pointer (some ⟨w.heap.size,1,none⟩)) rfl g ?_;refine tnd 6 (.int .i64 a.2) rfl (.inl ⟨by rfl,fun w' f=>by have c:=C.out w' f;go_simp⟩) g ?_;refine tna 7 (.pointer (some ⟨w.heap.size+1,1,none⟩)) rfl g ?_;refine tnd 8 (.int .i64 b.2) rfl (.inl ⟨by rfl,fun w' f=>by have c:=E.out w' f;go_simp⟩) g ?_;refine wA9 4 ?_;go_wp2_with fail;refine(H.out _ _ _).mono ?_;rintro e N ⟨rfl,rfl⟩;go_wp2_with fail;refine⟨g,?_⟩;refine wA9 9 ?_;go_wp2_with fail;refine(H.out _ _ _).mono ?_;rintro e G ⟨rfl,rfl⟩;go_wp2_with fail;refine⟨g,?_⟩;refine wA9 10 ?_;go_wp2_with fail
 obtain⟨z,y,c0,c1,i⟩:∃z,G.alloc (.cells #[.int .i64 (iR a.1 b.1),.int .i64 (iR a.2 b.2)] 3)=z/\z.cell? ⟨G.heap.size,0,none⟩=some (.int .i64 (iR a.1 b.1))/\z.cell? ⟨G.heap.size,1,none⟩=some (.int .i64 (iR a.2 b.2))/\S z:=
  ⟨_,rfl,aC (heap_alloc_new _ _) rfl,aC (heap_alloc_new _ _) rfl,u _ _ g ((Gr.refl _).alloc _)⟩
 rw[y];have I:=O (PX _ _ _ _ c0 c1);clear y c0 c1 g;refine⟨i,?_⟩;refine wA9 11 ?_;go_wp2_with fail;refine I.out.mono ?_;rintro e R ⟨rfl,rfl⟩;rw[←K.out];go_wp2_with fail;refine⟨i,?_⟩;refine tna 12 (.int .i64 (yW a b)) rfl i ?_;refine wpAnyH_done (by kernel_rfl) ?_ _;have L:=O (F _ i);clear i I;go_wp2;go_ret;exact⟨rfl,L.out⟩
end
section
open Go.RowKit Go.Maps Go.ChangeMaps
theorem Ci:(prog.info? 3).map (fun i=>(i.zero,i.size,i.bytes))=some (some (.int .i64 0),1,8):=by kernel_rfl
def QH(w:World)(l:List Int)(e:Ending)(w':World):Prop:=∃v,e=.returned v/\w'.ownsRow w.heap.size 3 1 v l.length (l.map fun x=>.int .i64 x)/\aA aB w w'
theorem wX(l:List Int):∀u∈l.map (fun x=>Value.int .i64 x),u.oneCell'=true:=fun u c=>by obtain⟨x,-,rfl⟩:=List.mem_map.1 c;rfl
section
variable {α β:Type}{P:Program}{k:TypeId}{ok:α->Prop}{enc:α->Value}{ev:β->Value}{w:World}{b:Nat}{l:List (α×β)}
variable {ops:Array Oper}{rest:List Oper}{o:Oper}{a:Act}{Q:Exit->Act->World->Prop}
theorem BC(i:o.guard=none)(m:Operand)(t:TypeId)(f:o.op=Op.range t m){k e:TypeId}(p:P.underlying t=some (.map k e))(j:a.eval m=.map (some b))(h:bI ok enc ev w b l)
 (g:∀w',dC ok enc ev w' b w.heap.size l l->aA aB w w'->w'.heap.size=w.heap.size+1->wpList P ops Q rest (a.put o.dst (.pointer (w.heap.size))) w'):wpList P ops Q (o::rest) a w:=by
 refine wpList_plain i fun x d=>?_
 obtain⟨w',c,q,s,u⟩:=h.range p;unfold Oper.wp;simp[execOp,f,j,c,Result.andThen];exact d _ _ (g w' q s u)
theorem Cw(C:o.guard=none)(p:Operand)(m:o.op=Op.next p false){r:Nat}{left:List (α×β)}(j:a.eval p=.pointer r)(h:dC ok enc ev w b r l left)
 (d:left=[]->wpList P ops Q rest (a.put o.dst (.tuple #[.bool false])) w)
 (f:∀i x v w',left[i]?=some (x,v)->ok x->dC ok enc ev w' b r l (left.eraseIdx i)->aA (fun k=>k=r) w w'->w'.heap.size=w.heap.size->tG enc ev w' b r x v->wpList P ops Q rest (a.put o.dst (.tuple #[.bool true,enc x,ev v])) w'):wpList P ops Q (o::rest) a w:=by
 refine wpList_plain C fun D g=>?_
 unfold Oper.wp;rcases h.next (P:=P) o.type with⟨h0,c⟩|⟨i,x,v,w',q,s,c,u,y,z,B⟩
 ·simp[execOp,m,j,c,Result.andThen]
  exact g _ _ (d h0)
 ·simp[execOp,m,j,c,Result.andThen]
  exact g _ _ (f i x v w' q s u y z B)
theorem BD(j:o.guard=none)(g:Operand)(f:o.op=Op.entry g){r:Nat}{x:α}{v:β}(d:a.eval g=.pointer r)(h:tG enc ev w b r x v)
 (i:wpList P ops Q rest (a.put o.dst (.tuple #[enc x,ev v])) w):wpList P ops Q (o::rest) a w:=by
 refine wpList_plain j fun m c=>?_
 unfold Oper.wp;simp[execOp,f,d,h P,Result.andThen];exact c _ _ i
end
def fB(w:World)(base e size:Nat)(v:Value)(n:Nat)(xs:List Value):Prop:=
 xs.length=n*size/\((v=.slice none 0 0/\n=0)\/∃g o c cur,v=.slice (some ⟨g,o,none⟩) n c/\base≤g/\w.heap[g]?=some (.cells cur e (0,0))/\n≤c/\c≤maxLen/\o+c*size≤cur.size/\(cur.toList.drop o).take (n*size)=xs)
variable{w:World}{base e size n:Nat}{v:Value}{xs:List Value}{P:Program}
theorem fB.of_owns(h:w.ownsRow base e size v n xs):fB w base e size v n xs:=by
 refine⟨h.1,?_⟩;rcases h.2 with h|⟨g,c,cur,rfl,d,f,i,j,p,m⟩
 ·exact .inl h
 ·exact .inr ⟨g,0,c,cur,rfl,d,f,i,j,by omega,m⟩
theorem fB.nil(w:World)(base e size:Nat):fB w base e size (.slice none 0 0) 0 []:=⟨by simp,.inl ⟨rfl,rfl⟩⟩
theorem fB.rd(h:fB w base e size v n xs):Rd w size v n xs:=by
 obtain⟨h0,⟨rfl,rfl⟩|⟨g,o,d,cur,rfl,q,f,j,m,s,p⟩⟩:=h
 ·obtain rfl:xs=[]:=List.eq_nil_of_length_eq_zero (by simpa using h0)
  exact Rd.nil w size
 ·refine⟨h0,_,d,rfl,j,m,(by intro h;cases h),fun _=>⟨g,o,rfl,fun i u c=>aC f ?_⟩⟩
  rw[←p,List.getElem?_take] at c;split at c
  ·rw[List.getElem?_drop] at c
   rw[←Array.getElem?_toList];exact c
  ·cases c
theorem fB.keep{T:Nat->Prop}{w':World}(h:fB w base e size v n xs)(k:aA T w w')(j:∀i,v.ownBlock=some i->¬T i):fB w' base e size v n xs:=by
 obtain⟨h0,h|⟨g,o,c,cur,rfl,d,f,r⟩⟩:=h
 ·exact⟨h0,.inl h⟩
 ·exact⟨h0,.inr ⟨g,o,c,cur,rfl,d,k.blk f (j g rfl),r⟩⟩
theorem fB.lt(h:fB w base e size v n xs){i:Nat}(c:v.ownBlock=some i):base≤i/\i<w.heap.size:=by
 obtain⟨h0,⟨rfl,-⟩|⟨g,o,d,cur,rfl,f,j,r⟩⟩:=h
 ·cases c
 ·cases c;exact⟨f,(Array.getElem?_eq_some_iff.1 j).1⟩
theorem fB.form(h:fB w base e size v n xs):∃a c,v=.slice a n c:=by
 obtain⟨h0,⟨rfl,rfl⟩|⟨g,o,c,cur,rfl,r⟩⟩:=h
 ·exact⟨_,_,rfl⟩
 ·exact⟨_,_,rfl⟩
theorem fB.cut{c k:Nat}{a:Option Addr}(h:fB w base e size (.slice a n c) n xs)(y:k<n):fB w base e size (sliced a k n c size) (n-k) (xs.drop (k*size))/\(sliced a k n c size).ownBlock=(Value.slice a n c).ownBlock:=by
 obtain⟨h0,⟨h,rfl⟩|⟨g,o,d,cur,p,i,j,s,u,x,m⟩⟩:=h
 ·omega
 ·cases p
  have f:sliced (some ⟨g,o,none⟩) k n c size=.slice (some ⟨g,o+k*size,none⟩) (n-k) (c-k):=by
   unfold sliced;rw[if_neg (by omega)];simp[iO]
  rw[f];refine⟨⟨by rw[List.length_drop,h0,Nat.sub_mul],.inr ⟨g,o+k*size,c-k,cur,rfl,i,j,by omega,by omega,?_,?_⟩⟩,rfl⟩
  ·have q:k*size+(c-k)*size=c*size:=by rw[←Nat.add_mul];congr 1;omega
   omega
  ·rw[←m,Nat.sub_mul,List.drop_take,List.drop_drop]
theorem yV(w:World)(t F e:TypeId)(i:TypeInfo)(E:P.underlying t=some (.slice e))(C:P.info? e=some i)
 (g o f h:Nat) (cur:Array Value) (B:w.heap[g]?=some (.cells cur e (0,0)))
 (a:Addr) (m c:Nat) (d:List Value) (D:d.length=m*i.size) (p:∀j u,d[j]?=some u->w.cell? (a.add j)=some u) (y:∀u∈d,u.oneCell'=true)
 (q:f+m≤h) (s:o+f*i.size+d.length≤cur.size) :
 (Builtin.append_ #[t,t] F #[.slice (some ⟨g,o,none⟩) f h,.slice (some a) m c]).run P w =
   .ok (.slice (some ⟨g,o,none⟩) (f+m) h) (w.setRow g (cur.toList.take (o+f*i.size)++d++cur.toList.drop (o+f*i.size+d.length)).toArray):=by
 have z:=run_firstCells_some (P:=P) w i.size m a m c d D p;have x:=run_storeCells_at P g (o+f*i.size) e d 0 cur w B (by simpa using s) y;simp only[Nat.add_zero] at x;simp[Builtin.append_,run_underlying E,sizeOf,typeInfo,C,Builtin.lenOf,q,z,Addr.add_lit,x]
theorem mG{ops:Array Oper}{rest:List Oper}{op:Oper}{a:Act}{Q:Exit->Act->World->Prop}(J:op.guard=none)(s x:Operand)(t:TypeId)
 (Z:op.op=.call { callee:=.builtin .append,args:=#[s,x],argTypes:=#[t,t] })
 (base:Nat) (e:TypeId) (z:Value) (size bytes:Nat) (ht:P.underlying t=some (.slice e)) (G:(P.info? e).map (fun i=>(i.zero,i.size,i.bytes))=some (some z,size,bytes)) (W:z.cells.size=size) (qe:0<size)
 (v:Value) (n:Nat) (xs:List Value) (hs:a.eval s=v) (H:fB w base e size v n xs)
 (v2:Value) (m:Nat) (c:List Value) (hx:a.eval x=v2) (V:Rd w size v2 m c) (h1:∀u∈c,u.oneCell'=true)
 (I:n+m≤maxLen) (q:(n+m)*bytes≤140737488355328) (E:base≤w.heap.size)
 (h:∀X w',fB w' base e size X (n+m) (xs++c)->aA (fun k=>v.ownBlock=some k) w w'->(∀i,X.ownBlock=some i->v.ownBlock=some i\/w.heap.size≤i)->wpList P ops Q rest (a.put op.dst X) w'):wpList P ops Q (op::rest) a w:=by
 have F:=H;obtain⟨h0,⟨rfl,rfl⟩|⟨g,o,f,cur,rfl,g1,g2,g3,g4,g5,g6⟩⟩:=H
 ·obtain rfl:xs=[]:=List.eq_nil_of_length_eq_zero (by simpa using h0)
  refine aK J s x t Z base e z size bytes ht G W qe (.slice none 0 0) 0 [] hs (World.ownsRow_nil w base e size) v2 m c hx V h1 I q E ?_;intro X w' k1 k2 k3 M
  exact h X w' (fB.of_owns k1) k2 fun i C=>by
   rcases M with M|M
   ·rw[M] at C;exact .inl C
   ·rw[M] at C;cases C;exact .inr (Nat.le_refl _)
 ·obtain⟨i,C,qf,qg,qh⟩:=info_parts G
  obtain⟨d,R,D,rfl,k2,k3,M,k5⟩:=V;subst qg;subst qh;cases R with
  | none =>
    have S:=M rfl;obtain rfl:m=0:=by omega
    obtain rfl:c=[]:=List.eq_nil_of_length_eq_zero (by simpa using d);obtain rfl:D=0:=S;refine wpList_plain J fun K Y=>?_
    have U:(Builtin.append_ #[t,t] op.type #[.slice (some ⟨g,o,none⟩) n f,.slice none 0 0]).run P w=.ok (.slice (some ⟨g,o,none⟩) n f) w:=by
     simp[Builtin.append_,run_underlying ht,sizeOf,typeInfo,C,Builtin.lenOf,g3,Builtin.firstCells,loadCells,storeCells,Addr.add]
    unfold Oper.wp execOp;simp only[Z,resolve,invoke,builtin,Sem.run_bind,Sem.run_pure,Result.andThen_ok,List.map_toArray,List.map_cons,List.map_nil,hs,hx,U];exact Y _ _ (h _ w (by simpa using F) (aA.refl _ _) fun i C=>.inl C)
  | some R =>
    have B:∀j u,c[j]?=some u->w.cell? (R.add j)=some u:=by
     intro j u N
     have d:0<c.length:=by
      rcases Nat.eq_zero_or_pos c.length with h0|h0
      ·rw[List.eq_nil_of_length_eq_zero h0] at N;simp at N
      ·exact h0
     obtain⟨g',o',hh,S⟩:=k5 d;cases hh
     rw[iO];exact S j u N
    refine wpList_plain J fun K Y=>?_
    by_cases p:n+m≤f
    ·have T:o+n*i.size+c.length≤cur.size:=by
      have e1:n*i.size+c.length≤f*i.size:=by rw[d,←Nat.add_mul];exact Nat.mul_le_mul_right _ p
      omega
     have U:=yV (P:=P) w t op.type e i ht C g o n f cur g2 R m D c d B h1 p T;unfold Oper.wp execOp;simp only[Z,resolve,invoke,builtin,Sem.run_bind,Sem.run_pure,Result.andThen_ok,List.map_toArray,List.map_cons,List.map_nil,hs,hx,U];refine Y _ _ (h _ _ ⟨by rw[List.length_append,h0,d,Nat.add_mul],.inr ⟨g,o,f,_,rfl,g1,setRow_heap w g cur _ e _ g2,p,g4,?_,?_⟩⟩ (aA.of_grown ⟨rfl,rfl,rfl,by simp,fun k _ hk=>setRow_other w g k _ (fun e=>hk (by simp[Value.ownBlock,e]))⟩) fun i C=>.inl C)
     ·simp only[List.size_toArray,List.length_append,List.length_take,List.length_drop,Array.length_toList]
      omega
     ·have e2:(cur.toList.take (o+n*i.size)).drop o=xs:=by rw[←g6,List.drop_take,Nat.add_sub_cancel_left]
      have e3:(cur.toList.take (o+n*i.size)).length=o+n*i.size:=by rw[List.length_take,Array.length_toList];omega
      show List.take _ (List.drop o (cur.toList.take (o+n*i.size)++c++cur.toList.drop (o+n*i.size+c.length)))=_;rw[List.append_assoc,List.drop_append_of_le_length (by rw[e3];omega),e2,←List.append_assoc];exact List.take_left' (by rw[List.length_append,h0,d,Nat.add_mul])
    ·have L:∀j u,xs[j]?=some u->w.cell? ((⟨g,o,none⟩:Addr).add j)=some u:=fun j u N=>by
      obtain⟨-,a',c',hv,-,-,-,S⟩:=F.rd;obtain⟨g',o',e',qa⟩:=S (by rcases xs with _|⟨y,r⟩;cases N;simp);cases hv
      cases e'
      rw[iO];exact qa j u N
     have hg:=Nat.lt_of_not_le p;have U:=run_append_grow (P:=P) w t op.type e i z ht C qf ⟨g,o,none⟩ n f xs h0 L R m D c d B hg (by have:=I;unfold maxLen at this;omega) (growslice_fits (by omega) q);have qd:=grownCap_ge w (n+m) f e;have qc:grownCap w (n+m) f e≤maxLen:=grownCap_le_maxLen w (n+m) f e I;unfold Oper.wp execOp;simp only[Z,resolve,invoke,builtin,Sem.run_bind,Sem.run_pure,Result.andThen_ok,List.map_toArray,List.map_cons,List.map_nil,hs,hx,U];refine Y _ _ (h _ _ ⟨by rw[List.length_append,h0,d,Nat.add_mul],.inr ⟨w.heap.size,0,_,_,rfl,E,heap_alloc_new w.drew _,qd,qc,?_,?_⟩⟩ (aA.of_grown ⟨rfl,rfl,rfl,by simp,fun k hk _=>heap_alloc_old _ _ hk⟩) fun i C=>by cases C;exact .inr (Nat.le_refl _))
     ·simp only[Array.size_append,List.size_toArray,size_zeroCells,W,h0,d,←Nat.add_mul]
      rw[Nat.zero_add];exact Nat.le_of_eq (by congr 1;omega)
     ·simp only[Array.toList_append,List.append_assoc,List.drop_zero]
      rw[←List.append_assoc];exact List.take_left' (by rw[List.length_append,h0,d,Nat.add_mul])
end
end Go.Proofs.YtoeinblfcbpcmaaGreatDoor
