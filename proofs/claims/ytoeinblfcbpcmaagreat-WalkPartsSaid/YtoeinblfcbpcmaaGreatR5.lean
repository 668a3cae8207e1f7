import Derived.Test.YtoeinblfcbpcmaaGreatR2
import Derived.Test.YtoeinblfcbpcmaaGreatR3
import Derived.Test.YtoeinblfcbpcmaaGreatR4
import Derived.Sort.Grow
import Derived.Stop.BytesEq
import Derived.RangeFuncKeeps
import Derived.RangeFuncLeaves
import Derived.RangeFuncFrom
import Derived.RangeFuncNested
import Derived.OwnWalkIn
import Derived.TacticsInMore
import Derived.LoopNIn
import Derived.LoopIn
namespace Go.Proofs.YtoeinblfcbpcmaaGreat
open Tryz
set_option maxHeartbeats 0
set_option maxRecDepth 100000
set_option linter.unusedVariables false
section
open Go.RowKit Go.Maps Go.ChangeMaps Go.Sort
theorem aJ{w:World}{base e size n:Nat}{v:Value}{i:List Value}(h:w.ownsRow base e size v n i){k:Nat}(c:v.ownBlock=some k):∃cur,w.heap[k]?=some (.cells cur e (0,0)):=by
 rcases h.2 with⟨rfl,-⟩|⟨g,d,cur,rfl,_,f,-⟩
 ·cases c
 ·cases c;exact⟨cur,f⟩
theorem fK{S:Nat->Prop}{W c:World}(h:aA S W c)(f:∀k o,W.heap[k]?=some o->S k->o.isCells=true):KeepsOthers W c:=
 ⟨h.size,fun k o d e=>h.blk d fun g=>by rw[f k o d g] at e;cases e⟩
section
variable {P:Program}{n:Nat}{Q:Exit->Act->World->Prop}{ops:Array Oper}{xT:List Oper}
variable{o:Oper}{a:Act}{w:World}
theorem Hv{K:Act->World->Prop}(e:∀c,o.op≠.defer c)(h:o.wp P a w K Q):o.wpIn Fence.wide n P a w K Q:=by
 refine⟨fun _ _=>trivial,?_⟩;rw[Oper.semAt_eq _ _ _ e];unfold Oper.wp at h;generalize (execOp a.eval o).run P w=r at *;cases r with
 | ok x w' =>
   cases x<;>simp only[Oper.upon,Oper.uponIn] at h ⊢<;>first
    | exact h
    | exact⟨fun d=>by simp[Fence.wide] at d,(callsIn_wide (n:=n-1)).2 h⟩
    | exact⟨fun d=>by simp[Fence.wide] at d,fun c g _=>let ⟨v,f,r,s⟩:=h c g;⟨v,f,r,stepsIn_wide.2 s⟩⟩
    | exact h.elim
 | halt x w'=>cases x<;>simp only[Oper.upon,Oper.uponIn] at h ⊢<;>exact h
theorem sG(f:o.guard=none)(d:∀c,o.op≠.defer c)(h:∀K:Act->World->Prop,(∀a w,wpListIn Fence.wide n P ops Q xT a w->K a w)->o.wp P a w K Q) :
 wpListIn Fence.wide n P ops Q (o::xT) a w:=wpListIn_plain f fun K e=>Hv d (h K e)
theorem pR(j:o.guard=none)(T:TypeId)(f:o.op=.alloc T)(z:Value)(m:∀w,(zeroValue T).run P w=.ok z w)(e:Array Value)(d:z.cells=e)
 (h:wpListIn Fence.wide n P ops Q xT (a.put o.dst (.pointer (w.heap.size))) (w.alloc (.cells e T))):wpListIn Fence.wide n P ops Q (o::xT) a w:=by
 subst d;refine sG j (by rw[f];intro c i;cases i) fun K g=>?_
 unfold Oper.wp execOp;simp only[f,Sem.run_bind,Sem.run_pure,mX m,Result.andThen_ok];exact g _ _ h
theorem oU{op:Oper}(g:op.guard=none)(i:TypeId)(x y:Operand)(p:op.op=.store i x y)
 (b o:Nat) (d:List Value) (C:a.eval x=.pointer (some ⟨b,o,none⟩)) (D:a.eval y=.agg d.toArray) (e:Array Value) (t:TypeId) (f:w.heap[b]?=some (.cells e t (0,0))) (m:o+d.length≤e.size)
 (z:(P.info? i).map (·.size)=some d.length) (q:∀v∈d,v.oneCell'=true)
 (h:∀w',w'.heap[b]?=some (.cells (spl e o d) t (0,0))->aA (fun k=>k=b) w w'->wpListIn Fence.wide n P ops Q xT (a.put op.dst undef) w'):wpListIn Fence.wide n P ops Q (op::xT) a w:=by
 refine sG g (by rw[p];intro c u;cases u) fun K s=>?_
 refine wp_store_mid i x y p b o d.toArray C D ?_ (by simpa using z) (all_oneCell_toArray q) (s _ _ (h _ (mG _ _ _ _ f) (aA.setCells (S:=fun k=>k=b) (fun _=>rfl) _ _ _ (aA.refl _ _))));intro j B;refine⟨?_,frozen_of_row w b _ _ _ f⟩;rw[cell_of_row w b _ _ _ _ f];have:o+j<e.size:=by simp at B;omega
 simp[this]
theorem lA{op:Oper}(i:op.guard=none)(f:TypeId)(x:Operand)(j:op.op=.load f x)
 (b o:Nat) (u:a.eval x=.pointer (some ⟨b,o,none⟩)) (e:List Value) (d:TypeDesc) (g:w.rangeAt b o e)
 (s:P.underlying f=some d) (p:d.isRow=true) (q:(P.info? f).map (·.size)=some e.length)
 (h:wpListIn Fence.wide n P ops Q xT (a.put op.dst (.agg e.toArray)) w):wpListIn Fence.wide n P ops Q (op::xT) a w:=
 sG i (by rw[j];intro c g;cases g) fun K m=>wp_load_mid f x j b o u e d g s p q (m _ _ h)
end
def D2(c:Nat)(A B:World):Prop:=KeepsWalks A B/\B.heap[c]?=A.heap[c]?
variable{w w' A a:World}{r b n size:Nat}{t:TypeId}
theorem pM{α:Type}:∀{l:List α}{i:Nat}{x:α},l[i]?=some x->l.Perm (x::l.eraseIdx i)
 | [],_,_,h=>by simp at h
 | y::l,0,x,h=>by
   simp only[List.getElem?_cons_zero,Option.some.injEq] at h;subst h;exact List.Perm.refl _
 | y::l,i+1,x,h=>by
   rw[List.getElem?_cons_succ] at h;rw[List.eraseIdx_cons_succ];exact((pM h).cons y).trans (List.Perm.swap x y _)
theorem Dw(h:aA (fun k=>k=r) w w'):w.grownBy w' (some r):=
 ⟨h.os,h.tape,h.output,h.size,fun i d c=>h.block i d (fun e=>c (by rw[e]))⟩
theorem nA(h:aA aB w w'):w.grownBy w' none:=
 ⟨h.os,h.tape,h.output,h.size,fun i c _=>h.block i c id⟩
theorem dA.walks{α β:Type}{ok:α->Prop}{enc:α->Value}{ev:β->Value}{B:World}{l left:List (α×β)}(h:dA ok enc ev A b r l left)(k:KeepsWalks A B):dA ok enc ev B b r l left:=by
 obtain⟨d,clock,since,c,c0,e,g,f,h⟩:=h;exact⟨d,clock,since,c,c0,k.same _ _ e rfl,g,k.same _ _ f rfl,h⟩
theorem dA.walk{α β:Type}{ok:α->Prop}{enc:α->Value}{ev:β->Value}{l left:List (α×β)}(h:dA ok enc ev A b r l left):∃o:Obj,A.heap[r]?=some o/\o.isWalk=true:=by
 obtain⟨e,clock,since,c,c0,f,g,d,h⟩:=h;exact⟨_,d,rfl⟩
theorem dA.count{α β:Type}{ok:α->Prop}{enc:α->Value}{ev:β->Value}{l left:List (α×β)}(h:dA ok enc ev A b r l left):A.rangeLeft b r=left.length:=by
 obtain⟨g,clock,since,c,c0,d,i,e,_,_,_,f,_⟩:=h;have:=congrArg List.length f;simp only[List.length_map,Array.length_toList] at this;simp only[World.rangeLeft,d,e];exact this
theorem dX{vs:List Value}(c:w.heap[b]?=some (.cells vs.toArray t (0,0)))(d:vs.length=n*size)(e:n≤maxLen):Rd w size (.slice b n n) n vs:=
 ⟨d,_,n,rfl,Nat.le_refl _,e,(by intro h;cases h),fun _=>⟨b,0,rfl,fun i u f=>aC c (by simpa using f)⟩⟩
theorem bM{base e k:Nat}{v:Value}{i:List Value}(h:w.ownsRow base e size v n i)(c:v.ownBlock=some k):base≤k:=by
 rcases h.2 with⟨rfl,-⟩|⟨g,d,cur,rfl,f,-⟩
 ·cases c
 ·cases c;exact f
theorem LV(t:Array Value)(p:Nat)(v:Value):(Array.zip #[p] #[v]).foldl (fun(t:Array Value) (pv:Nat×Value)=>t.setIfInBounds pv.1 pv.2) t=t.setIfInBounds p v:=by
 simp[Array.zip]
def Gr(w w':World):Prop:=∃(q:Nat) (os:Array Obj),w'=grow (w.drewN q) os
theorem Gr.refl(w:World):Gr w w:=⟨0,#[],by simp[grow];rfl⟩
theorem Gr.trans{b c:World}(h:Gr a b)(k:Gr b c):Gr a c:=by
 obtain⟨q,os,rfl⟩:=h;obtain⟨e,d,rfl⟩:=k;refine⟨q+e,os++d,?_⟩;rw[←grow_grow,←World.drewN_drewN];rfl
theorem Gr.alloc{b:World}(h:Gr a b)(o:Obj):Gr a (b.alloc o):=h.trans ⟨0,#[o],by rw[alloc_eq_grow];rfl⟩
theorem Gr.drewN{b:World}(h:Gr a b)(q:Nat):Gr a (b.drewN q):=h.trans ⟨q,#[],(grow_empty _).symm⟩
theorem Gr.keep{b:World}(h:Gr a b):aA aB a b:=by
 obtain⟨q,os,rfl⟩:=h;refine⟨rfl,rfl,rfl,by simp[grow],fun k c _=>?_⟩;simp only[grow];rw[Array.getElem?_append_left (by exact c)];rfl
theorem aP(w:World)(c:Array Value)(t:TypeId):∃w',w.alloc (.cells c t)=w'/\aA aB w w'/\w'.heap[w.heap.size]?=some (.cells c t (0,0))/\w'.heap.size=w.heap.size+1:=
 ⟨_,rfl,(aA.refl _ _).alloc _,heap_alloc_new _ _,World.size_alloc _ _⟩
def aN(w:World)(b:Bool)(e:Ending)(w':World):Prop:=e=.returned (.bool b)/\aA aB w w'
theorem AM{P:Program}{c ys:Array Value}{b:Bool}(h:(binOp .eql t (.agg c) (.agg ys)).run P w=.ok (.bool b) w):(binOp .neq t (.agg c) (.agg ys)).run P w=.ok (.bool (!b)) w:=by
 rw[run_eql_struct] at h;rw[run_neq_struct];cases d:(Op.equalIn 10000 t (.agg c) (.agg ys)).run P w with
 | ok x w' =>
   rw[d] at h;simp only[Result.andThen_ok,Result.ok.injEq,Value.bool.injEq] at h ⊢;exact⟨by rw[h.1],h.2⟩
 | halt x w'=>rw[d] at h;cases h
def eqT(d:Nat)(c ys:Array Value):List (String×TypeId×Nat)->Sem Bool
 | []=>pure true
 | f::fs =>
   if f.1 ≠ "_" then do
    let a ←part f.2.1 c f.2.2
    let b ←part f.2.1 ys f.2.2
    let r ←Op.equalIn d f.2.1 a b
    if (!r)=true then pure false else eqT d c ys fs
   else eqT d c ys fs
theorem wG(d:Nat)(c ys:Array Value):∀(fs:List Field),Op.eqFields d c ys fs=eqT d c ys (fs.map fun f=>(f.name,f.type,f.offset))
 | []=>rfl
 | f::fs=>by simp only[Op.eqFields,eqT,List.map_cons,wG d c ys fs]
theorem uB(c:Array Value)(off:Nat)(v:Value)(h:c[off]?=some v)(w:World):(part 3 c off).run prog w=.ok v w:=by
 simp[part,isAgg,run_underlying underlying3,h]
theorem aA.rangeAt(h:aA aB w w'){o:Nat}{c:List Value}(d:w.rangeAt b o c):w'.rangeAt b o c:=fun j v e=>h.cell (d j v e) id
end
section
open Go.RowKit Go.Maps Go.ChangeMaps
@[ext] structure Ad where
 dev:Int
 sec:Int
deriving DecidableEq
def wH(n:Int):Prop:=-9223372036854775808≤n/\n≤9223372036854775807
def eW(a:Ad):Prop:=wH a.1/\wH a.2
def aO(a:Ad):List Value:=[.int .i64 a.1,.int .i64 a.2]
def adV(a:Ad):Value:=.agg (aO a).toArray
theorem bG(a:Ad):(aO a).length=2:=rfl
theorem bP(a:Ad):∀u∈aO a,u.oneCell'=true:=by
 intro u c;simp only[aO,List.mem_cons,List.not_mem_nil,or_false] at c;rcases c with rfl|rfl<;>rfl
theorem LW{a b:Ad}(h:aO a=aO b):a=b:=by
 unfold aO at h;injection h with c d
 injection d with e g
 injection c with _ f
 injection e with _ h6
 exact Ad.ext f h6
theorem cC:(prog.info? 59).map (·.size)=some 2:=by kernel_rfl
def eM:Value:=.agg #[.int .i64 0,.int .i64 0]
theorem eI(w:World):(zeroValue 59).run prog w=.ok eM w:=by kernel_rfl
theorem qR:(prog.info? 59).map (fun i=>(i.zero,i.size,i.bytes))=some (some eM,2,16):=by kernel_rfl
theorem vX(d:Nat)(n:Int)(h:wH n):prog.keyLits (d+1) 3 [.int .i64 n]=some [.int .i64 n]:=by
 have c:(Lit.int .i64 n).wf=true:=Go.WalkArith.wf_i64 h;simp[Program.keyLits,underlying3,c]
theorem JD:laidOutB prog=true:=by kernel_rfl
theorem bT:prog.underlying 59=some (.struct (prog.fieldsOf 59)):=by kernel_rfl
theorem LX : (prog.fieldsOf 59).toList.map (fun f => (f.name, f.type, f.offset)) = [("Dev", 3, 0), ("At", 3, 1)] := by kernel_rfl
theorem Od:Keyed prog 59:=Keyed.of_law (deep_law_gate JD (of_decide_eq_true (by kernel_rfl)) (of_decide_eq_true (by kernel_rfl)) (by kernel_rfl) (by rw[bT]))
theorem QB(a:Ad)(h:eW a):∃x,keyOf prog 59 (adV a)=some x:=by
 have s:prog.keyType 59=true:=by kernel_rfl
 have q:prog.cellsOf 59=2:=by kernel_rfl
 have C:prog.cellsOf 3=1:=by kernel_rfl
 have u:(adV a).formed prog 59=true:=by
  simp[Value.formed,adV,q,aO]
 have v:∃ys,prog.keyLits (prog.types.size+1) 59 (adV a).cells.toList=some ys:=by
  obtain⟨d,z⟩:∃d,prog.types.size=d+1:=⟨prog.types.size-1,by have:0<prog.types.size:=of_decide_eq_true (by kernel_rfl);omega⟩
  rw[z];have B:(adV a).cells.toList=aO a:=by simp[adV,Value.cells]
  rw[B];unfold Program.keyLits;rw[bT];have y : ((prog.fieldsOf 59).all (·.name != "_")) = true := by kernel_rfl
  simp only[q,bG,y,and_self,if_true];obtain⟨f,g,i,c,e,j,m⟩:∃f g,(prog.fieldsOf 59).toList=[f,g]/\f.type=3/\f.offset=0/\g.type=3/\g.offset=1:=⟨_,_,rfl,rfl,rfl,rfl,rfl⟩
  rw[i];simp only[List.mapM_cons,List.mapM_nil,c,e,j,m,C,aO,List.drop_zero,List.take_succ_cons,List.take_zero,List.drop_succ_cons,vX d _ h.1,vX d _ h.2];exact⟨_,rfl⟩
 obtain⟨ys,p⟩:=v;refine⟨.string (keyBytes ys),?_⟩;unfold keyOf;rw[bT];simp only[s,u,Bool.and_self,if_true];rw[p];rfl
theorem NV:tA prog 59 eW adV where
 law:=Od
 key:=QB
 inj a c _ _ h:=by
  unfold adV at h;injection h with d
  exact LW (congrArg Array.toList d)
inductive Nix where
 | nix
def fH(_:Nix):Value:=.agg #[]
def fX(a b:Ad):Bool:=decide (a.1<b.1) || (decide (a.1=b.1) && decide (a.2<b.2))
theorem qS(a b:Ad):fX a b=true↔a.1<b.1\/(a.1=b.1/\a.2<b.2):=by simp[fX]
theorem kQ(a b:Ad):fX a b=false↔¬(a.1<b.1\/(a.1=b.1/\a.2<b.2)):=by rw[←qS];simp
def iQ(x y:Int):Int:=if x<y then -1 else if y<x then 1 else 0
def yD(a b:Ad):Int:=if iQ a.1 b.1≠0 then iQ a.1 b.1 else iQ a.2 b.2
theorem LY(a b:Ad):decide (yD a b<0)=fX a b:=by
 rw[Bool.eq_iff_iff,qS,decide_eq_true_iff];unfold yD iQ;split<;>split<;>(try split)<;>omega
open Go.RowKit
set_option maxRecDepth 100000
set_option linter.unusedVariables false
end
section
open Go.RowKit
theorem dwA{P:Program}{ops:Array Oper}{Q:Exit->Act->World->Prop}{id:Nat}{a:Act}{w:World}(U:Nat->Prop)(d:P.follows .mixedOrders=true)(h:∀wd (S:World->Prop),Hid (∀w',S w'->aA U wd w')->Hid (∀w',aA U wd w'->S w')->S wd->aA aB w wd->wpAnyH P .any ops Q S ops.size (Array.replicate ops.size false) a wd):(Code.region id ops true).wp P Q a w:=
 have c:=(aA.refl aB w).drew
 wp_region_held (S:=fun w'=>aA U w.drew w') d (h w.drew (fun w'=>aA U w.drew w') (O fun _ h=>h) (O fun _ h=>h) (aA.refl _ _) c)
theorem GC(x:Int)(w:World):Calls prog 202 #[.int .i64 x] w fun e w'=>e=.returned (.bool false)/\w'=w:=by
 have h:decide (x=x)=true:=decide_eq_true rfl;go_in;go_wp2;go_ret;exact⟨by simp,rfl⟩
theorem GD(x y:Int)(w:World):Calls prog 159 #[.int .i64 x,.int .i64 y] w fun e w'=>e=.returned (.int .i64 (iQ x y))/\w'=w:=by
 have g:=O (fun w=>GC x w);have i:=O (fun w=>GC y w);obtain⟨c,f⟩:=zX9 (iQ x y)
 have d:=O f;rw[f];clear f;go_in;go_wp2_with fail;refine(g.out _).mono ?_;rintro e p ⟨rfl,rfl⟩;go_wp2_with fail;refine(i.out _).mono ?_;rintro e q ⟨rfl,rfl⟩;rcases Int.lt_trichotomy x y with h|h|h
 ·have e:c=-1:=by rw[←d.out];unfold iQ;rw[if_pos h]
  subst e;go_wp2;go_ret;exact⟨rfl,rfl⟩
 ·have e:c=0:=by rw[←d.out];unfold iQ;rw[if_neg (by omega),if_neg (by omega)]
  subst e;have j:¬x<y:=by omega
  have m:¬y<x:=by omega
  clear h;go_wp2;go_ret;exact⟨rfl,rfl⟩
 ·have e:c=1:=by rw[←d.out];unfold iQ;rw[if_neg (by omega),if_pos h]
  subst e;have j:¬x<y:=by omega
  go_wp2;go_ret;exact⟨rfl,rfl⟩
def orI(x y:Int):Int:=if x≠0 then x else y
theorem PF(x y:Int)(b:Nat)(w:World)(h0:w.cell? ⟨b,0,none⟩=some (.int .i64 x))(g:w.cell? ⟨b,1,none⟩=some (.int .i64 y)) :
 Calls prog 158 #[.slice b 2 2] w fun e w'=>e=.returned (.int .i64 (orI x y))/\w'=w:=by
 obtain⟨c,f⟩:=zX9 (orI x y)
 have d:=O f;rw[f];have j:=O h0;have m:=O g;clear f h0 g;go_in;go_wp2_with fail
 go_loopw [5,8] (fun _ i wr=>wr=w/\(i=.int .i64 0\/(i=.int .i64 1/\x=0)\/(i=.int .i64 2/\x=0/\y=0))) (fun _ i _=>2-(intOf i).toNat)
 case atStart=>exact⟨rfl,.inl rfl⟩
 case round =>
  obtain⟨rfl,rfl|⟨rfl,rfl⟩|⟨rfl,rfl,rfl⟩⟩:=hrel
  ·have c0:=j.out
   by_cases h:x=0
   ·subst h
    go_wp2
    go_roundw
    case rel=>simp
    case measure=>decide
   ·have e:x=c:=by rw[←d.out];unfold orI;rw[if_pos h]
    subst e;go_wp2;go_ret;exact⟨rfl,rfl⟩
  ·have c1:=m.out
   have e:y=c:=by rw[←d.out];unfold orI;rfl
   subst e
   by_cases p:y=0
   ·subst p
    go_wp2
    go_roundw
    case rel=>simp
    case measure=>decide
   ·go_wp2
    go_ret;exact⟨rfl,rfl⟩
  ·have e:c=0:=by rw[←d.out];rfl
   subst e;go_wp2;go_ret;exact⟨rfl,rfl⟩
theorem JH(a b:Ad)(w:World):Calls prog 108 #[adV a,adV b] w fun e w'=>e=.returned (.int .i64 (yD a b))/\Gr w w':=by
 obtain⟨j,m⟩:=zX9 ((w.alloc (.cells (aO a).toArray 59)).alloc (.cells (aO b).toArray 59))
 have p:j.heap[w.heap.size]?=some (.cells (aO a).toArray 59 (0,0)):=by rw[←m];exact heap_alloc2_old _ _ _
 have q:j.heap[w.heap.size+1]?=some (.cells (aO b).toArray 59 (0,0)):=by rw[←m];exact heap_alloc2_new _ _ _
 have I:Gr w j:=by rw[←m];exact((Gr.refl _).alloc _).alloc _
 have J:=O (show yD a b=orI (iQ a.1 b.1) (iQ a.2 b.2) from rfl);obtain⟨S,d⟩:∃S:World->Prop,S=fun w'=>Gr j w':=⟨_,rfl⟩
 have E:=O (show ∀w',S w'->Gr w w' from fun w' h=>by rw[d] at h;exact I.trans h);have u:=O (show ∀w' s,S w'->Gr w' s->S s from fun w' s h k=>by rw[d] at h ⊢;exact Gr.trans h k);have z:=O (show ∀w',S w'->w'.cell? ⟨w.heap.size,0,none⟩=some (.int .i64 a.1) from fun w' h=>by rw[d] at h;exact aC (h.keep.blk p id) rfl);have B:=O (show ∀w',S w'->w'.cell? ⟨w.heap.size,1,none⟩=some (.int .i64 a.2) from fun w' h=>by rw[d] at h;exact aC (h.keep.blk p id) rfl);have C:=O (show ∀w',S w'->w'.cell? ⟨w.heap.size+1,0,none⟩=some (.int .i64 b.1) from fun w' h=>by rw[d] at h;exact aC (h.keep.blk q id) rfl);have D:=O (show ∀w',S w'->w'.cell? ⟨w.heap.size+1,1,none⟩=some (.int .i64 b.2) from fun w' h=>by rw[d] at h;exact aC (h.keep.blk q id) rfl);have v:S j:=by rw[d];exact Gr.refl _
 have G:=O GD;clear d p q I;unfold adV;go_in;go_wp2_with fail;clear m;have g:S j.drew:=u.out _ _ v ((Gr.refl _).drewN 1);clear v;refine wp_region_held (S:=S) (by kernel_rfl) ?_;change wpAnyH _ _ _ _ _ _ _ _ j.drew;generalize j.drew=L at *;refine tka 0 (.pointer (w.heap.size)) rfl g ?_;simp only[Act.put,List.setIfInBounds_toArray,List.set_cons_zero,List.set_cons_succ,List.getElem_toArray,List.getElem_cons_zero];refine tnd 1 (.int .i64 a.1) rfl (.inl ⟨by rfl,fun w' f=>by have c:=z.out w' f;go_simp⟩) g ?_;refine tna 2 (.pointer (some ⟨w.heap.size+1,0,none⟩)) rfl g ?_;refine tnd 3 (.int .i64 b.1) rfl (.inl ⟨by rfl,fun w' f=>by have c:=C.out w' f;go_simp⟩) g ?_;refine tna 5 (.pointer (some ⟨w.heap.size,1,none⟩)) rfl g ?_;refine tnd 6 (.int .i64 a.2) rfl (.inl ⟨by rfl,fun w' f=>by have c:=B.out w' f;go_simp⟩) g ?_;refine tna 7 (.pointer (some ⟨w.heap.size+1,1,none⟩)) rfl g ?_;refine tnd 8 (.int .i64 b.2) rfl (.inl ⟨by rfl,fun w' f=>by have c:=D.out w' f;go_simp⟩) g ?_;refine wA9 4 ?_;go_wp2_with fail;refine(G.out _ _ _).mono ?_;rintro e M ⟨rfl,rfl⟩;go_wp2_with fail;refine⟨g,?_⟩;refine wA9 9 ?_;go_wp2_with fail;refine(G.out _ _ _).mono ?_;rintro e F ⟨rfl,rfl⟩;go_wp2_with fail;refine⟨g,?_⟩;refine wA9 10 ?_;go_wp2_with fail
 obtain⟨y,x,c0,c1,i⟩:∃y,F.alloc (.cells #[.int .i64 (iQ a.1 b.1),.int .i64 (iQ a.2 b.2)] 3)=y/\y.cell? ⟨F.heap.size,0,none⟩=some (.int .i64 (iQ a.1 b.1))/\y.cell? ⟨F.heap.size,1,none⟩=some (.int .i64 (iQ a.2 b.2))/\S y:=
  ⟨_,rfl,aC (heap_alloc_new _ _) rfl,aC (heap_alloc_new _ _) rfl,u _ _ g ((Gr.refl _).alloc _)⟩
 rw[x];have H:=O (PF _ _ _ _ c0 c1);clear x c0 c1 g;refine⟨i,?_⟩;refine wA9 11 ?_;go_wp2_with fail;refine H.out.mono ?_;rintro e N ⟨rfl,rfl⟩;rw[←J.out];go_wp2_with fail;refine⟨i,?_⟩;refine tna 12 (.int .i64 (yD a b)) rfl i ?_;refine wpAnyH_done (by kernel_rfl) ?_ _;have K:=O (E _ i);clear i H;go_wp2;go_ret;exact⟨rfl,K.out⟩
end
section
open Go.RowKit Go.Maps Go.ChangeMaps
theorem GJ:(prog.info? 3).map (fun i=>(i.zero,i.size,i.bytes))=some (some (.int .i64 0),1,8):=by kernel_rfl
def QE(w:World)(l:List Int)(e:Ending)(w':World):Prop:=∃v,e=.returned v/\w'.ownsRow w.heap.size 3 1 v l.length (l.map fun x=>.int .i64 x)/\aA aB w w'
theorem Ef(l:List Int):∀u∈l.map (fun x=>Value.int .i64 x),u.oneCell'=true:=fun u c=>by obtain⟨x,-,rfl⟩:=List.mem_map.1 c;rfl
section
variable {α β:Type}{P:Program}{k:TypeId}{ok:α->Prop}{enc:α->Value}{ev:β->Value}{w:World}{b:Nat}{l:List (α×β)}
variable {ops:Array Oper}{xT:List Oper}{o:Oper}{a:Act}{Q:Exit->Act->World->Prop}
variable{r:Nat}
theorem Bn(i:o.guard=none)(m:Operand)(t:TypeId)(f:o.op=Op.range t m){k e:TypeId}(p:P.underlying t=some (.map k e))(j:a.eval m=.map (some b))(h:cH ok enc ev w b l)
 (g:∀w',dA ok enc ev w' b w.heap.size l l->aA aB w w'->w'.heap.size=w.heap.size+1->wpList P ops Q xT (a.put o.dst (.pointer (w.heap.size))) w'):wpList P ops Q (o::xT) a w:=by
 refine wpList_plain i fun v d=>?_
 obtain⟨w',c,q,s,u⟩:=h.range p;unfold Oper.wp;simp[execOp,f,j,c,Result.andThen];exact d _ _ (g w' q s u)
theorem Cd(z:o.guard=none)(m:Operand)(j:o.op=Op.next m false){left:List (α×β)}(g:a.eval m=.pointer r)(h:dA ok enc ev w b r l left)
 (d:left=[]->wpList P ops Q xT (a.put o.dst (.tuple #[.bool false])) w)
 (e:∀i x v w',left[i]?=some (x,v)->ok x->dA ok enc ev w' b r l (left.eraseIdx i)->aA (fun k=>k=r) w w'->w'.heap.size=w.heap.size->tB enc ev w' b r x v->wpList P ops Q xT (a.put o.dst (.tuple #[.bool true,enc x,ev v])) w'):wpList P ops Q (o::xT) a w:=by
 refine wpList_plain z fun B f=>?_
 unfold Oper.wp;rcases h.next (P:=P) o.type with⟨h0,c⟩|⟨i,x,v,w',p,q,c,s,u,y,h6⟩
 ·simp[execOp,j,g,c,Result.andThen]
  exact f _ _ (d h0)
 ·simp[execOp,j,g,c,Result.andThen]
  exact f _ _ (e i x v w' p q s u y h6)
theorem Bo(i:o.guard=none)(f:Operand)(e:o.op=Op.entry f){x:α}{v:β}(d:a.eval f=.pointer r)(h:tB enc ev w b r x v)
 (g:wpList P ops Q xT (a.put o.dst (.tuple #[enc x,ev v])) w):wpList P ops Q (o::xT) a w:=by
 refine wpList_plain i fun j c=>?_
 unfold Oper.wp;simp[execOp,e,d,h P,Result.andThen];exact c _ _ g
end
end
end Go.Proofs.YtoeinblfcbpcmaaGreat
