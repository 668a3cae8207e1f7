import Derived.Test.YtiinnfhjpaeffaaGreatW1
import Derived.Test.YtiinnfhjpaeffaaGreatW2
import Derived.Test.YtiinnfhjpaeffaaGreatW3
import Derived.Test.YtiinnfhjpaeffaaGreatW4
import Derived.Sort.Grow
import Derived.Stop.BytesEq
import Derived.RangeFuncKeeps
import Derived.RangeFuncLeaves
import Derived.RangeFuncFrom
import Derived.RangeFuncNested
import Derived.OwnWalkIn
import Derived.TacticsInMore
import Derived.LoopNIn
import Derived.LoopIn
namespace Go.Proofs.YtiinnfhjpaeffaaGreat
set_option maxHeartbeats 64000000
set_option maxRecDepth 100000
set_option linter.unusedVariables false
section
open Go.RowKit Go.Maps Go.ChangeMaps Go.Sort
theorem aL{w:World}{base e size n:Nat}{v:Value}{xs:List Value}(h:w.ownsRow base e size v n xs){k:Nat}(hb:v.ownBlock=some k):∃cur,w.heap[k]?=some (.cells cur e (0,0)):=by
 rcases h.2 with⟨rfl,-⟩|⟨g,cap,cur,rfl,_,hh,-⟩
 ·cases hb
 ·cases hb;exact⟨cur,hh⟩
theorem eT{S:Nat->Prop}{W W':World}(h:aA S W W')(hS:∀k o,W.heap[k]?=some o->S k->o.isCells=true):KeepsOthers W W':=
 ⟨h.size,fun k o hk ho=>h.blk hk fun hs=>by rw[hS k o hk hs] at ho;cases ho⟩
section
variable {P:Program}{n:Nat}{Q:Exit->Act->World->Prop}{ops:Array Oper}{rest:List Oper}
theorem Fg{o:Oper}{a:Act}{w:World}{K:Act->World->Prop}(hnd:∀c,o.op≠.defer c)(h:o.wp P a w K Q):o.wpIn Fence.wide n P a w K Q:=by
 refine⟨fun _ _=>trivial,?_⟩;rw[Oper.semAt_eq _ _ _ hnd];unfold Oper.wp at h;generalize (execOp a.eval o).run P w=r at *;cases r with
 | ok x w' =>
   cases x<;>simp only[Oper.upon,Oper.uponIn] at h ⊢<;>first
    | exact h
    | exact⟨fun hd=>by simp[Fence.wide] at hd,(callsIn_wide (n:=n-1)).2 h⟩
    | exact⟨fun hd=>by simp[Fence.wide] at hd,fun c cs _=>let ⟨v,w'',r,s⟩:=h c cs;⟨v,w'',r,stepsIn_wide.2 s⟩⟩
    | exact h.elim
 | halt x w'=>cases x<;>simp only[Oper.upon,Oper.uponIn] at h ⊢<;>exact h
theorem qO{o:Oper}{a:Act}{w:World}(hg:o.guard=none)(hnd:∀c,o.op≠.defer c)(h:∀K:Act->World->Prop,(∀a w,wpListIn Fence.wide n P ops Q rest a w->K a w)->o.wp P a w K Q) :
 wpListIn Fence.wide n P ops Q (o::rest) a w:=wpListIn_plain hg fun K hK=>Fg hnd (h K hK)
theorem oJ{o:Oper}{a:Act}{w:World}(hg:o.guard=none)(T:TypeId)(ho:o.op=.alloc T)(z:Value)(hz:∀w,(zeroValue T).run P w=.ok z w)(cs:Array Value)(hcs:z.cells=cs)
 (h:wpListIn Fence.wide n P ops Q rest (a.put o.dst (.pointer (some ⟨w.heap.size,0,none⟩))) (w.alloc (.cells cs T))):wpListIn Fence.wide n P ops Q (o::rest) a w:=by
 subst hcs;refine qO hg (by rw[ho];intro c hc;cases hc) fun K hK=>?_
 unfold Oper.wp execOp;simp only[ho,Sem.run_bind,Sem.run_pure,lZ hz,Result.andThen_ok];exact hK _ _ h
theorem nM{w:World}{op:Oper}{a:Act}(hgd:op.guard=none)(ty:TypeId)(x y:Operand)(ho:op.op=.store ty x y)
 (b o:Nat) (vs:List Value) (hx:a.eval x=.pointer (some ⟨b,o,none⟩)) (hy:a.eval y=.agg vs.toArray) (cs:Array Value) (t:TypeId) (hb:w.heap[b]?=some (.cells cs t (0,0))) (hfit:o+vs.length≤cs.size)
 (hi:(P.info? ty).map (·.size)=some vs.length) (h1:∀v∈vs,v.oneCell'=true)
 (h:∀w',w'.heap[b]?=some (.cells (spl cs o vs) t (0,0))->aA (fun k=>k=b) w w'->wpListIn Fence.wide n P ops Q rest (a.put op.dst undef) w'):wpListIn Fence.wide n P ops Q (op::rest) a w:=by
 refine qO hgd (by rw[ho];intro c hc;cases hc) fun K hK=>?_
 refine wp_store_mid ty x y ho b o vs.toArray hx hy ?_ (by simpa using hi) (all_oneCell_toArray h1) (hK _ _ (h _ (lH _ _ _ _ hb) (aA.setCells (S:=fun k=>k=b) (fun _=>rfl) _ _ _ (aA.refl _ _))));intro j hj;refine⟨?_,frozen_of_row w b _ _ _ hb⟩;rw[cell_of_row w b _ _ _ _ hb];have:o+j<cs.size:=by simp at hj;omega
 simp[this]
theorem kD{w:World}{op:Oper}{a:Act}(hgd:op.guard=none)(ty:TypeId)(x:Operand)(ho:op.op=.load ty x)
 (b o:Nat) (hx:a.eval x=.pointer (some ⟨b,o,none⟩)) (cs:List Value) (d:TypeDesc) (hc:w.rangeAt b o cs)
 (hu:P.underlying ty=some d) (hd:d.isRow=true) (hi:(P.info? ty).map (·.size)=some cs.length)
 (h:wpListIn Fence.wide n P ops Q rest (a.put op.dst (.agg cs.toArray)) w):wpListIn Fence.wide n P ops Q (op::rest) a w:=
 qO hgd (by rw[ho];intro c hc;cases hc) fun K hK=>wp_load_mid ty x ho b o hx cs d hc hu hd hi (hK _ _ h)
end
def Cc(B1:Nat)(A B:World):Prop:=KeepsWalks A B/\B.heap[B1]?=A.heap[B1]?
theorem oF{α:Type}:∀{l:List α}{i:Nat}{x:α},l[i]?=some x->l.Perm (x::l.eraseIdx i)
 | [],_,_,h=>by simp at h
 | y::l,0,x,h=>by
   simp only[List.getElem?_cons_zero,Option.some.injEq] at h;subst h;exact List.Perm.refl _
 | y::l,i+1,x,h=>by
   rw[List.getElem?_cons_succ] at h;rw[List.eraseIdx_cons_succ];exact((oF h).cons y).trans (List.Perm.swap x y _)
theorem BD{w w':World}{r:Nat}(h:aA (fun k=>k=r) w w'):w.grownBy w' (some r):=
 ⟨h.os,h.tape,h.output,h.size,fun i hi hne=>h.block i hi (fun e=>hne (by rw[e]))⟩
theorem mD{w w':World}(h:aA aB w w'):w.grownBy w' none:=
 ⟨h.os,h.tape,h.output,h.size,fun i hi _=>h.block i hi id⟩
theorem dK.walks{α β:Type}{ok:α->Prop}{enc:α->Value}{ev:β->Value}{A B:World}{b r:Nat}{l left:List (α×β)}(h:dK ok enc ev A b r l left)(k:KeepsWalks A B):dK ok enc ev B b r l left:=by
 obtain⟨es,clock,since,seen,c0,hb,hm,hi,h⟩:=h;exact⟨es,clock,since,seen,c0,k.same _ _ hb rfl,hm,k.same _ _ hi rfl,h⟩
theorem dK.walk{α β:Type}{ok:α->Prop}{enc:α->Value}{ev:β->Value}{A:World}{b r:Nat}{l left:List (α×β)}(h:dK ok enc ev A b r l left):∃o:Obj,A.heap[r]?=some o/\o.isWalk=true:=by
 obtain⟨es,clock,since,seen,c0,hb,hm,hi,h⟩:=h;exact⟨_,hi,rfl⟩
theorem dK.count{α β:Type}{ok:α->Prop}{enc:α->Value}{ev:β->Value}{A:World}{b r:Nat}{l left:List (α×β)}(h:dK ok enc ev A b r l left):A.rangeLeft b r=left.length:=by
 obtain⟨es,clock,since,seen,c0,hb,hm,hi,_,_,_,hl,_⟩:=h;have:=congrArg List.length hl;simp only[List.length_map,Array.length_toList] at this;simp only[World.rangeLeft,hb,hi];exact this
theorem eE{w:World}{b n size:Nat}{vs:List Value}{t:TypeId}(hb:w.heap[b]?=some (.cells vs.toArray t (0,0)))(hl:vs.length=n*size)(hn:n≤maxLen):Rd w size (.slice (some ⟨b,0,none⟩) n n) n vs:=
 ⟨hl,_,n,rfl,Nat.le_refl _,hn,(by intro h;cases h),fun _=>⟨b,0,rfl,fun i u hu=>aC hb (by simpa using hu)⟩⟩
theorem bJ{w:World}{base e size n k:Nat}{v:Value}{xs:List Value}(h:w.ownsRow base e size v n xs)(hv:v.ownBlock=some k):base≤k:=by
 rcases h.2 with⟨rfl,-⟩|⟨g,cap,cur,rfl,hb,-⟩
 ·cases hv
 ·cases hv;exact hb
theorem Jw(t:Array Value)(p:Nat)(v:Value):(Array.zip #[p] #[v]).foldl (fun(t:Array Value) (pv:Nat×Value)=>t.setIfInBounds pv.1 pv.2) t=t.setIfInBounds p v:=by
 simp[Array.zip]
def Gr(w w':World):Prop:=∃(q:Nat) (os:Array Obj),w'=grow (w.drewN q) os
theorem Gr.refl(w:World):Gr w w:=⟨0,#[],by simp[grow];rfl⟩
theorem Gr.trans{a b c:World}(h:Gr a b)(k:Gr b c):Gr a c:=by
 obtain⟨q,os,rfl⟩:=h;obtain⟨q',os',rfl⟩:=k;refine⟨q+q',os++os',?_⟩;rw[←grow_grow,←World.drewN_drewN];rfl
theorem Gr.alloc{a b:World}(h:Gr a b)(o:Obj):Gr a (b.alloc o):=h.trans ⟨0,#[o],by rw[alloc_eq_grow];rfl⟩
theorem Gr.drewN{a b:World}(h:Gr a b)(q:Nat):Gr a (b.drewN q):=h.trans ⟨q,#[],(grow_empty _).symm⟩
theorem Gr.keep{a b:World}(h:Gr a b):aA aB a b:=by
 obtain⟨q,os,rfl⟩:=h;refine⟨rfl,rfl,rfl,by simp[grow],fun k hk _=>?_⟩;simp only[grow];rw[Array.getElem?_append_left (by exact hk)];rfl
theorem aT(w:World)(cs:Array Value)(t:TypeId):∃w',w.alloc (.cells cs t)=w'/\aA aB w w'/\w'.heap[w.heap.size]?=some (.cells cs t (0,0))/\w'.heap.size=w.heap.size+1:=
 ⟨_,rfl,(aA.refl _ _).alloc _,heap_alloc_new _ _,World.size_alloc _ _⟩
def aX(w:World)(b:Bool)(e:Ending)(w':World):Prop:=e=.returned (.bool b)/\aA aB w w'
theorem yC{P:Program}{w:World}{t:TypeId}{xs ys:Array Value}{b:Bool}(h:(binOp .eql t (.agg xs) (.agg ys)).run P w=.ok (.bool b) w):(binOp .neq t (.agg xs) (.agg ys)).run P w=.ok (.bool (!b)) w:=by
 rw[run_eql_struct] at h;rw[run_neq_struct];cases hr:(Op.equalIn 10000 t (.agg xs) (.agg ys)).run P w with
 | ok x w' =>
   rw[hr] at h;simp only[Result.andThen_ok,Result.ok.injEq,Value.bool.injEq] at h ⊢;exact⟨by rw[h.1],h.2⟩
 | halt x w'=>rw[hr] at h;cases h
def eqT(d:Nat)(xs ys:Array Value):List (String×TypeId×Nat)->Sem Bool
 | []=>pure true
 | f::fs =>
   if f.1 ≠ "_" then do
    let a ←part f.2.1 xs f.2.2
    let b ←part f.2.1 ys f.2.2
    let r ←Op.equalIn d f.2.1 a b
    if (!r)=true then pure false else eqT d xs ys fs
   else eqT d xs ys fs
theorem tL(d:Nat)(xs ys:Array Value):∀(fs:List Field),Op.eqFields d xs ys fs=eqT d xs ys (fs.map fun f=>(f.name,f.type,f.offset))
 | []=>rfl
 | f::fs=>by simp only[Op.eqFields,eqT,List.map_cons,tL d xs ys fs]
theorem rW(cs:Array Value)(off:Nat)(v:Value)(h:cs[off]?=some v)(w:World):(part 3 cs off).run Tryz.prog w=.ok v w:=by
 simp[part,isAgg,run_underlying Tryz.underlying3,h]
theorem aA.rangeAt{w w':World}(h:aA aB w w'){b o:Nat}{cs:List Value}(hr:w.rangeAt b o cs):w'.rangeAt b o cs:=fun j v hv=>h.cell (hr j v hv) id
end
section
open Go.RowKit Go.Maps Go.ChangeMaps
@[ext] structure Ad where
 dev:Int
 sec:Int
deriving DecidableEq
def Cd(n:Int):Prop:=-9223372036854775808≤n/\n≤9223372036854775807
def eM(a:Ad):Prop:=Cd a.1/\Cd a.2
def aO(a:Ad):List Value:=[.int .i64 a.1,.int .i64 a.2]
def adV(a:Ad):Value:=.agg (aO a).toArray
theorem bC(a:Ad):(aO a).length=2:=rfl
theorem bL(a:Ad):∀u∈aO a,u.oneCell'=true:=by
 intro u hu;simp only[aO,List.mem_cons,List.not_mem_nil,or_false] at hu;rcases hu with rfl|rfl<;>rfl
theorem Jy{a b:Ad}(h:aO a=aO b):a=b:=by
 unfold aO at h;injection h with h1 h2
 injection h2 with h3 h4
 injection h1 with _ h5
 injection h3 with _ h6
 exact Ad.ext h5 h6
theorem bW:(Tryz.prog.info? 82).map (·.size)=some 2:=by kernel_rfl
def eF:Value:=.agg #[.int .i64 0,.int .i64 0]
theorem eC(w:World):(zeroValue 82).run Tryz.prog w=.ok eF w:=by kernel_rfl
theorem rC:(Tryz.prog.info? 82).map (fun i=>(i.zero,i.size,i.bytes))=some (some eF,2,16):=by kernel_rfl
theorem tD(d:Nat)(n:Int)(h:Cd n):Tryz.prog.keyLits (d+1) 3 [.int .i64 n]=some [.int .i64 n]:=by
 have hw:(Lit.int .i64 n).wf=true:=Go.WalkArith.wf_i64 h;simp[Program.keyLits,Tryz.underlying3,hw]
theorem GY:laidOutB Tryz.prog=true:=by kernel_rfl
theorem bS:Tryz.prog.underlying 82=some (.struct (Tryz.prog.fieldsOf 82)):=by kernel_rfl
theorem Jz : (Tryz.prog.fieldsOf 82).toList.map (fun f => (f.name, f.type, f.offset)) = [("Dev", 3, 0), ("At", 3, 1)] := by kernel_rfl
theorem LF:Keyed Tryz.prog 82:=Keyed.of_law (deep_law_gate GY (of_decide_eq_true (by kernel_rfl)) (of_decide_eq_true (by kernel_rfl)) (by kernel_rfl) (by rw[bS]))
theorem NQ(a:Ad)(h:eM a):∃x,keyOf Tryz.prog 82 (adV a)=some x:=by
 have h1:Tryz.prog.keyType 82=true:=by kernel_rfl
 have hc:Tryz.prog.cellsOf 82=2:=by kernel_rfl
 have hu:Tryz.prog.cellsOf 3=1:=by kernel_rfl
 have h2:(adV a).formed Tryz.prog 82=true:=by
  simp[Value.formed,adV,hc,aO]
 have h3:∃ys,Tryz.prog.keyLits (Tryz.prog.types.size+1) 82 (adV a).cells.toList=some ys:=by
  obtain⟨d,hd⟩:∃d,Tryz.prog.types.size=d+1:=⟨Tryz.prog.types.size-1,by have:0<Tryz.prog.types.size:=of_decide_eq_true (by kernel_rfl);omega⟩
  rw[hd];have hl:(adV a).cells.toList=aO a:=by simp[adV,Value.cells]
  rw[hl];unfold Program.keyLits;rw[bS];have hb : ((Tryz.prog.fieldsOf 82).all (·.name != "_")) = true := by kernel_rfl
  simp only[hc,bC,hb,and_self,if_true];obtain⟨f,g,hfs,hf1,hf2,hg1,hg2⟩:∃f g,(Tryz.prog.fieldsOf 82).toList=[f,g]/\f.type=3/\f.offset=0/\g.type=3/\g.offset=1:=⟨_,_,rfl,rfl,rfl,rfl,rfl⟩
  rw[hfs];simp only[List.mapM_cons,List.mapM_nil,hf1,hf2,hg1,hg2,hu,aO,List.drop_zero,List.take_succ_cons,List.take_zero,List.drop_succ_cons,tD d _ h.1,tD d _ h.2];exact⟨_,rfl⟩
 obtain⟨ys,hys⟩:=h3;refine⟨.string (keyBytes ys),?_⟩;unfold keyOf;rw[bS];simp only[h1,h2,Bool.and_self,if_true];rw[hys];rfl
theorem Lq:tK Tryz.prog 82 eM adV where
 law:=LF
 key:=NQ
 inj a c _ _ h:=by
  unfold adV at h;injection h with h1
  exact Jy (congrArg Array.toList h1)
inductive Nix where
 | nix
def eS(_:Nix):Value:=.agg #[]
def fD(a b:Ad):Bool:=decide (a.1<b.1) || (decide (a.1=b.1) && decide (a.2<b.2))
theorem pF(a b:Ad):fD a b=true↔a.1<b.1\/(a.1=b.1/\a.2<b.2):=by simp[fD]
theorem jT(a b:Ad):fD a b=false↔¬(a.1<b.1\/(a.1=b.1/\a.2<b.2)):=by rw[←pF];simp
def gY(x y:Int):Int:=if x<y then -1 else if y<x then 1 else 0
def vF(a b:Ad):Int:=if gY a.1 b.1≠0 then gY a.1 b.1 else gY a.2 b.2
theorem JA(a b:Ad):decide (vF a b<0)=fD a b:=by
 rw[Bool.eq_iff_iff,pF,decide_eq_true_iff];unfold vF gY;split<;>split<;>(try split)<;>omega
open Go.RowKit
set_option maxRecDepth 100000
set_option linter.unusedVariables false
end
section
open Go.RowKit
theorem dwA{P:Program}{ops:Array Oper}{Q:Exit->Act->World->Prop}{id:Nat}{a:Act}{w:World}(U:Nat->Prop)(hm:P.follows .mixedOrders=true)(h:∀wd (S:World->Prop),Hid (∀w',S w'->aA U wd w')->Hid (∀w',aA U wd w'->S w')->S wd->aA aB w wd->wpAnyH P .any ops Q S ops.size (Array.replicate ops.size false) a wd):(Code.region id ops true).wp P Q a w:=
 have hd:=(aA.refl aB w).drew
 wp_region_held (S:=fun w'=>aA U w.drew w') hm (h w.drew (fun w'=>aA U w.drew w') (O fun _ h=>h) (O fun _ h=>h) (aA.refl _ _) hd)
theorem EB(x:Int)(w:World):Calls Tryz.prog 205 #[.int .i64 x] w fun e w'=>e=.returned (.bool false)/\w'=w:=by
 have h:decide (x=x)=true:=decide_eq_true rfl;go_in;go_wp2;go_ret;exact⟨by simp,rfl⟩
theorem EC(x y:Int)(w:World):Calls Tryz.prog 154 #[.int .i64 x,.int .i64 y] w fun e w'=>e=.returned (.int .i64 (gY x y))/\w'=w:=by
 have N1:=O (fun w=>EB x w);have N2:=O (fun w=>EB y w);obtain⟨c,hc⟩:∃c,gY x y=c:=⟨_,rfl⟩
 have HC:=O hc;rw[hc];clear hc;go_in;go_wp2_with fail;refine(N1.out _).mono ?_;rintro e w1 ⟨rfl,rfl⟩;go_wp2_with fail;refine(N2.out _).mono ?_;rintro e w2 ⟨rfl,rfl⟩;rcases Int.lt_trichotomy x y with h|h|h
 ·have e:c=-1:=by rw[←HC.out];unfold gY;rw[if_pos h]
  subst e;go_wp2;go_ret;exact⟨rfl,rfl⟩
 ·have e:c=0:=by rw[←HC.out];unfold gY;rw[if_neg (by omega),if_neg (by omega)]
  subst e;have h1:¬x<y:=by omega
  have h2:¬y<x:=by omega
  clear h;go_wp2;go_ret;exact⟨rfl,rfl⟩
 ·have e:c=1:=by rw[←HC.out];unfold gY;rw[if_neg (by omega),if_pos h]
  subst e;have h1:¬x<y:=by omega
  go_wp2;go_ret;exact⟨rfl,rfl⟩
def orI(x y:Int):Int:=if x≠0 then x else y
theorem MZ(x y:Int)(b:Nat)(w:World)(h0:w.cell? ⟨b,0,none⟩=some (.int .i64 x))(h1:w.cell? ⟨b,1,none⟩=some (.int .i64 y)) :
 Calls Tryz.prog 153 #[.slice (some ⟨b,0,none⟩) 2 2] w fun e w'=>e=.returned (.int .i64 (orI x y))/\w'=w:=by
 obtain⟨c,hc⟩:∃c,orI x y=c:=⟨_,rfl⟩
 have HC:=O hc;rw[hc];have H0:=O h0;have H1:=O h1;clear hc h0 h1;go_in;go_wp2_with fail
 go_loopw [5,8] (fun _ i wr=>wr=w/\(i=.int .i64 0\/(i=.int .i64 1/\x=0)\/(i=.int .i64 2/\x=0/\y=0))) (fun _ i _=>2-(intOf i).toNat)
 case atStart=>exact⟨rfl,.inl rfl⟩
 case round =>
  obtain⟨rfl,rfl|⟨rfl,rfl⟩|⟨rfl,rfl,rfl⟩⟩:=hrel
  ·have c0:=H0.out
   by_cases hx:x=0
   ·subst hx
    go_wp2
    go_roundw
    case rel=>simp
    case measure=>decide
   ·have e:x=c:=by rw[←HC.out];unfold orI;rw[if_pos hx]
    subst e;go_wp2;go_ret;exact⟨rfl,rfl⟩
  ·have c1:=H1.out
   have e:y=c:=by rw[←HC.out];unfold orI;rfl
   subst e
   by_cases hy:y=0
   ·subst hy
    go_wp2
    go_roundw
    case rel=>simp
    case measure=>decide
   ·go_wp2
    go_ret;exact⟨rfl,rfl⟩
  ·have e:c=0:=by rw[←HC.out];rfl
   subst e;go_wp2;go_ret;exact⟨rfl,rfl⟩
theorem G6(a b:Ad)(w:World):Calls Tryz.prog 106 #[adV a,adV b] w fun e w'=>e=.returned (.int .i64 (vF a b))/\Gr w w':=by
 obtain⟨w2,hw2⟩:∃w2,(w.alloc (.cells (aO a).toArray 82)).alloc (.cells (aO b).toArray 82)=w2:=⟨_,rfl⟩
 have hb1:w2.heap[w.heap.size]?=some (.cells (aO a).toArray 82 (0,0)):=by rw[←hw2];exact heap_alloc2_old _ _ _
 have hb2:w2.heap[w.heap.size+1]?=some (.cells (aO b).toArray 82 (0,0)):=by rw[←hw2];exact heap_alloc2_new _ _ _
 have hg:Gr w w2:=by rw[←hw2];exact((Gr.refl _).alloc _).alloc _
 have HC:=O (show vF a b=orI (gY a.1 b.1) (gY a.2 b.2) from rfl);obtain⟨S,hS0⟩:∃S:World->Prop,S=fun w'=>Gr w2 w':=⟨_,rfl⟩
 have HSE:=O (show ∀w',S w'->Gr w w' from fun w' h=>by rw[hS0] at h;exact hg.trans h);have HSG:=O (show ∀w' w'',S w'->Gr w' w''->S w'' from fun w' w'' h k=>by rw[hS0] at h ⊢;exact Gr.trans h k);have HA0:=O (show ∀w',S w'->w'.cell? ⟨w.heap.size,0,none⟩=some (.int .i64 a.1) from fun w' h=>by rw[hS0] at h;exact aC (h.keep.blk hb1 id) rfl);have HA1:=O (show ∀w',S w'->w'.cell? ⟨w.heap.size,1,none⟩=some (.int .i64 a.2) from fun w' h=>by rw[hS0] at h;exact aC (h.keep.blk hb1 id) rfl);have HB0:=O (show ∀w',S w'->w'.cell? ⟨w.heap.size+1,0,none⟩=some (.int .i64 b.1) from fun w' h=>by rw[hS0] at h;exact aC (h.keep.blk hb2 id) rfl);have HB1:=O (show ∀w',S w'->w'.cell? ⟨w.heap.size+1,1,none⟩=some (.int .i64 b.2) from fun w' h=>by rw[hS0] at h;exact aC (h.keep.blk hb2 id) rfl);have hS2:S w2:=by rw[hS0];exact Gr.refl _
 have CC:=O EC;clear hS0 hb1 hb2 hg;unfold adV;go_in;go_wp2_with fail;clear hw2;have hS:S w2.drew:=HSG.out _ _ hS2 ((Gr.refl _).drewN 1);clear hS2;refine wp_region_held (S:=S) (by kernel_rfl) ?_;change wpAnyH _ _ _ _ _ _ _ _ w2.drew;generalize w2.drew=w3 at *;refine tka 0 (.pointer (some ⟨w.heap.size,0,none⟩)) rfl hS ?_;simp only[Act.put,List.setIfInBounds_toArray,List.set_cons_zero,List.set_cons_succ,List.getElem_toArray,List.getElem_cons_zero];refine tnd 1 (.int .i64 a.1) rfl (.inl ⟨by rfl,fun w' hw'=>by have c:=HA0.out w' hw';go_simp⟩) hS ?_;refine tna 2 (.pointer (some ⟨w.heap.size+1,0,none⟩)) rfl hS ?_;refine tnd 3 (.int .i64 b.1) rfl (.inl ⟨by rfl,fun w' hw'=>by have c:=HB0.out w' hw';go_simp⟩) hS ?_;refine tna 5 (.pointer (some ⟨w.heap.size,1,none⟩)) rfl hS ?_;refine tnd 6 (.int .i64 a.2) rfl (.inl ⟨by rfl,fun w' hw'=>by have c:=HA1.out w' hw';go_simp⟩) hS ?_;refine tna 7 (.pointer (some ⟨w.heap.size+1,1,none⟩)) rfl hS ?_;refine tnd 8 (.int .i64 b.2) rfl (.inl ⟨by rfl,fun w' hw'=>by have c:=HB1.out w' hw';go_simp⟩) hS ?_;refine wA9 4 ?_;go_wp2_with fail;refine(CC.out _ _ _).mono ?_;rintro e w4 ⟨rfl,rfl⟩;go_wp2_with fail;refine⟨hS,?_⟩;refine wA9 9 ?_;go_wp2_with fail;refine(CC.out _ _ _).mono ?_;rintro e w5 ⟨rfl,rfl⟩;go_wp2_with fail;refine⟨hS,?_⟩;refine wA9 10 ?_;go_wp2_with fail
 obtain⟨w6,hw6,c0,c1,hS6⟩:∃w6,w5.alloc (.cells #[.int .i64 (gY a.1 b.1),.int .i64 (gY a.2 b.2)] 3)=w6/\w6.cell? ⟨w5.heap.size,0,none⟩=some (.int .i64 (gY a.1 b.1))/\w6.cell? ⟨w5.heap.size,1,none⟩=some (.int .i64 (gY a.2 b.2))/\S w6:=
  ⟨_,rfl,aC (heap_alloc_new _ _) rfl,aC (heap_alloc_new _ _) rfl,HSG.out _ _ hS ((Gr.refl _).alloc _)⟩
 rw[hw6];have CO:=O (MZ _ _ _ _ c0 c1);clear hw6 c0 c1 hS;refine⟨hS6,?_⟩;refine wA9 11 ?_;go_wp2_with fail;refine CO.out.mono ?_;rintro e w7 ⟨rfl,rfl⟩;rw[←HC.out];go_wp2_with fail;refine⟨hS6,?_⟩;refine tna 12 (.int .i64 (vF a b)) rfl hS6 ?_;refine wpAnyH_done (by kernel_rfl) ?_ _;have HG:=O (HSE.out _ hS6);clear hS6 CO;go_wp2;go_ret;exact⟨rfl,HG.out⟩
end
section
open Go.RowKit Go.Maps Go.ChangeMaps
theorem EH:(Tryz.prog.info? 3).map (fun i=>(i.zero,i.size,i.bytes))=some (some (.int .i64 0),1,8):=by kernel_rfl
def NU(w:World)(l:List Int)(e:Ending)(w':World):Prop:=∃v,e=.returned v/\w'.ownsRow w.heap.size 3 1 v l.length (l.map fun x=>.int .i64 x)/\aA aB w w'
theorem Cr(l:List Int):∀u∈l.map (fun x=>Value.int .i64 x),u.oneCell'=true:=fun u hu=>by obtain⟨x,-,rfl⟩:=List.mem_map.1 hu;rfl
section
variable {α β:Type}{P:Program}{k:TypeId}{ok:α->Prop}{enc:α->Value}{ev:β->Value}{w:World}{b:Nat}{l:List (α×β)}
variable {ops:Array Oper}{rest:List Oper}{o:Oper}{a:Act}{Q:Exit->Act->World->Prop}
theorem zI(hg:o.guard=none)(m:Operand)(t:TypeId)(hop:o.op=Op.range t m){k e:TypeId}(ht:P.underlying t=some (.map k e))(hm:a.eval m=.map (some b))(h:cN ok enc ev w b l)
 (hK:∀w',dK ok enc ev w' b w.heap.size l l->aA aB w w'->w'.heap.size=w.heap.size+1->wpList P ops Q rest (a.put o.dst (.pointer (some ⟨w.heap.size,0,none⟩))) w'):wpList P ops Q (o::rest) a w:=by
 refine wpList_plain hg fun K' hK'=>?_
 obtain⟨w',hrun,r1,r2,r3⟩:=h.range ht;unfold Oper.wp;simp[execOp,hop,hm,hrun,Result.andThen];exact hK' _ _ (hK w' r1 r2 r3)
theorem AC(hg:o.guard=none)(it:Operand)(hop:o.op=Op.next it false){r:Nat}{left:List (α×β)}(hit:a.eval it=.pointer (some ⟨r,0,none⟩))(h:dK ok enc ev w b r l left)
 (hDone:left=[]->wpList P ops Q rest (a.put o.dst (.tuple #[.bool false])) w)
 (hMore:∀i x v w',left[i]?=some (x,v)->ok x->dK ok enc ev w' b r l (left.eraseIdx i)->aA (fun k=>k=r) w w'->w'.heap.size=w.heap.size->rB enc ev w' b r x v->wpList P ops Q rest (a.put o.dst (.tuple #[.bool true,enc x,ev v])) w'):wpList P ops Q (o::rest) a w:=by
 refine wpList_plain hg fun K' hK'=>?_
 unfold Oper.wp;rcases h.next (P:=P) o.type with⟨h0,hrun⟩|⟨i,x,v,w',h1,h2,hrun,h3,h4,h5,h6⟩
 ·simp[execOp,hop,hit,hrun,Result.andThen]
  exact hK' _ _ (hDone h0)
 ·simp[execOp,hop,hit,hrun,Result.andThen]
  exact hK' _ _ (hMore i x v w' h1 h2 h3 h4 h5 h6)
theorem zJ(hg:o.guard=none)(it:Operand)(hop:o.op=Op.entry it){r:Nat}{x:α}{v:β}(hit:a.eval it=.pointer (some ⟨r,0,none⟩))(h:rB enc ev w b r x v)
 (hK:wpList P ops Q rest (a.put o.dst (.tuple #[enc x,ev v])) w):wpList P ops Q (o::rest) a w:=by
 refine wpList_plain hg fun K' hK'=>?_
 unfold Oper.wp;simp[execOp,hop,hit,h P,Result.andThen];exact hK' _ _ hK
end
end
end Go.Proofs.YtiinnfhjpaeffaaGreat
