import Derived.Test.YtiinnfhjpaeffaaGreatA1
import Derived.Test.YtiinnfhjpaeffaaGreatA17
import Derived.Test.YtiinnfhjpaeffaaGreatRows
import Derived.ProofKit
import Derived.OpenShut
import Derived.ShutString
import Derived.ChangeOld
import Derived.Below
import Derived.Lib.SmallJoins
import Derived.Deep.Slices
namespace Go.Proofs.YtiinnfhjpaeffaaGreat
set_option maxHeartbeats 64000000
set_option maxRecDepth 100000
set_option linter.unusedVariables false
section
open Go.ChangeShapes Go.WideShapes Go.ChangeAt Go.RowKit
theorem Hl{w:World}{a:Addr}{v:Value}(h:w.cell? a=some v):∃g o,a=⟨g,o,none⟩:=by
 have c:=World.cell?_spot h;obtain⟨g,o,b⟩:=a;cases b with
 | none=>exact⟨g,o,rfl⟩
 | some x=>cases c
section
variable {H:Type}{enc:TypeId×Value->H}{w:World}{base:Nat}{spare:Nat->Bool}{held:Bool}{fuel:Nat}
variable{k:Nat}
theorem xB{α:Type}{f:α->List Value}:∀{l:List α},(∀y∈l,(f y).length=k)->∀(i:Nat){y:α},l[i]?=some y->∀j,j<k->(l.flatMap f)[i*k+j]?=(f y)[j]?
 | [],_,i,y,h,_,_=>by simp at h
 | x::l,a,0,y,h,j,b=>by
   simp only[List.getElem?_cons_zero,Option.some.injEq] at h;subst h;rw[List.flatMap_cons,Nat.zero_mul,Nat.zero_add,List.getElem?_append_left (by rw[a x (by simp)];exact b)]
 | x::l,a,i+1,y,h,j,b=>by
   have c:=a x (by simp);have e:=xB (l:=l) (fun z d=>a z (by simp[d])) i (y:=y) (by simpa using h) j b;rw[List.flatMap_cons,List.getElem?_append_right (by rw[c,Nat.succ_mul];omega),c,Nat.succ_mul,show i*k+k+j-k=i*k+j by omega,e]
theorem rH{α:Type}{f:α->List Value}:∀{l:List α},(∀y∈l,(f y).length=k)->(l.flatMap f).length=l.length*k
 | [],_=>by simp
 | x::l,h=>by rw[List.flatMap_cons,List.length_append,h x (by simp),rH (l:=l) fun y a=>h y (by simp[a]),List.length_cons,Nat.succ_mul];omega
theorem vO{α:Type}{f:α->List Value}{ok:α->Prop}{t e:TypeId}(X:Tryz.prog.underlying t=some (.slice e))(T:Tryz.prog.cellsOf e=k)(h0:0<k)(K:∀y,ok y->(f y).length=k)
 (J:∀(n:Nat) (cs:List Value) (x:DataW H×List MemPlace),DataW.trod enc Tryz.prog w base spare held n e cs=some x->∃y,ok y/\cs=f y)
 {a:Option Addr}{len cap:Nat}{x:DataW H×List MemPlace}(h:DataW.trod enc Tryz.prog w base spare held fuel t [.slice a len cap]=some x) :
 ∃l:List α,l.length=len/\(∀y∈l,ok y)/\Rd w k (.slice a len cap) len (l.flatMap f):=by
 rcases Go.Deep.open_slice X h with⟨p,_⟩|⟨y,ln,c,m,n,D,Z,p,_,U,W,L,_,Y⟩
 ·cases p
  exact⟨[],rfl,(fun y N=>by cases N),by simp,none,0,rfl,Nat.le_refl _,by unfold maxLen;omega,fun _=>rfl,fun M=>by simp at M⟩
 ·cases p
  have V:len≤m:=by rw[L];split<;>omega
  have d:∀i,i<len->∃z:α,ok z/\∀j,j<k->w.cell? ((y.add (i*k)).add j)=(f z)[j]?:=fun i b=>by
   obtain⟨S,v,F⟩:=Y i (by omega);rw[T] at v;obtain⟨z,C,rfl⟩:=J _ _ _ F;exact⟨z,C,(World.cells?_some v).2.2⟩
  refine⟨(List.range len).pmap (fun i b=>(d i b).choose) (fun i b=>List.mem_range.1 b),by simp,?_,?_⟩
  ·intro z C
   obtain⟨i,b,rfl⟩:=List.mem_pmap.1 C;exact(d i (List.mem_range.1 b)).choose_spec.1
  ·have q:∀z∈(List.range len).pmap (fun i b=>(d i b).choose) (fun i b=>List.mem_range.1 b),(f z).length=k:=fun z C=>by
    obtain⟨i,b,rfl⟩:=List.mem_pmap.1 C;exact K _ (d i (List.mem_range.1 b)).choose_spec.1
   refine⟨by rw[rH q];simp,some y,cap,rfl,U,W,(by intro h;cases h),fun M=>?_⟩
   have A:0<len:=by
    rcases Nat.eq_zero_or_pos len with h|h
    ·subst h;simp at M
    ·exact h
   obtain⟨P,E,G⟩:=d 0 A;have r:=G 0 h0;rw[List.getElem?_eq_getElem (by rw[K P E];exact h0)] at r;have s:w.cell? y=some ((f P)[0]'(by rw[K P E];exact h0)):=by simpa [Addr.add] using r
   obtain⟨g,o,rfl⟩:=Hl s;refine⟨g,o,rfl,fun i u R=>?_⟩;have b:i<len*k:=by have:=(List.getElem?_eq_some_iff.1 R).1;rw[rH q] at this;simpa using this
   have I:i / k<len:=(Nat.div_lt_iff_lt_mul h0).2 b;have B:i % k<k:=Nat.mod_lt _ h0;have Q:i=i / k*k+i % k:=by rw[Nat.mul_comm];exact(Nat.div_add_mod i k).symm
   have N:((List.range len).pmap (fun i b=>(d i b).choose) (fun i b=>List.mem_range.1 b))[i / k]?=some (d (i / k) I).choose:=by
    rw[List.getElem?_pmap];simp[I]
   have v:=xB q (i / k) N (i % k) B;rw[←Q,R] at v;have F:=(d (i / k) I).choose_spec.2 (i % k) B;rw[←v,iD,iD,Nat.add_assoc,←Q] at F;exact F
end
open Go.ChangeShapes Go.WideShapes Go.ChangeAt Go.RowKit
set_option maxRecDepth 100000
set_option linter.unusedVariables false
theorem own:ownKnob Tryz.prog.godebug=none:=by kernel_rfl
theorem Nn:laidOutB Tryz.prog=true:=by kernel_rfl
theorem No:Tryz.prog.cellsOf 5=1:=by kernel_rfl
theorem Ed:Tryz.prog.cellsOf 3=1:=by kernel_rfl
theorem FC:Tryz.prog.cellsOf 25=32:=by kernel_rfl
theorem FD:Tryz.prog.cellsOf 82=2:=by kernel_rfl
theorem Np:Tryz.prog.cellsOf 23=1:=by kernel_rfl
theorem FE:Tryz.prog.cellsOf 27=35:=by kernel_rfl
theorem tJ : (Tryz.prog.fieldsOf 27).toList.map (fun f => (f.name, f.type, f.offset)) = [("Addrs", 23, 0), ("Birth", 3, 1), ("Level", 3, 2), ("Sum", 25, 3)] := by kernel_rfl
section
variable {H:Type}{enc:TypeId×Value->H}{w:World}{base:Nat}{spare:Nat->Bool}{held:Bool}{fuel:Nat}
variable{cs:List Value}{x:DataW H×List MemPlace}{o:Nat}
theorem Ee(h:DataW.trod enc Tryz.prog w base spare held fuel 5 cs=some x):∃b:UInt8,cs=[vb b]:=by
 obtain⟨a,c,rfl,d⟩:=DataW.trod_int Tryz.underlying5 h;have e:=bounds_u8 d;refine⟨UInt8.ofNat a.toNat,?_⟩;rw[c];unfold vb;simp;omega
theorem Ho(h:DataW.trod enc Tryz.prog w base spare held fuel 25 cs=some x):∃l:List UInt8,l.length=32/\cs=l.map vb:=by
 obtain⟨e,m,-,-,g,n,f⟩:=DataW.trod_array Tryz.underlying25 h;rw[FC] at g
 have a:∀i,i<32->∃b:UInt8,cs[i]?=some (vb b):=by
  intro i c;have d:=f i c;rw[No,Nat.mul_one] at d;obtain⟨y,j⟩:∃y,e[i]?=some y:=⟨e[i]'(by omega),List.getElem?_eq_getElem _⟩
  rw[j] at d;obtain⟨b,a⟩:=Ee d;refine⟨b,?_⟩;have:((cs.drop i).take 1)[0]?=some (vb b):=by rw[a];rfl
  rw[List.getElem?_take,if_pos (by omega),List.getElem?_drop] at this
  simpa using this
 refine⟨(List.range 32).map fun i=>if h:i<32 then (a i h).choose else 0,by simp,?_⟩;apply List.ext_getElem?;intro i
 by_cases c:i<32
 ·rw[(a i c).choose_spec]
  simp[c]
 ·rw[List.getElem?_eq_none (by omega),List.getElem?_eq_none (by simp;omega)]
theorem nL(h:DataW.trod enc Tryz.prog w base spare held fuel 3 cs=some x):∃a:Int,Aq a/\cs=[.int .i64 a]:=by
 obtain⟨a,b,-,c⟩:=DataW.trod_int Tryz.underlying3 h;exact⟨a,bounds_i64 c,b⟩
theorem Hp(h:DataW.trod enc Tryz.prog w base spare held fuel 82 cs=some x):∃a:Ad,eL a/\cs=aM a:=by
 obtain⟨D,m,-,-,u,A,v⟩:=DataW.trod_struct bB h;rw[FD] at u
 have c : ∀ (i : Nat) (n : String) (t : TypeId) (o : Nat), (Tryz.prog.fieldsOf 82).toList.map (fun f => (f.name, f.type, f.offset)) = [("Dev", 3, 0), ("At", 3, 1)] →
  ([("Dev", 3, 0), ("At", 3, 1)] : List (String × TypeId × Nat))[i]? = some (n, t, o) → ∃ y, DataW.trod enc Tryz.prog w base spare held m t ((cs.drop o).take (Tryz.prog.cellsOf t)) = some y := by
  intro i n t o j r;rw[←j,List.getElem?_map] at r;obtain⟨f,d,l⟩:=Option.map_eq_some_iff.1 r;have s:=v i f (by simpa using d);cases l
  have z:i<D.length:=by
   have:=(List.getElem?_eq_some_iff.1 d).1;rw[A];simpa using this
  rw[List.getElem?_eq_getElem z] at s;exact⟨_,s⟩
 obtain⟨_,h0⟩:=c 0 _ _ _ xF rfl;obtain⟨_,j⟩:=c 1 _ _ _ xF rfl;obtain⟨a,B,e⟩:=nL h0;obtain⟨b,C,g⟩:=nL j;rw[Ed] at e g;refine⟨⟨a,b⟩,⟨B,C⟩,?_⟩
 obtain⟨p,q,rfl⟩:∃p q,cs=[p,q]:=by
  match cs,u with
  | [p,q],_=>exact⟨p,q,rfl⟩
 simp at e g;rw[e,g];rfl
theorem EV{a:Option Addr}{len cap:Nat}(h:DataW.trod enc Tryz.prog w base spare held fuel 23 [.slice a len cap]=some x) :
 ∃l:List Ad,l.length=len/\iA l/\Rd w 2 (.slice a len cap) len (aF l):=
 vO (f:=aM) Tryz.underlying23 FD (by decide) (fun y c=>rfl) (fun n cs x b=>Hp b) h
theorem EW(h:DataW.trod enc Tryz.prog w base spare held fuel 23 cs=some x):∃v l,cs=[v]/\iA l/\Rd w 2 v (List.length l) (aF l):=by
 rcases Go.Deep.open_slice Tryz.underlying23 h with⟨a,_⟩|⟨y,i,c,m,j,D,g,a,_⟩
 ·exact⟨_,[],a,fun x f=>(by cases f),Rd.nil _ _⟩
 ·subst a
  obtain⟨l,b,d,e⟩:=EV h;exact⟨_,l,rfl,d,by rw[b];exact e⟩
theorem AV{a:Value}(h:(cs.drop o).take 1=[a]):cs[o]?=some a:=by
 have:((cs.drop o).take 1)[0]?=some a:=by rw[h];rfl
 rw[List.getElem?_take,if_pos (by omega),List.getElem?_drop] at this
 simpa using this
theorem LQ{l:List Value}{k i:Nat}(h:(cs.drop o).take k=l)(a:i<k):cs[o+i]?=l[i]?:=by
 rw[←h,List.getElem?_take,if_pos a,List.getElem?_drop]
theorem Hq(h:DataW.trod enc Tryz.prog w base spare held fuel 27 cs=some x):∃v p,cs=aE v p/\PtV w v p:=by
 obtain⟨L,m,-,-,J,K,G⟩:=DataW.trod_struct aH h;rw[FE] at J
 have c : ∀ (i : Nat) (n : String) (t : TypeId) (o : Nat), (Tryz.prog.fieldsOf 27).toList.map (fun f => (f.name, f.type, f.offset)) = [("Addrs", 23, 0), ("Birth", 3, 1), ("Level", 3, 2), ("Sum", 25, 3)] →
  ([("Addrs", 23, 0), ("Birth", 3, 1), ("Level", 3, 2), ("Sum", 25, 3)] : List (String × TypeId × Nat))[i]? = some (n, t, o) → ∃ y, DataW.trod enc Tryz.prog w base spare held m t ((cs.drop o).take (Tryz.prog.cellsOf t)) = some y := by
  intro i n t o q e;rw[←q,List.getElem?_map] at e;obtain⟨f,d,u⟩:=Option.map_eq_some_iff.1 e;have g:=G i f (by simpa using d);cases u
  have I:i<L.length:=by
   have:=(List.getElem?_eq_some_iff.1 d).1;rw[K];simpa using this
  rw[List.getElem?_eq_getElem I] at g;exact⟨_,g⟩
 obtain⟨_,h0⟩:=c 0 _ _ _ tJ rfl;obtain⟨_,q⟩:=c 1 _ _ _ tJ rfl;obtain⟨_,e⟩:=c 2 _ _ _ tJ rfl;obtain⟨_,g⟩:=c 3 _ _ _ tJ rfl;obtain⟨v,l,C,lo,rv⟩:=EW h0;obtain⟨a,M,z⟩:=nL q;obtain⟨b,N,A⟩:=nL e;obtain⟨s,D,B⟩:=Ho g;rw[Np] at C;rw[Ed] at z A;rw[FC] at B;refine⟨v,⟨l,a,b,s⟩,?_,⟨rv,lo,D⟩⟩;apply List.ext_getElem?;intro i;show cs[i]?=(v::.int .i64 a::.int .i64 b::s.map vb)[i]?;have F:i=0\/i=1\/i=2\/(3≤i/\i<35)\/35≤i:=by omega
 rcases F with rfl|rfl|rfl|⟨E,r⟩|r
 ·exact AV C
 ·exact AV z
 ·exact AV A
 ·obtain⟨j,rfl⟩:∃j,i=3+j:=⟨i-3,by omega⟩
  rw[LQ B (by omega),show 3+j=j+1+1+1 by omega,List.getElem?_cons_succ,List.getElem?_cons_succ,List.getElem?_cons_succ]
 ·rw[List.getElem?_eq_none (by omega),List.getElem?_eq_none (by simp[D];omega)]
end
end
end Go.Proofs.YtiinnfhjpaeffaaGreat
