import Derived.Test.YtoeinblfcbpcmaaGreatR5
import Derived.Test.YtoeinblfcbpcmaaGreatRows
import Derived.ProofKit
import Derived.OpenShut
import Derived.ShutString
import Derived.ChangeOld
import Derived.Below
import Derived.Lib.SmallJoins
import Derived.Deep.Slices
namespace Go.Proofs.YtoeinblfcbpcmaaGreat
open Go.Proofs.Tryz
set_option maxHeartbeats 0
set_option maxRecDepth 100000
set_option linter.unusedVariables false
section
open Go.ChangeShapes Go.WideShapes Go.ChangeAt Go.RowKit
theorem Jy{w:World}{a:Addr}{v:Value}(h:w.cell? a=some v):∃g o,a=⟨g,o,none⟩:=by
 have c:=World.cell?_spot h;obtain⟨g,o,b⟩:=a;cases b with
 | none=>exact⟨g,o,rfl⟩
 | some x=>cases c
section
variable {H:Type}{enc:TypeId×Value->H}{w:World}{base:Nat}{spare:Nat->Bool}{held:Bool}{xT:Nat}
variable{k:Nat}
theorem sX{α:Type}{f:α->List Value}:∀{l:List α},(∀y∈l,(f y).length=k)->∀(i:Nat){y:α},l[i]?=some y->∀j,j<k->(l.flatMap f)[i*k+j]?=(f y)[j]?
 | [],_,i,y,h,_,_=>by simp at h
 | x::l,a,0,y,h,j,b=>by
   simp only[List.getElem?_cons_zero,Option.some.injEq] at h;subst h;rw[List.flatMap_cons,Nat.zero_mul,Nat.zero_add,List.getElem?_append_left (by rw[a x (by simp)];exact b)]
 | x::l,a,i+1,y,h,j,b=>by
   have c:=a x (by simp);have e:=sX (l:=l) (fun z d=>a z (by simp[d])) i (y:=y) (by simpa using h) j b;rw[List.flatMap_cons,List.getElem?_append_right (by rw[c,Nat.succ_mul];omega),c,Nat.succ_mul,show i*k+k+j-k=i*k+j by omega,e]
theorem sY{α:Type}{f:α->List Value}:∀{l:List α},(∀y∈l,(f y).length=k)->(l.flatMap f).length=l.length*k
 | [],_=>by simp
 | x::l,h=>by rw[List.flatMap_cons,List.length_append,h x (by simp),sY (l:=l) fun y a=>h y (by simp[a]),List.length_cons,Nat.succ_mul];omega
theorem FK{α:Type}{f:α->List Value}{ok:α->Prop}{t e:TypeId}(Z:prog.underlying t=some (.slice e))(V:prog.cellsOf e=k)(h0:0<k)(L:∀y,ok y->(f y).length=k)
 (K:∀(n:Nat) (R:List Value) (x:DataW H×List MemPlace),DataW.trod enc prog w base spare held n e R=some x->∃y,ok y/\R=f y)
 {a:Option Addr}{len p:Nat}{x:DataW H×List MemPlace}(h:DataW.trod enc prog w base spare held xT t [.slice a len p]=some x) :
 ∃l:List α,l.length=len/\(∀y∈l,ok y)/\Rd w k (.slice a len p) len (l.flatMap f):=by
 rcases Go.Deep.open_slice Z h with⟨q,_⟩|⟨y,ln,c,m,n,D,Pl,q,_,W,Y,M,_,hx⟩
 ·cases q
  exact⟨[],rfl,(fun y P=>by cases P),by simp,none,0,rfl,Nat.le_refl _,by unfold maxLen;omega,fun _=>rfl,fun N=>by simp at N⟩
 ·cases q
  have X:len≤m:=by rw[M];split<;>omega
  have d:∀i,i<len->∃z:α,ok z/\∀j,j<k->w.cell? ((y.add (i*k)).add j)=(f z)[j]?:=fun i b=>by
   obtain⟨U,A,G⟩:=hx i (by omega);rw[V] at A;obtain⟨z,E,rfl⟩:=K _ _ _ G;exact⟨z,E,(World.cells?_some A).2.2⟩
  refine⟨(List.range len).pmap (fun i b=>(d i b).choose) (fun i b=>List.mem_range.1 b),by simp,?_,?_⟩
  ·intro z E
   obtain⟨i,b,rfl⟩:=List.mem_pmap.1 E;exact(d i (List.mem_range.1 b)).choose_spec.1
  ·have r:∀z∈(List.range len).pmap (fun i b=>(d i b).choose) (fun i b=>List.mem_range.1 b),(f z).length=k:=fun z E=>by
    obtain⟨i,b,rfl⟩:=List.mem_pmap.1 E;exact L _ (d i (List.mem_range.1 b)).choose_spec.1
   refine⟨by rw[sY r];simp,some y,p,rfl,W,Y,(by intro h;cases h),fun N=>?_⟩
   have B:0<len:=by
    rcases Nat.eq_zero_or_pos len with h|h
    ·subst h;simp at N
    ·exact h
   obtain⟨Q,F,I⟩:=d 0 B;have s:=I 0 h0;rw[List.getElem?_eq_getElem (by rw[L Q F];exact h0)] at s;have v:w.cell? y=some ((f Q)[0]'(by rw[L Q F];exact h0)):=by simpa [Addr.add] using s
   obtain⟨g,o,rfl⟩:=Jy v;refine⟨g,o,rfl,fun i u T=>?_⟩;have b:i<len*k:=by have:=(List.getElem?_eq_some_iff.1 T).1;rw[sY r] at this;simpa using this
   have J:i / k<len:=(Nat.div_lt_iff_lt_mul h0).2 b;have C:i % k<k:=Nat.mod_lt _ h0;have S:i=i / k*k+i % k:=by rw[Nat.mul_comm];exact(Nat.div_add_mod i k).symm
   have P:((List.range len).pmap (fun i b=>(d i b).choose) (fun i b=>List.mem_range.1 b))[i / k]?=some (d (i / k) J).choose:=by
    rw[List.getElem?_pmap];simp[J]
   have A:=sX r (i / k) P (i % k) C;rw[←S,T] at A;have G:=(d (i / k) J).choose_spec.2 (i % k) C;rw[←A,jL,jL,Nat.add_assoc,←S] at G;exact G
end
end
end Go.Proofs.YtoeinblfcbpcmaaGreat
