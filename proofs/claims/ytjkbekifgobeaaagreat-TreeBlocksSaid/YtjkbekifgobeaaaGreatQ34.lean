/- A part of the proof. Conditions: those told. -/
import Derived.Test.YtjkbekifgobeaaaGreatQ1
import Derived.Test.YtjkbekifgobeaaaGreatQ5
import Derived.Test.YtjkbekifgobeaaaGreatRows
import Derived.ProofKit
import Derived.OpenShut
import Derived.ShutString
import Derived.ChangeOld
import Derived.Below
import Derived.Lib.SmallJoins
import Derived.Deep.Slices
namespace Go.Proofs.YtjkbekifgobeaaaGreat
set_option maxHeartbeats 64000000
set_option maxRecDepth 100000
set_option linter.unusedVariables false
section
open Go.ChangeShapes Go.WideShapes Go.ChangeAt Go.RowKit
theorem FJ{w:World}{a:Addr}{v:Value}(h:w.cell? a=some v):∃g o,a=⟨g,o,none⟩:=by
 have hs:=World.cell?_spot h;obtain⟨g,o,via⟩:=a;cases via with
 | none=>exact⟨g,o,rfl⟩
 | some x=>cases hs
section
variable {H:Type}{enc:TypeId×Value->H}{w:World}{base:Nat}{spare:Nat->Bool}{held:Bool}{fuel:Nat}
theorem mJ{α:Type}{f:α->List Value}{k:Nat}:∀{l:List α},(∀y∈l,(f y).length=k)->∀(i:Nat){y:α},l[i]?=some y->∀j,j<k->(l.flatMap f)[i*k+j]?=(f y)[j]?
 | [],_,i,y,h,_,_=>by simp at h
 | x::l,hk,0,y,h,j,hj=>by
   simp only[List.getElem?_cons_zero,Option.some.injEq] at h;subst h;rw[List.flatMap_cons,Nat.zero_mul,Nat.zero_add,List.getElem?_append_left (by rw[hk x (by simp)];exact hj)]
 | x::l,hk,i+1,y,h,j,hj=>by
   have h1:=hk x (by simp);have ih:=mJ (l:=l) (fun z hz=>hk z (by simp[hz])) i (y:=y) (by simpa using h) j hj;rw[List.flatMap_cons,List.getElem?_append_right (by rw[h1,Nat.succ_mul];omega),h1,Nat.succ_mul,show i*k+k+j-k=i*k+j by omega,ih]
theorem qC{α:Type}{f:α->List Value}{k:Nat}:∀{l:List α},(∀y∈l,(f y).length=k)->(l.flatMap f).length=l.length*k
 | [],_=>by simp
 | x::l,h=>by rw[List.flatMap_cons,List.length_append,h x (by simp),qC (l:=l) fun y hy=>h y (by simp[hy]),List.length_cons,Nat.succ_mul];omega
theorem C6{α:Type}{f:α->List Value}{ok:α->Prop}{t e:TypeId}{k:Nat}(ht:Tryz.prog.underlying t=some (.slice e))(hc:Tryz.prog.cellsOf e=k)(h0:0<k)(hf:∀y,ok y->(f y).length=k)
 (hel:∀(n:Nat) (cs:List Value) (x:DataW H×List MemPlace),DataW.trod enc Tryz.prog w base spare held n e cs=some x->∃y,ok y/\cs=f y)
 {a:Option Addr}{len cap:Nat}{x:DataW H×List MemPlace}(h:DataW.trod enc Tryz.prog w base spare held fuel t [.slice a len cap]=some x) :
 ∃l:List α,l.length=len/\(∀y∈l,ok y)/\Rd w k (.slice a len cap) len (l.flatMap f):=by
 rcases Go.Deep.open_slice ht h with⟨hcs,_⟩|⟨y,ln,c,m,n,D,Pl,hcs,_,hl,hm,hmm,_,hx⟩
 ·cases hcs
  exact⟨[],rfl,(fun y hy=>by cases hy),by simp,none,0,rfl,Nat.le_refl _,by unfold maxLen;omega,fun _=>rfl,fun hp=>by simp at hp⟩
 ·cases hcs
  have hle:len≤m:=by rw[hmm];split<;>omega
  have hg:∀i,i<len->∃z:α,ok z/\∀j,j<k->w.cell? ((y.add (i*k)).add j)=(f z)[j]?:=fun i hi=>by
   obtain⟨cs',h1,h2⟩:=hx i (by omega);rw[hc] at h1;obtain⟨z,hz,rfl⟩:=hel _ _ _ h2;exact⟨z,hz,(World.cells?_some h1).2.2⟩
  refine⟨(List.range len).pmap (fun i hi=>(hg i hi).choose) (fun i hi=>List.mem_range.1 hi),by simp,?_,?_⟩
  ·intro z hz
   obtain⟨i,hi,rfl⟩:=List.mem_pmap.1 hz;exact(hg i (List.mem_range.1 hi)).choose_spec.1
  ·have hok:∀z∈(List.range len).pmap (fun i hi=>(hg i hi).choose) (fun i hi=>List.mem_range.1 hi),(f z).length=k:=fun z hz=>by
    obtain⟨i,hi,rfl⟩:=List.mem_pmap.1 hz;exact hf _ (hg i (List.mem_range.1 hi)).choose_spec.1
   refine⟨by rw[qC hok];simp,some y,cap,rfl,hl,hm,(by intro h;cases h),fun hp=>?_⟩
   have hlen:0<len:=by
    rcases Nat.eq_zero_or_pos len with h|h
    ·subst h;simp at hp
    ·exact h
   obtain⟨z0,hz0,hc0⟩:=hg 0 hlen;have h00:=hc0 0 h0;rw[List.getElem?_eq_getElem (by rw[hf z0 hz0];exact h0)] at h00;have h00':w.cell? y=some ((f z0)[0]'(by rw[hf z0 hz0];exact h0)):=by simpa [Addr.add] using h00
   obtain⟨g,o,rfl⟩:=FJ h00';refine⟨g,o,rfl,fun i u hu=>?_⟩;have hi:i<len*k:=by have:=(List.getElem?_eq_some_iff.1 hu).1;rw[qC hok] at this;simpa using this
   have hd:i / k<len:=(Nat.div_lt_iff_lt_mul h0).2 hi;have hmd:i % k<k:=Nat.mod_lt _ h0;have he:i=i / k*k+i % k:=by rw[Nat.mul_comm];exact(Nat.div_add_mod i k).symm
   have hy:((List.range len).pmap (fun i hi=>(hg i hi).choose) (fun i hi=>List.mem_range.1 hi))[i / k]?=some (hg (i / k) hd).choose:=by
    rw[List.getElem?_pmap];simp[hd]
   have h1:=mJ hok (i / k) hy (i % k) hmd;rw[←he,hu] at h1;have h2:=(hg (i / k) hd).choose_spec.2 (i % k) hmd;rw[←h1,iT,iT,Nat.add_assoc,←he] at h2;exact h2
end
end
end Go.Proofs.YtjkbekifgobeaaaGreat
