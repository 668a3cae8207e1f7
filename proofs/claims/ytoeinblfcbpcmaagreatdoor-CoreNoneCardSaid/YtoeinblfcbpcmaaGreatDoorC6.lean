import Derived.Test.YtoeinblfcbpcmaaGreatDoorC5
import Derived.Test.YtoeinblfcbpcmaaGreatDoorRows
import Derived.ProofKit
import Derived.OpenShut
import Derived.ShutString
import Derived.ChangeOld
import Derived.Below
import Derived.Lib.SmallJoins
import Derived.Deep.Slices
namespace Go.Proofs.YtoeinblfcbpcmaaGreatDoor
open Go.Proofs.Tryz Go.Proofs.YtoeinblfcbpcmaaGreatDoor.Tryz
set_option maxHeartbeats 0
set_option maxRecDepth 100000
set_option linter.unusedVariables false
section
open Go.ChangeShapes Go.WideShapes Go.ChangeAt Go.RowKit
theorem Cc:laidOutB prog=true:=by kernel_rfl
section
variable {H:Type}{enc:TypeId×Value->H}{w:World}{base:Nat}{spare:Nat->Bool}{held:Bool}{xT:Nat}
theorem DI{a:Option Addr}{len e:Nat}{x:DataW H×List MemPlace}(h:DataW.trod enc prog w base spare held xT 22 [.slice a len e]=some x) :
 ∃b:List UInt8,b.length=len/\Rd w 1 (.slice a len e) len (b.map vb):=by
 rcases open_ints underlying22 underlying5 (by kernel_rfl) h with⟨j,_⟩|⟨y,l,c,p,j,_,t,z,A,_,f,r⟩
 ·cases j
  exact⟨[],rfl,by simp,none,0,rfl,Nat.le_refl _,by unfold maxLen;omega,fun _=>rfl,fun k=>by simp at k⟩
 ·cases j
  have v:len≤p.length:=by rw[A];split<;>omega
  have d:((p.take len).map fun n=>UInt8.ofNat n.toNat).map vb=(p.take len).map (Value.int .u8):=by
   rw[List.map_map];apply List.map_congr_left;intro n q;have B:=bounds_u8 (r n (List.mem_of_mem_take q));show vb (UInt8.ofNat n.toNat)=_;unfold vb;simp;omega
  refine⟨(p.take len).map fun n=>UInt8.ofNat n.toNat,by rw[List.length_map,List.length_take];omega,by rw[d];simp;omega,some y,e,rfl,t,z,(by intro h;cases h),fun k=>?_⟩;rw[d] at k ⊢;simp only[List.length_map,List.length_take] at k;obtain⟨g,o,rfl,s⟩:=ints_at f (by omega);refine⟨g,o,rfl,fun i u m=>?_⟩;rw[List.getElem?_map,List.getElem?_take] at m;split at m
  ·rename_i C
   obtain⟨n,q,rfl⟩:=Option.map_eq_some_iff.1 m;have:=s i (by omega);rw[this,List.getD_eq_getElem?_getD,q];rfl
  ·cases m
end
end
end Go.Proofs.YtoeinblfcbpcmaaGreatDoor
