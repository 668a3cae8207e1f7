/- A part of the proof. Conditions: those told. -/
import Derived.Test.YthihofpfonfjfaaGreatDoorB1
import Derived.Test.YthihofpfonfjfaaGreatDoorB5
import Derived.Test.YthihofpfonfjfaaGreatDoorRows
import Derived.ProofKit
import Derived.OpenShut
import Derived.ShutString
import Derived.ChangeOld
import Derived.Below
import Derived.Lib.SmallJoins
import Derived.Deep.Slices
namespace Go.Proofs.YthihofpfonfjfaaGreatDoor
set_option maxHeartbeats 64000000
set_option maxRecDepth 100000
set_option linter.unusedVariables false
section
open Go.ChangeShapes Go.WideShapes Go.ChangeAt Go.RowKit
theorem Ax:laidOutB Tryz.prog=true:=by kernel_rfl
section
variable {H:Type}{enc:TypeId×Value->H}{w:World}{base:Nat}{spare:Nat->Bool}{held:Bool}{fuel:Nat}
theorem BJ{a:Option Addr}{len cap:Nat}{x:DataW H×List MemPlace}(h:DataW.trod enc Tryz.prog w base spare held fuel 22 [.slice a len cap]=some x) :
 ∃b:List UInt8,b.length=len/\Rd w 1 (.slice a len cap) len (b.map vb):=by
 rcases open_ints Tryz.underlying22 Tryz.underlying5 (by kernel_rfl) h with⟨hcs,_⟩|⟨y,l,c,zs,hcs,_,hl,hm,hz,_,hcell,hwz⟩
 ·cases hcs
  exact⟨[],rfl,by simp,none,0,rfl,Nat.le_refl _,by unfold maxLen;omega,fun _=>rfl,fun hp=>by simp at hp⟩
 ·cases hcs
  have hlz:len≤zs.length:=by rw[hz];split<;>omega
  have hmap:((zs.take len).map fun n=>UInt8.ofNat n.toNat).map vb=(zs.take len).map (Value.int .u8):=by
   rw[List.map_map];apply List.map_congr_left;intro n hn;have hb:=bounds_u8 (hwz n (List.mem_of_mem_take hn));show vb (UInt8.ofNat n.toNat)=_;unfold vb;simp;omega
  refine⟨(zs.take len).map fun n=>UInt8.ofNat n.toNat,by rw[List.length_map,List.length_take];omega,by rw[hmap];simp;omega,some y,cap,rfl,hl,hm,(by intro h;cases h),fun hp=>?_⟩;rw[hmap] at hp ⊢;simp only[List.length_map,List.length_take] at hp;obtain⟨g,o,rfl,hc⟩:=ints_at hcell (by omega);refine⟨g,o,rfl,fun i u hu=>?_⟩;rw[List.getElem?_map,List.getElem?_take] at hu;split at hu
  ·rename_i hi
   obtain⟨n,hn,rfl⟩:=Option.map_eq_some_iff.1 hu;have:=hc i (by omega);rw[this,List.getD_eq_getElem?_getD,hn];rfl
  ·cases hu
end
end
end Go.Proofs.YthihofpfonfjfaaGreatDoor
