/- A part of the proof. Conditions: those told. -/
import Derived.Test.YthihofpfonfjfaaGreatDoorB1
import Derived.Test.YthihofpfonfjfaaGreatDoorB22
namespace Go.Proofs.YthihofpfonfjfaaGreatDoor
set_option maxHeartbeats 64000000
set_option maxRecDepth 100000
set_option linter.unusedVariables false
section
open Go.RowKit Go.Maps Go.ChangeMaps
theorem Tr.Ok.pmay{S:Kor}{l:Nat}{t:Tr}(h:Tr.Ok S l t):t.ptr.may=true:=by
 cases t with
 | hole=>exact oU gP
 | leaf p b=>cases l with
   | zero=>exact h.1.may
   | succ l=>exact h.elim
 | node p k=>cases l with
   | zero=>exact h.elim
   | succ l=>exact h.1.may
theorem zH{S:Kor}:∀{l:Nat}{t:Tr},Tr.Ok S l t->∀(a:Nat),thr (dB 0) l t a=thr kK l t a
 | 0,t,h,a=>by
   rw[gQ,gQ];cases hh:t.isHole with
   | true=>rfl
   | false =>
     have e:dB 0 t.ptr=true:=decide_eq_true (by have:=(h.born hh).1;omega);rw[e];rfl
 | l+1,t,h,a=>by
   rw[gR,gR];cases hh:t.isHole with
   | true=>rfl
   | false =>
     have e:dB 0 t.ptr=true:=decide_eq_true (by have:=(h.born hh).1;omega);rw[e]
     have g:((List.range 4).flatMap fun i=>thr (dB 0) l (t.kid i) (a+i*4 ^ l))=(List.range 4).flatMap fun i=>thr kK l (t.kid i) (a+i*4 ^ l):=
      lF fun i hi=>zH (h.kid (List.mem_range.1 hi)) _
     rw[g];rfl
end
end Go.Proofs.YthihofpfonfjfaaGreatDoor
