import Derived.Test.YtoeinblfcbpcmaaGreatDoorC2
import Derived.RangeFuncKeeps
import Derived.RangeFuncLeaves
import Derived.RangeFuncFrom
import Derived.OwnWalkIn
import Derived.TacticsInMore
import Derived.LoopNIn
import Derived.LoopIn
namespace Go.Proofs.YtoeinblfcbpcmaaGreatDoor
open Tryz
set_option maxHeartbeats 0
set_option maxRecDepth 100000
set_option linter.unusedVariables false
section
open Go.RowKit
def Ck(a b:Nat)(A B:World):Prop:=B.heap[a]?=A.heap[a]?/\B.heap[b]?=A.heap[b]?
theorem Kb(n l j p g o m a:Nat)(J G:List Nat->World->Prop)(I:Nat)(P:AbidesFrom I J)(Y:64*m≤a)(z:a≤maxLen)
 (Q:∀b x W,J b W->b.length<m->YieldAt Fence.wide (n-1) prog l #[.slice (some ⟨g,o+64*(x % m),none⟩) 64 64] W fun e q =>
   (e=.returned (.bool true)/\J (b++[x]) q/\Ck j p W q)\/(e=.returned (.bool false)/\G (b++[x]) q))
 (W:World) (M:W.heap[j]?=some (.cells #[.slice (some ⟨g,o,none⟩) (64*m) a] 22 (0,0))) (N:W.heap[p]?=some (.cells #[.int .i64 64] 3 (0,0))) (h0:J [] W) :
 CallsIn Fence.wide n prog 210 #[.func (.yield l) #[] #[],.pointer j,.pointer p] W fun e q=>(∃v,e=.returned v) /\
  ((∃ys,ys=List.range m/\J ys q)\/(∃b,True/\G b q)):=by
 unfold maxLen at z;refine callsIn_of_wp func210 rfl trivial ?_ rfl;simp only[ntmps210,List.size_toArray,List.length_cons,List.length_nil,Nat.reduceAdd,Nat.reduceSub,Array.replicate_succ,Array.replicate_zero,List.push_toArray,List.append_toArray,List.nil_append,List.cons_append]
 gi_wp2
 gi_loopw [4] (fun i wr=>∃k:Nat,k≤m/\i=.int .i64 (64*k:Nat)/\J (List.range k) wr/\Hid (wr.heap[j]?=some (.cells #[.slice (some ⟨g,o,none⟩) (64*m) a] 22 (0,0))/\wr.heap[p]?=some (.cells #[.int .i64 64] 3 (0,0))))
  (fun i _=>64*m-(intOf i).toNat)
 case atStart=>exact⟨0,by omega,rfl,h0,O ⟨M,N⟩⟩
 case round =>
  obtain⟨k,X,rfl,E,C⟩:=hrel;have c1:=cell_of_one C.out.1;have c2:=cell_of_one C.out.2
  by_cases A:k<m
  ·have U:(64*k:Nat)<64*m:=by omega
   have R:(0:Int)≤((64*k:Nat):Int):=by omega
   have S:((64*k:Nat):Int)≤64*(m:Int):=by omega
   gi_wp2
   refine wpIn_wide.2 ?_
   go_quiet (fail)
   obtain⟨s,B,t,c⟩:∃s,wr.drewN nq=s/\J (List.range k) s/\Hid (s.heap[j]?=some (.cells #[.slice (some ⟨g,o,none⟩) (64*m) a] 22 (0,0))/\s.heap[p]?=some (.cells #[.int .i64 64] 3 (0,0))):=
    ⟨_,rfl,P _ _ _ none E ⟨rfl,rfl,rfl,Nat.le_refl _,fun _ _ _=>rfl⟩ (fun r e=>by cases e),C⟩
   rw[B];clear B E C c1 c2;have c1:=cell_of_one c.out.1;have c2:=cell_of_one c.out.2;have y:=Q (List.range k) k s t (by simpa using A);rw[Nat.mod_eq_of_lt A] at y;obtain⟨V,tmps,assign,body,T,H⟩:=y
   gi_wp2
   refine⟨fun h=>by simp[Fence.wide] at h,H.mono ?_⟩;rintro e D (⟨rfl,u,f⟩|⟨rfl,w⟩)
   ·have d:Hid (D.heap[j]?=some (.cells #[.slice (some ⟨g,o,none⟩) (64*m) a] 22 (0,0))/\D.heap[p]?=some (.cells #[.int .i64 64] 3 (0,0))):=
     O ⟨f.1.trans c.out.1,f.2.trans c.out.2⟩
    have K:=cell_of_one d.out.1;have L:=cell_of_one d.out.2;have F:=O (show J (List.range (k+1)) D by rw[List.range_succ];exact u);clear u f t H T c c1 c2
    gi_wp2
    go_roundw
    case rel=>exact⟨k+1,by omega,by go_num,F.out,d⟩
    case measure=>simp[intOf];omega
   ·gi_wp2
    refine bodyPost_ret (results_none rfl _ _ _) rfl ?_;exact⟨⟨_,rfl⟩,.inr ⟨_,trivial,w⟩⟩
  ·obtain rfl:k=m:=by omega
   gi_wp2
   go_end0
   exact⟨⟨_,rfl⟩,.inl ⟨_,rfl,E⟩⟩
theorem Ga(n c d g o m a:Nat)(p:64*m≤a)(b:a≤maxLen)(w:World)
 (e:w.heap[c]?=some (.cells #[.slice (some ⟨g,o,none⟩) (64*m) a] 22 (0,0))) (f:w.heap[d]?=some (.cells #[.int .i64 64] 3 (0,0))) :
 SeqStopsK Fence.wide n prog 210 #[.pointer c,.pointer d] (fun x:Nat=>#[.slice (some ⟨g,o+64*(x % m),none⟩) 64 64]) (Ck c d) (fun ys=>ys=List.range m) (fun _=>True) m w:=
 fun l J i W h j _ k h0=>Kb n l c d g o m a J i _ j p b k W ((h.block _ (lt_of_block e)).trans e) ((h.block _ (lt_of_block f)).trans f) h0
theorem Kc(v:Value)(w:World)(b:∃a n c,v=.slice a n c) :
 Calls prog 151 #[v,.int .i64 64] w fun e d=>e=.returned (.func (.func 210) #[] #[.pointer (w.heap.size),.pointer (some ⟨w.heap.size+1,0,none⟩)]) /\
  d=(w.alloc (.cells #[v] 22)).alloc (.cells #[.int .i64 64] 3):=by
 obtain⟨a,n,c,rfl⟩:=b;go_enter func151,ntmps151
 go_wp2
 go_ret;exact⟨rfl,rfl⟩
end
end Go.Proofs.YtoeinblfcbpcmaaGreatDoor
