import Derived.Test.YtiinnfhjpaeffaaGreatW1
import Derived.Test.YtiinnfhjpaeffaaGreatW2
import Derived.RangeFuncKeeps
import Derived.RangeFuncLeaves
import Derived.RangeFuncFrom
import Derived.OwnWalkIn
import Derived.TacticsInMore
import Derived.LoopNIn
import Derived.LoopIn
namespace Go.Proofs.YtiinnfhjpaeffaaGreat
set_option maxHeartbeats 64000000
set_option maxRecDepth 100000
set_option linter.unusedVariables false
section
open Go.RowKit
def Ab(B1 B2:Nat)(A B:World):Prop:=B.heap[B1]?=A.heap[B1]?/\B.heap[B2]?=A.heap[B2]?
theorem Ho(n l B1 B2 g o m cap:Nat)(J Jx:List Nat->World->Prop)(Bs:Nat)(hA:AbidesFrom Bs J)(hm:64*m≤cap)(hcap:cap≤maxLen)
 (hY:∀pre x W,J pre W->pre.length<m->YieldAt Fence.wide (n-1) Tryz.prog l #[.slice (some ⟨g,o+64*(x % m),none⟩) 64 64] W fun e W' =>
   (e=.returned (.bool true)/\J (pre++[x]) W'/\Ab B1 B2 W W')\/(e=.returned (.bool false)/\Jx (pre++[x]) W'))
 (W:World) (h1:W.heap[B1]?=some (.cells #[.slice (some ⟨g,o,none⟩) (64*m) cap] 109 (0,0))) (h2:W.heap[B2]?=some (.cells #[.int .i64 64] 3 (0,0))) (h0:J [] W) :
 CallsIn Fence.wide n Tryz.prog 254 #[.func (.yield l) #[] #[],.pointer (some ⟨B1,0,none⟩),.pointer (some ⟨B2,0,none⟩)] W fun e W'=>(∃v,e=.returned v) /\
  ((∃ys,ys=List.range m/\J ys W')\/(∃pre,True/\Jx pre W')):=by
 unfold maxLen at hcap;refine callsIn_of_wp Tryz.func254 rfl trivial ?_ rfl;simp only[Tryz.ntmps254,List.size_toArray,List.length_cons,List.length_nil,Nat.reduceAdd,Nat.reduceSub,Array.replicate_succ,Array.replicate_zero,List.push_toArray,List.append_toArray,List.nil_append,List.cons_append]
 gi_wp2
 gi_loopw [4] (fun i wr=>∃k:Nat,k≤m/\i=.int .i64 (64*k:Nat)/\J (List.range k) wr/\Hid (wr.heap[B1]?=some (.cells #[.slice (some ⟨g,o,none⟩) (64*m) cap] 109 (0,0))/\wr.heap[B2]?=some (.cells #[.int .i64 64] 3 (0,0))))
  (fun i _=>64*m-(intOf i).toNat)
 case atStart=>exact⟨0,by omega,rfl,h0,O ⟨h1,h2⟩⟩
 case round =>
  obtain⟨k,hk,rfl,hJ,hH⟩:=hrel;have c1:=cell_of_one hH.out.1;have c2:=cell_of_one hH.out.2
  by_cases hlt:k<m
  ·have e1:(64*k:Nat)<64*m:=by omega
   have hb0:(0:Int)≤((64*k:Nat):Int):=by omega
   have hb1:((64*k:Nat):Int)≤64*(m:Int):=by omega
   gi_wp2
   refine wpIn_wide.2 ?_
   go_quiet (fail)
   obtain⟨w1,hw1,hJ1,hH1⟩:∃w1,wr.drewN nq=w1/\J (List.range k) w1/\Hid (w1.heap[B1]?=some (.cells #[.slice (some ⟨g,o,none⟩) (64*m) cap] 109 (0,0))/\w1.heap[B2]?=some (.cells #[.int .i64 64] 3 (0,0))):=
    ⟨_,rfl,hA _ _ _ none hJ ⟨rfl,rfl,rfl,Nat.le_refl _,fun _ _ _=>rfl⟩ (fun r e=>by cases e),hH⟩
   rw[hw1];clear hw1 hJ hH c1 c2;have c1:=cell_of_one hH1.out.1;have c2:=cell_of_one hH1.out.2;have hYk:=hY (List.range k) k w1 hJ1 (by simpa using hlt);rw[Nat.mod_eq_of_lt hlt] at hYk;obtain⟨fn,tmps,assign,body,hy,hR⟩:=hYk
   gi_wp2
   refine⟨fun h=>by simp[Fence.wide] at h,hR.mono ?_⟩;rintro e W3 (⟨rfl,hJ3,hk3⟩|⟨rfl,hJx3⟩)
   ·have hH3:Hid (W3.heap[B1]?=some (.cells #[.slice (some ⟨g,o,none⟩) (64*m) cap] 109 (0,0))/\W3.heap[B2]?=some (.cells #[.int .i64 64] 3 (0,0))):=
     O ⟨hk3.1.trans hH1.out.1,hk3.2.trans hH1.out.2⟩
    have c1':=cell_of_one hH3.out.1;have c2':=cell_of_one hH3.out.2;have hJ4:=O (show J (List.range (k+1)) W3 by rw[List.range_succ];exact hJ3);clear hJ3 hk3 hJ1 hR hy hH1 c1 c2
    gi_wp2
    go_roundw
    case rel=>exact⟨k+1,by omega,by go_num,hJ4.out,hH3⟩
    case measure=>simp[intOf];omega
   ·gi_wp2
    refine bodyPost_ret (results_none rfl _ _ _) rfl ?_;exact⟨⟨_,rfl⟩,.inr ⟨_,trivial,hJx3⟩⟩
  ·obtain rfl:k=m:=by omega
   gi_wp2
   go_end0
   exact⟨⟨_,rfl⟩,.inl ⟨_,rfl,hJ⟩⟩
theorem Eb(n B1 B2 g o m cap:Nat)(hm:64*m≤cap)(hcap:cap≤maxLen)(w:World)
 (h1:w.heap[B1]?=some (.cells #[.slice (some ⟨g,o,none⟩) (64*m) cap] 109 (0,0))) (h2:w.heap[B2]?=some (.cells #[.int .i64 64] 3 (0,0))) :
 SeqStopsK Fence.wide n Tryz.prog 254 #[.pointer (some ⟨B1,0,none⟩),.pointer (some ⟨B2,0,none⟩)] (fun x:Nat=>#[.slice (some ⟨g,o+64*(x % m),none⟩) 64 64]) (Ab B1 B2) (fun ys=>ys=List.range m) (fun _=>True) m w:=
 fun l J Jx W hW hJ _ hY h0=>Ho n l B1 B2 g o m cap J Jx _ hJ hm hcap hY W ((hW.block _ (lt_of_block h1)).trans h1) ((hW.block _ (lt_of_block h2)).trans h2) h0
theorem Hp(v:Value)(w:World)(hv:∃a n c,v=.slice a n c) :
 Calls Tryz.prog 231 #[v,.int .i64 64] w fun e w'=>e=.returned (.func (.func 254) #[] #[.pointer (some ⟨w.heap.size,0,none⟩),.pointer (some ⟨w.heap.size+1,0,none⟩)]) /\
  w'=(w.alloc (.cells #[v] 109)).alloc (.cells #[.int .i64 64] 3):=by
 obtain⟨a,n,c,rfl⟩:=hv;go_enter Tryz.func231,Tryz.ntmps231
 go_wp2
 go_ret;exact⟨rfl,rfl⟩
end
end Go.Proofs.YtiinnfhjpaeffaaGreat
