import Derived.Test.YtiinnfhjpaeffaaGreatA1
import Derived.Test.YtiinnfhjpaeffaaGreatA2
import Derived.RangeFuncKeeps
import Derived.RangeFuncLeaves
import Derived.RangeFuncFrom
import Derived.OwnWalkIn
import Derived.TacticsInMore
import Derived.LoopNIn
import Derived.LoopIn
namespace Go.Proofs.YtiinnfhjpaeffaaGreat
set_option maxHeartbeats 64000000
set_option maxRecDepth 100000
set_option linter.unusedVariables false
section
open Go.RowKit
def Az(a b:Nat)(A B:World):Prop:=B.heap[a]?=A.heap[a]?/\B.heap[b]?=A.heap[b]?
theorem Ip(n l f j g o m cap:Nat)(J F:List Nat->World->Prop)(G:Nat)(M:AbidesFrom G J)(V:64*m≤cap)(y:cap≤maxLen)
 (N:∀a x W,J a W->a.length<m->YieldAt Fence.wide (n-1) Tryz.prog l #[.slice (some ⟨g,o+64*(x % m),none⟩) 64 64] W fun e p =>
   (e=.returned (.bool true)/\J (a++[x]) p/\Az f j W p)\/(e=.returned (.bool false)/\F (a++[x]) p))
 (W:World) (K:W.heap[f]?=some (.cells #[.slice (some ⟨g,o,none⟩) (64*m) cap] 109 (0,0))) (L:W.heap[j]?=some (.cells #[.int .i64 64] 3 (0,0))) (h0:J [] W) :
 CallsIn Fence.wide n Tryz.prog 254 #[.func (.yield l) #[] #[],.pointer f,.pointer j] W fun e p=>(∃v,e=.returned v) /\
  ((∃ys,ys=List.range m/\J ys p)\/(∃a,True/\F a p)):=by
 unfold maxLen at y;refine callsIn_of_wp Tryz.func254 rfl trivial ?_ rfl;simp only[Tryz.ntmps254,List.size_toArray,List.length_cons,List.length_nil,Nat.reduceAdd,Nat.reduceSub,Array.replicate_succ,Array.replicate_zero,List.push_toArray,List.append_toArray,List.nil_append,List.cons_append]
 gi_wp2
 gi_loopw [4] (fun i wr=>∃k:Nat,k≤m/\i=.int .i64 (64*k:Nat)/\J (List.range k) wr/\Hid (wr.heap[f]?=some (.cells #[.slice (some ⟨g,o,none⟩) (64*m) cap] 109 (0,0))/\wr.heap[j]?=some (.cells #[.int .i64 64] 3 (0,0))))
  (fun i _=>64*m-(intOf i).toNat)
 case atStart=>exact⟨0,by omega,rfl,h0,O ⟨K,L⟩⟩
 case round =>
  obtain⟨k,U,rfl,D,B⟩:=hrel;have c1:=cell_of_one B.out.1;have c2:=cell_of_one B.out.2
  by_cases z:k<m
  ·have S:(64*k:Nat)<64*m:=by omega
   have P:(0:Int)≤((64*k:Nat):Int):=by omega
   have Q:((64*k:Nat):Int)≤64*(m:Int):=by omega
   gi_wp2
   refine wpIn_wide.2 ?_
   go_quiet (fail)
   obtain⟨q,A,s,b⟩:∃q,wr.drewN nq=q/\J (List.range k) q/\Hid (q.heap[f]?=some (.cells #[.slice (some ⟨g,o,none⟩) (64*m) cap] 109 (0,0))/\q.heap[j]?=some (.cells #[.int .i64 64] 3 (0,0))):=
    ⟨_,rfl,M _ _ _ none D ⟨rfl,rfl,rfl,Nat.le_refl _,fun _ _ _=>rfl⟩ (fun r e=>by cases e),B⟩
   rw[A];clear A D B c1 c2;have c1:=cell_of_one b.out.1;have c2:=cell_of_one b.out.2;have w:=N (List.range k) k q s (by simpa using z);rw[Nat.mod_eq_of_lt z] at w;obtain⟨T,tmps,assign,body,R,hR⟩:=w
   gi_wp2
   refine⟨fun h=>by simp[Fence.wide] at h,hR.mono ?_⟩;rintro e C (⟨rfl,t,d⟩|⟨rfl,u⟩)
   ·have c:Hid (C.heap[f]?=some (.cells #[.slice (some ⟨g,o,none⟩) (64*m) cap] 109 (0,0))/\C.heap[j]?=some (.cells #[.int .i64 64] 3 (0,0))):=
     O ⟨d.1.trans b.out.1,d.2.trans b.out.2⟩
    have H:=cell_of_one c.out.1;have I:=cell_of_one c.out.2;have E:=O (show J (List.range (k+1)) C by rw[List.range_succ];exact t);clear t d s hR R b c1 c2
    gi_wp2
    go_roundw
    case rel=>exact⟨k+1,by omega,by go_num,E.out,c⟩
    case measure=>simp[intOf];omega
   ·gi_wp2
    refine bodyPost_ret (results_none rfl _ _ _) rfl ?_;exact⟨⟨_,rfl⟩,.inr ⟨_,trivial,u⟩⟩
  ·obtain rfl:k=m:=by omega
   gi_wp2
   go_end0
   exact⟨⟨_,rfl⟩,.inl ⟨_,rfl,D⟩⟩
theorem Ev(n b c g o m cap:Nat)(k:64*m≤cap)(a:cap≤maxLen)(w:World)
 (d:w.heap[b]?=some (.cells #[.slice (some ⟨g,o,none⟩) (64*m) cap] 109 (0,0))) (e:w.heap[c]?=some (.cells #[.int .i64 64] 3 (0,0))) :
 SeqStopsK Fence.wide n Tryz.prog 254 #[.pointer b,.pointer c] (fun x:Nat=>#[.slice (some ⟨g,o+64*(x % m),none⟩) 64 64]) (Az b c) (fun ys=>ys=List.range m) (fun _=>True) m w:=
 fun l J h W f i _ j h0=>Ip n l b c g o m cap J h _ i k a j W ((f.block _ (lt_of_block d)).trans d) ((f.block _ (lt_of_block e)).trans e) h0
theorem Iq(v:Value)(w:World)(b:∃a n c,v=.slice a n c) :
 Calls Tryz.prog 231 #[v,.int .i64 64] w fun e d=>e=.returned (.func (.func 254) #[] #[.pointer (w.heap.size),.pointer (some ⟨w.heap.size+1,0,none⟩)]) /\
  d=(w.alloc (.cells #[v] 109)).alloc (.cells #[.int .i64 64] 3):=by
 obtain⟨a,n,c,rfl⟩:=b;go_enter Tryz.func231,Tryz.ntmps231
 go_wp2
 go_ret;exact⟨rfl,rfl⟩
end
end Go.Proofs.YtiinnfhjpaeffaaGreat
