import Derived.Test.YtiinnfhjpaeffaaGreatW1
import Derived.Test.YtiinnfhjpaeffaaGreatW17
import Derived.Test.YtiinnfhjpaeffaaGreatW25
namespace Go.Proofs.YtiinnfhjpaeffaaGreat
set_option maxHeartbeats 64000000
set_option maxRecDepth 100000
set_option linter.unusedVariables false
section
open Go.RowKit
def pR(L:Lab)(pool:List UInt8)(dev life:Int):Bool:=L.may && decide (L.pool=pool) && decide (L.dev=dev) && decide (L.life=life)
theorem IE(w:World)(L:Lab)(pool:List UInt8)(dev life:Int)(hL:L.pool.length=32)(hp:pool.length=32) :
 Calls Tryz.prog 129 #[.agg L.cells.toArray,.agg (pool.map vb).toArray,.int .i64 dev,.int .i64 life] w (aX w (pR L pool dev life)):=by
 obtain⟨w1,hw1⟩:∃w1,(w.alloc (.cells L.cells.toArray 192)).alloc (.cells (pool.map vb).toArray 25)=w1:=⟨_,rfl⟩
 have b0:w1.heap[w.heap.size]?=some (.cells L.cells.toArray 192 (0,0)):=by rw[←hw1];exact heap_alloc2_old _ _ _
 have b1:w1.heap[w.heap.size+1]?=some (.cells (pool.map vb).toArray 25 (0,0)):=by rw[←hw1];exact heap_alloc2_new _ _ _
 have hk1:aA aB w w1:=by rw[←hw1];exact((aA.refl _ _).alloc _).alloc _
 have C:=O (uP L hL w1);have he:=FM L.pool pool hL hp;obtain⟨d0,d1,d2,d3,d4⟩:=L.at hL;obtain⟨lc,hlc⟩:∃lc,L.cells=lc:=⟨_,rfl⟩
 have hlcl:lc.length=37:=by rw[←hlc];exact L.cells_length hL
 have hpl:∀i,i<32->lc[i]?=(L.pool.map vb)[i]?:=by rw[←hlc];exact L.cells_pool hL
 rw[hlc] at C b0 hw1 d0 d1 d2 d3 d4 ⊢;obtain⟨ps,hps⟩:∃ps,pool.map vb=ps:=⟨_,rfl⟩
 obtain⟨qs,hqs⟩:∃qs,L.pool.map vb=qs:=⟨_,rfl⟩
 have hpsl:ps.length=32:=by rw[←hps];simp[hp]
 have hqsl:qs.length=32:=by rw[←hqs];simp[hL]
 rw[hps] at hw1 b1 he ⊢;rw[hqs] at he hpl;have HB0:=O b0;have HB1:=O b1;have HK1:=O hk1;have HPL:=O hpl;have HLC:=O hlc;have HPS:=O hps;have HQS:=O hqs;obtain⟨bt,hbt⟩:∃bt,pR L pool dev life=bt:=⟨_,rfl⟩
 have HBT:=O hbt;rw[hbt];clear b0 b1 hk1 hlc hps hqs hpl hbt;have hsz:w.heap.size+2=w1.heap.size:=by rw[←hw1];simp
 have HSZ:=O hsz;clear hsz;go_in
 go_wp2_with (first
  | ((with_reducible show WL (some 9) (.load 192 (.tmp 4)));refine wpList_load_mid rfl 192 (.tmp 4) rfl w.heap.size 0 rfl lc _ (aD HB0.out) Tryz.underlying192 rfl (by rw[hlcl];exact fV) ?_))
 refine C.out.mono ?_;rintro e w2 ⟨rfl,hw2⟩;have K2:aA aB w1 w2:=by rw[←hw2];exact(aA.refl _ _).alloc _
 have b0:=K2.blk HB0.out id;have b1:=K2.blk HB1.out id;have c0:=aC b0 d0;have c4:=aC b0 d4;have HB0':=O b0;have HB1':=O b1;have HKE:=O (HK1.out.trans K2);clear hw1 hw2 K2 b0 b1 C;rcases hm:L.may with _|_
 ·have hbt:bt=false:=by rw[←HBT.out];unfold pR;rw[hm];simp
  subst hbt;clear hm;go_wp2;go_ret;exact⟨rfl,HKE.out⟩
 ·have HM:=O hm;clear hm
  have hra:w2.rangeAt w.heap.size 0 qs:=by
   intro j u hj;have hj32:j<32:=by rw[←hqsl];exact(List.getElem?_eq_some_iff.1 hj).1
   rw[Nat.zero_add];exact aC HB0'.out (by rw[List.getElem?_toArray,HPL.out j hj32];exact hj)
  have HRA:=O hra;clear hra;obtain⟨t1,ht1⟩:∃t,decide (L.pool=pool)=t:=⟨_,rfl⟩
  obtain⟨t2,ht2⟩:∃t,(L.dev == dev)=t:=⟨_,rfl⟩
  obtain⟨t3,ht3⟩:∃t,(L.life == life)=t:=⟨_,rfl⟩
  have hbt:bt=(t1 && t2 && t3):=by
   rw[←HBT.out,←ht1,←ht2,←ht3];unfold pR;rw[HM.out];have hd:∀x y:Int,decide (x=y)=(x == y):=fun x y=>by rw[Bool.eq_iff_iff];simp
   simp[hd]
  have HBT2:=O hbt;rw[ht1] at he;clear hbt ht1
  cases t1<;>cases t2<;>cases t3<;>(
   go_wp2_with (first
    | ((with_reducible show WL (some 14) (.load 25 (.tmp 13)));refine aM (by rfl) 25 (.tmp 13) rfl w.heap.size 0 rfl qs _ HRA.out Tryz.underlying25 rfl (by rw[hqsl];exact nS) ?_)
    | ((with_reducible show WL (some 15) (.load 25 (.tmp 5)));refine aM (by rfl) 25 (.tmp 5) rfl (w.heap.size+1) 0 rfl ps _ (aD HB1'.out) Tryz.underlying25 rfl (by rw[hpsl];exact nS) ?_))
   go_ret;rw[HBT2.out];exact⟨rfl,HKE.out⟩)
end
end Go.Proofs.YtiinnfhjpaeffaaGreat
