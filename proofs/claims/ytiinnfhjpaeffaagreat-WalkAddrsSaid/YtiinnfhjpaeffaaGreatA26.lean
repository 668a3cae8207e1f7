import Derived.Test.YtiinnfhjpaeffaaGreatA1
import Derived.Test.YtiinnfhjpaeffaaGreatA17
import Derived.Test.YtiinnfhjpaeffaaGreatA25
namespace Go.Proofs.YtiinnfhjpaeffaaGreat
set_option maxHeartbeats 64000000
set_option maxRecDepth 100000
set_option linter.unusedVariables false
section
open Go.RowKit
def pU(L:Lab)(pool:List UInt8)(dev life:Int):Bool:=L.may && decide (L.pool=pool) && decide (L.dev=dev) && decide (L.life=life)
theorem Ja(w:World)(L:Lab)(pool:List UInt8)(dev life:Int)(m:L.pool.length=32)(Y:pool.length=32) :
 Calls Tryz.prog 129 #[.agg L.cells.toArray,.agg (pool.map vb).toArray,.int .i64 dev,.int .i64 life] w (aX w (pU L pool dev life)):=by
 obtain⟨h,b⟩:∃h,(w.alloc (.cells L.cells.toArray 192)).alloc (.cells (pool.map vb).toArray 25)=h:=⟨_,rfl⟩
 have b0:h.heap[w.heap.size]?=some (.cells L.cells.toArray 192 (0,0)):=by rw[←b];exact heap_alloc2_old _ _ _
 have b1:h.heap[w.heap.size+1]?=some (.cells (pool.map vb).toArray 25 (0,0)):=by rw[←b];exact heap_alloc2_new _ _ _
 have z:aA aB w h:=by rw[←b];exact((aA.refl _ _).alloc _).alloc _
 have C:=O (vB L m h);have S:=C3 L.pool pool m Y;obtain⟨V,d1,d2,d3,W⟩:=L.at m;obtain⟨G,c⟩:∃G,L.cells=G:=⟨_,rfl⟩
 have A:G.length=37:=by rw[←c];exact L.cells_length m
 have k:∀i,i<32->G[i]?=(L.pool.map vb)[i]?:=by rw[←c];exact L.cells_pool m
 rw[c] at C b0 b V d1 d2 d3 W ⊢;obtain⟨M,d⟩:∃M,pool.map vb=M:=⟨_,rfl⟩
 obtain⟨H,f⟩:∃H,L.pool.map vb=H:=⟨_,rfl⟩
 have B:M.length=32:=by rw[←d];simp[Y]
 have g:H.length=32:=by rw[←f];simp[m]
 rw[d] at b b1 S ⊢;rw[f] at S k;have n:=O b0;have N:=O b1;have P:=O z;have Q:=O k;have HLC:=O c;have HPS:=O d;have HQS:=O f;obtain⟨J,a⟩:∃J,pU L pool dev life=J:=⟨_,rfl⟩
 have q:=O a;rw[a];clear b0 b1 z c d f k a;have E:w.heap.size+2=h.heap.size:=by rw[←b];simp
 have HSZ:=O E;clear E;go_in
 go_wp2_with (first
  | ((with_reducible show WL (some 9) (.load 192 (.tmp 4)));refine wpList_load_mid rfl 192 (.tmp 4) rfl w.heap.size 0 rfl G _ (aD n.out) Tryz.underlying192 rfl (by rw[A];exact gC) ?_))
 refine C.out.mono ?_;rintro e w2 ⟨rfl,F⟩;have I:aA aB h w2:=by rw[←F];exact(aA.refl _ _).alloc _
 have b0:=I.blk n.out id;have b1:=I.blk N.out id;have c0:=aC b0 V;have c4:=aC b0 W;have o:=O b0;have p:=O b1;have s:=O (P.trans I);clear b F I b0 b1 C;rcases K:L.may with _|_
 ·have a:J=false:=by rw[←q.out];unfold pU;rw[K];simp
  subst a;clear K;go_wp2;go_ret;exact⟨rfl,s.out⟩
 ·have HM:=O K;clear K
  have D:w2.rangeAt w.heap.size 0 H:=by
   intro j u X;have v:j<32:=by rw[←g];exact(List.getElem?_eq_some_iff.1 X).1
   rw[Nat.zero_add];exact aC o.out (by rw[List.getElem?_toArray,Q.out j v];exact X)
  have R:=O D;clear D;obtain⟨t1,l⟩:∃t,decide (L.pool=pool)=t:=⟨_,rfl⟩
  obtain⟨Z,T⟩:∃t,(L.dev == dev)=t:=⟨_,rfl⟩
  obtain⟨t3,U⟩:∃t,(L.life == life)=t:=⟨_,rfl⟩
  have a:J=(t1 && Z && t3):=by
   rw[←q.out,←l,←T,←U];unfold pU;rw[HM.out];have hd:∀x y:Int,decide (x=y)=(x == y):=fun x y=>by rw[Bool.eq_iff_iff];simp
   simp[hd]
  have r:=O a;rw[l] at S;clear a l
  cases t1<;>cases Z<;>cases t3<;>(
   go_wp2_with (first
    | ((with_reducible show WL (some 14) (.load 25 (.tmp 13)));refine aP (by rfl) 25 (.tmp 13) rfl w.heap.size 0 rfl H _ R.out Tryz.underlying25 rfl (by rw[g];exact nU) ?_)
    | ((with_reducible show WL (some 15) (.load 25 (.tmp 5)));refine aP (by rfl) 25 (.tmp 5) rfl (w.heap.size+1) 0 rfl M _ (aD p.out) Tryz.underlying25 rfl (by rw[B];exact nU) ?_))
   go_ret;rw[r.out];exact⟨rfl,s.out⟩)
end
end Go.Proofs.YtiinnfhjpaeffaaGreat
