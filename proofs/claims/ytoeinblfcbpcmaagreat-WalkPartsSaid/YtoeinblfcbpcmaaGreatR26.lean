import Derived.Test.YtoeinblfcbpcmaaGreatR17
import Derived.Test.YtoeinblfcbpcmaaGreatR25
namespace Go.Proofs.YtoeinblfcbpcmaaGreat
open Tryz
set_option maxHeartbeats 0
set_option maxRecDepth 100000
set_option linter.unusedVariables false
section
open Go.RowKit
def rB(L:Lab)(pool:List UInt8)(dev life:Int):Bool:=L.may && decide (L.pool=pool) && decide (L.dev=dev) && decide (L.life=life)
theorem KH(w:World)(L:Lab)(pool:List UInt8)(dev life:Int)(m:L.pool.length=32)(Y:pool.length=32) :
 Calls prog 154 #[.agg L.cells.toArray,.agg (pool.map vb).toArray,.int .i64 dev,.int .i64 life] w (aN w (rB L pool dev life)):=by
 obtain⟨h,b⟩:=zX9 ((w.alloc (.cells L.cells.toArray 157)).alloc (.cells (pool.map vb).toArray 28))
 have b0:h.heap[w.heap.size]?=some (.cells L.cells.toArray 157 (0,0)):=by rw[←b];exact heap_alloc2_old _ _ _
 have b1:h.heap[w.heap.size+1]?=some (.cells (pool.map vb).toArray 28 (0,0)):=by rw[←b];exact heap_alloc2_new _ _ _
 have z:aA aB w h:=by rw[←b];exact((aA.refl _ _).alloc _).alloc _
 have C:=O (xL L m h);have S:=Es L.pool pool m Y;obtain⟨V,d1,d2,d3,W⟩:=L.at m;obtain⟨G,c⟩:=zX9 L.cells
 have A:G.length=37:=by rw[←c];exact L.cells_length m
 have k:∀i,i<32->G[i]?=(L.pool.map vb)[i]?:=by rw[←c];exact L.cells_pool m
 rw[c] at C b0 b V d1 d2 d3 W ⊢;obtain⟨M,d⟩:=zX9 (pool.map vb)
 obtain⟨H,f⟩:=zX9 (L.pool.map vb)
 have B:M.length=32:=by rw[←d];simp[Y]
 have g:H.length=32:=by rw[←f];simp[m]
 rw[d] at b b1 S ⊢;rw[f] at S k;have n:=O b0;have N:=O b1;have P:=O z;have Q:=O k;have qa:=O c;have qb:=O d;have qc:=O f;obtain⟨J,a⟩:=zX9 (rB L pool dev life)
 have q:=O a;rw[a];clear b0 b1 z c d f k a;have E:w.heap.size+2=h.heap.size:=by rw[←b];simp
 have qd:=O E;clear E;go_in
 go_wp2_with (first
  | ((with_reducible show WL (some 9) (.load 157 (.tmp 4)));refine wpList_load_mid rfl 157 (.tmp 4) rfl w.heap.size 0 rfl G _ (aD n.out) underlying157 rfl (by rw[A];exact gQ) ?_))
 refine C.out.mono ?_;rintro e w2 ⟨rfl,F⟩;have I:aA aB h w2:=by rw[←F];exact(aA.refl _ _).alloc _
 have b0:=I.blk n.out id;have b1:=I.blk N.out id;have c0:=aC b0 V;have c4:=aC b0 W;have o:=O b0;have p:=O b1;have s:=O (P.trans I);clear b F I b0 b1 C;rcases K:L.may with _|_
 ·have a:J=false:=by rw[←q.out];unfold rB;rw[K];simp
  subst a;clear K;go_wp2;go_ret;exact⟨rfl,s.out⟩
 ·have HM:=O K;clear K
  have D:w2.rangeAt w.heap.size 0 H:=by
   intro j u X;have v:j<32:=by rw[←g];exact(List.getElem?_eq_some_iff.1 X).1
   rw[Nat.zero_add];exact aC o.out (by rw[List.getElem?_toArray,Q.out j v];exact X)
  have R:=O D;clear D;obtain⟨t1,l⟩:=zX9 (decide (L.pool=pool))
  obtain⟨Z,T⟩:=zX9 ((L.dev == dev))
  obtain⟨t3,U⟩:=zX9 ((L.life == life))
  have a:J=(t1 && Z && t3):=by
   rw[←q.out,←l,←T,←U];unfold rB;rw[HM.out];have hd:∀x y:Int,decide (x=y)=(x == y):=fun x y=>by rw[Bool.eq_iff_iff];simp
   simp[hd]
  have r:=O a;rw[l] at S;clear a l
  cases t1<;>cases Z<;>cases t3<;>(
   go_wp2_with (first
    | ((with_reducible show WL (some 14) (.load 28 (.tmp 13)));refine aK (by rfl) 28 (.tmp 13) rfl w.heap.size 0 rfl H _ R.out underlying28 rfl (by rw[g];exact oY) ?_)
    | ((with_reducible show WL (some 15) (.load 28 (.tmp 5)));refine aK (by rfl) 28 (.tmp 5) rfl (w.heap.size+1) 0 rfl M _ (aD p.out) underlying28 rfl (by rw[B];exact oY) ?_))
   go_ret;rw[r.out];exact⟨rfl,s.out⟩)
end
end Go.Proofs.YtoeinblfcbpcmaaGreat
