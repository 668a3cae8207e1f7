import Derived.Test.YtoeinblfcbpcmaaGreatDoorC18
import Derived.Test.YtoeinblfcbpcmaaGreatDoorC26
namespace Go.Proofs.YtoeinblfcbpcmaaGreatDoor
open Tryz
set_option maxHeartbeats 0
set_option maxRecDepth 100000
set_option linter.unusedVariables false
section
open Go.RowKit
def rK(L:Lab)(pool:List UInt8)(dev life:Int):Bool:=L.may && decide (L.pool=pool) && decide (L.dev=dev) && decide (L.life=life)
theorem KV(w:World)(L:Lab)(pool:List UInt8)(dev life:Int)(o:L.pool.length=32)(hp:pool.length=32) :
 Calls prog 51 #[.agg L.cells.toArray,.agg (pool.map vb).toArray,.int .i64 dev,.int .i64 life] w (bM w (rK L pool dev life)):=by
 obtain⟨k,b⟩:=zX9 ((w.alloc (.cells L.cells.toArray 112)).alloc (.cells (pool.map vb).toArray 31))
 have g:k.heap[w.heap.size]?=some (.cells L.cells.toArray 112 (0,0)):=by rw[←b];exact heap_alloc2_old _ _ _
 have n:k.heap[w.heap.size+1]?=some (.cells (pool.map vb).toArray 31 (0,0)):=by rw[←b];exact heap_alloc2_new _ _ _
 have B:aA aB w k:=by rw[←b];exact((aA.refl _ _).alloc _).alloc _
 have C:=O (sE L o k);have U:=EH L.pool pool o hp;obtain⟨X,d1,d2,d3,Y⟩:=L.at o;obtain⟨I,c⟩:=zX9 L.cells
 have D:I.length=37:=by rw[←c];exact L.cells_length o
 have l:∀i,i<32->I[i]?=(L.pool.map vb)[i]?:=by rw[←c];exact L.cells_pool o
 rw[c] at C g b X d1 d2 d3 Y ⊢;obtain⟨P,d⟩:=zX9 (pool.map vb)
 obtain⟨J,f⟩:=zX9 (L.pool.map vb)
 have E:P.length=32:=by rw[←d];simp[hp]
 have h:J.length=32:=by rw[←f];simp[o]
 rw[d] at b n U ⊢;rw[f] at U l;have p:=O g;have Q:=O n;have R:=O B;have S:=O l;have qa:=O c;have qc:=O d;have qd:=O f;obtain⟨M,a⟩:=zX9 (rK L pool dev life)
 have s:=O a;rw[a];clear g n B c d f l a;have G:w.heap.size+2=k.heap.size:=by rw[←b];simp
 have qe:=O G;clear G;go_in
 go_wp2_with (first
  | ((with_reducible show WL (some 9) (.load 112 (.tmp 4)));refine wpList_load_mid rfl 112 (.tmp 4) rfl w.heap.size 0 rfl I _ (aD p.out) underlying112 rfl (by rw[D];exact gF) ?_))
 refine C.out.mono ?_;rintro e w2 ⟨rfl,H⟩;have K:aA aB k w2:=by rw[←H];exact(aA.refl _ _).alloc _
 have g:=K.blk p.out id;have n:=K.blk Q.out id;have c0:=aC g X;have c4:=aC g Y;have q:=O g;have r:=O n;have z:=O (R.trans K);clear b H K g n C;rcases N:L.may with _|_
 ·have a:M=false:=by rw[←s.out];unfold rK;rw[N];simp
  subst a;clear N;go_wp2;go_ret;exact⟨rfl,z.out⟩
 ·have HM:=O N;clear N
  have F:w2.rangeAt w.heap.size 0 J:=by
   intro j u Z;have A:j<32:=by rw[←h];exact(List.getElem?_eq_some_iff.1 Z).1
   rw[Nat.zero_add];exact aC q.out (by rw[List.getElem?_toArray,S.out j A];exact Z)
  have T:=O F;clear F;obtain⟨t1,m⟩:=zX9 (decide (L.pool=pool))
  obtain⟨t2,V⟩:=zX9 ((L.dev == dev))
  obtain⟨t3,W⟩:=zX9 ((L.life == life))
  have a:M=(t1 && t2 && t3):=by
   rw[←s.out,←m,←V,←W];unfold rK;rw[HM.out];have hd:∀x y:Int,decide (x=y)=(x == y):=fun x y=>by rw[Bool.eq_iff_iff];simp
   simp[hd]
  have v:=O a;rw[m] at U;clear a m
  cases t1<;>cases t2<;>cases t3<;>(
   go_wp2_with (first
    | ((with_reducible show WL (some 14) (.load 31 (.tmp 13)));refine aP (by rfl) 31 (.tmp 13) rfl w.heap.size 0 rfl J _ T.out underlying31 rfl (by rw[h];exact fZ) ?_)
    | ((with_reducible show WL (some 15) (.load 31 (.tmp 5)));refine aP (by rfl) 31 (.tmp 5) rfl (w.heap.size+1) 0 rfl P _ (aD r.out) underlying31 rfl (by rw[E];exact fZ) ?_))
   go_ret;rw[v.out];exact⟨rfl,z.out⟩)
end
end Go.Proofs.YtoeinblfcbpcmaaGreatDoor
