import Derived.Test.YtiinnfhjpaeffaaGreatA1
import Derived.Test.YtiinnfhjpaeffaaGreatA2
import Derived.Test.YtiinnfhjpaeffaaGreatA13
import Derived.Test.YtiinnfhjpaeffaaGreatA14
import Derived.Great.Walk
import Derived.Deep.DeepCutAuto
import Derived.Deep.DrawnRows
import Derived.Laws.ResultCell
namespace Go.Proofs.YtiinnfhjpaeffaaGreat
set_option maxHeartbeats 64000000
set_option maxRecDepth 100000
set_option linter.unusedVariables false
section
open Go.RowKit
variable{w w1 wr w2:World}{cs:Array Value}{q:Nat->Int}{s x:St}{b5 b6 b7 k j:Nat}{kk:Int}
theorem Mo(n:Nat)(h:n<32)(a:1≤n):bits .and .u64 (IntKind.u64.wrap (-(n:Int))) 31=((32-n:Nat):Int):=by
 have:∀n:Fin 32,1≤n.val->bits .and .u64 (IntKind.u64.wrap (-(n.val:Int))) 31=((32-n.val:Nat):Int):=by decide
 exact this ⟨n,h⟩ a
theorem Kn(x:Int)(n:Nat)(a:1≤n)(b:n≤31)(w:World) :
 Calls Tryz.prog 255 #[.int .u32 x,.int .i64 (-(n:Int))] w fun e c=>e=.returned (.int .u32 (rot x n))/\c=w:=by
 have h:=Mo n (by omega) a;go_in;go_wp2;go_ret;refine⟨?_,rfl⟩;have e:32-(32-n)=n:=by omega
 show Ending.returned (.int .u32 (bits BinOp.or IntKind.u32 (x*2 ^ (32-n) % 4294967296) (x / 2 ^ (32-(32-n)))))=_;rw[e,CR];rfl
theorem nT(x:Int)(n:Nat)(c:1≤n)(a:n≤31)(w:World) :
 Calls Tryz.prog 233 #[.int .u32 x,.int .i64 n] w fun e b=>e=.returned (.int .u32 (rot x n))/\b=w:=by
 go_in
 go_wp2_with (go_at_call 255;refine(Kn _ _ c a _).mono ?_;rintro e b ⟨rfl,rfl⟩)
 go_ret;exact⟨rfl,rfl⟩
theorem Bi(x n:Int)(c:1≤n)(a:n≤31)(w:World) :
 Calls Tryz.prog 233 #[.int .u32 x,.int .i64 n] w fun e b=>e=.returned (.int .u32 (rot x n.toNat))/\b=w:=by
 obtain⟨m,rfl⟩:=Int.eq_ofNat_of_zero_le (show 0≤n by omega);exact nT x m (by omega) (by omega) w
structure Win(w:World)(b i:Nat)(cs:Array Value)(x0 x7:Int):Prop where
 blk:w.heap[b]?=some (.cells cs 322 (0,0))
 c0:cs[i % 16]?=some (.int .u32 x0)
 c7:cs[(i-7) % 16]?=some (.int .u32 x7)
theorem Win.set{b i:Nat}{d c:Int}(h:Win w b i cs d c)(e:16≤i)(y:Int):Win (w.setCell ⟨b,i % 16,none⟩ (.int .u32 y)).drew b i (cs.setIfInBounds (i % 16) (.int .u32 y)) y c:=by
 have a:i % 16<cs.size:=(Array.getElem?_eq_some_iff.1 h.c0).1;refine⟨dO h.blk _ _,?_,?_⟩
 ·simp[a]
 ·rw[Array.getElem?_setIfInBounds_ne (by omega)];exact h.c7
theorem Mp(b i:Nat)(a w2 d c:Int)(p:Value)(cs:Array Value)(w:World)(l:16≤i)(h64:i<64)
 (n:Win w b i cs c d) (c1:cs[(i-15) % 16]?=some (.int .u32 a)) (c2:cs[(i-2) % 16]?=some (.int .u32 w2)) :
  Calls Tryz.prog 234 #[.pointer b,.int .i64 i,p] w fun e X=>e=.returned (.int .u32 (bI (bI (bI c (sg0 a)) d) (sg1 w2))) /\
   X.heap[b]?=some (.cells (cs.setIfInBounds (i % 16) (.int .u32 (bI (bI (bI c (sg0 a)) d) (sg1 w2)))) 322 (0,0))/\aA (fun k=>k=b) w X:=by
 have hd:decide ((i:Int)<16)=false:=by simp;omega
 have c0:=aC n.blk n.c0;have c1:=aC n.blk c1;have c2:=aC n.blk c2;have F:=O n;clear n;go_in;go_wp2_with fail
 go_quiet (fail)
 go_wp2_with fail;obtain⟨v,V,t,S⟩:∃v,w.drewN nq=v/\Win v b i cs c d/\Hid (aA (fun k=>k=b) w v):=⟨_,rfl,⟨F.out.blk,F.out.c0,F.out.c7⟩,O ((aA.refl _ _).drewN _)⟩
 rw[V];clear c0 c1 c2 V F;have G:=aC t.blk t.c0;have H:=dA t.blk (i % 16);have Q:=O t;clear t;have W:=nT a 7 (by omega) (by omega);have D:=nT a 18 (by omega) (by omega);have U:=O W;have r:=O D;clear W D
 go_still_tail 13,(by kernel_rfl)
 still_call (U.out _)
 repeat still_step
 still_call (r.out _)
 repeat still_step
 refine wpStill_nil ?_;go_wp2_with fail
 obtain⟨m,z,h,T⟩:∃m,(v.setCell ⟨b,i % 16,none⟩ (.int .u32 (bI c (sg0 a)))).drew=m/\Win m b i (cs.setIfInBounds (i % 16) (.int .u32 (bI c (sg0 a)))) (bI c (sg0 a)) d/\Hid (aA (fun k=>k=b) w m):=
  ⟨_,rfl,Q.set l _,O ((S.out.setCell (fun _=>rfl) _).drew)⟩
 have f:(v.setCell ⟨b,i % 16,none⟩ (.int .u32 ((c+bits BinOp.xor IntKind.u32 (bits BinOp.xor IntKind.u32 (rot a 7) (rot a 18)) (a / 8)) % 4294967296))).drew=m:=z;rw[f];clear z f G H Q S U r;have G:=aC h.blk h.c0;have d7:=aC h.blk h.c7;have H:=dA h.blk (i % 16);have R:=O h;clear h;have P:IntKind.i64.wrap ((i:Int)-7)=(i:Int)-7:=by rw[IntWalk.i64_in _ (by omega)]
 have N:((i:Int)-7).tmod 16=((i:Int)-7) % 16:=by rw[Int.tmod_eq_emod_of_nonneg (by omega)]
 have L:((i:Int)-7) % 16<16:=by omega
 have y:(0:Int)≤((i:Int)-7) % 16:=by omega
 have M:(((i:Int)-7) % 16).toNat=(i-7) % 16:=by omega
 go_still_tail 12,(by kernel_rfl)
 clear P N L y M;go_wp2_with fail
 obtain⟨o,A,u,Z⟩:∃o,(m.setCell ⟨b,i % 16,none⟩ (.int .u32 (bI (bI c (sg0 a)) d))).drew=o/\Win o b i (cs.setIfInBounds (i % 16) (.int .u32 (bI (bI c (sg0 a)) d))) (bI (bI c (sg0 a)) d) d/\Hid (aA (fun k=>k=b) w o):=
  ⟨_,rfl,by have:=R.set l (bI (bI c (sg0 a)) d);rwa [Array.setIfInBounds_setIfInBounds] at this,O ((T.out.setCell (fun _=>rfl) _).drew)⟩
 have g:(m.setCell ⟨b,i % 16,none⟩ (.int .u32 ((bI c (sg0 a)+d) % 4294967296))).drew=o:=A;rw[g];clear A g G d7 H R T;have G:=aC u.blk u.c0;have H:=dA u.blk (i % 16);have Y:=O u;clear u;have C:=nT w2 17 (by omega) (by omega);have E:=nT w2 19 (by omega) (by omega);have J:=O C;have K:=O E;clear C E
 go_still_tail 13,(by kernel_rfl)
 still_call (J.out _)
 repeat still_step
 still_call (K.out _)
 repeat still_step
 refine wpStill_nil ?_;go_wp2_with fail
 obtain⟨I,B,W4,K4⟩:∃I,(o.setCell ⟨b,i % 16,none⟩ (.int .u32 (bI (bI (bI c (sg0 a)) d) (sg1 w2)))).drew=I/\Win I b i (cs.setIfInBounds (i % 16) (.int .u32 (bI (bI (bI c (sg0 a)) d) (sg1 w2)))) (bI (bI (bI c (sg0 a)) d) (sg1 w2)) d/\Hid (aA (fun k=>k=b) w I):=
  ⟨_,rfl,by have:=Y.set l (bI (bI (bI c (sg0 a)) d) (sg1 w2));rwa [Array.setIfInBounds_setIfInBounds] at this,O ((Z.out.setCell (fun _=>rfl) _).drew)⟩
 go_ret;exact⟨rfl,by have:=W4.blk;rw[←B] at this;exact this,by have:=K4.out;rw[←B] at this;exact this⟩
theorem Mq(b i g o cap:Nat)(c d f h:Int)(y:Value)(cs:Array Value)(w:World)(u:i<16)(p:64≤cap)(a:cap≤maxLen)
 (l:w.heap[b]?=some (.cells cs 322 (0,0))) (hy:cs[i]?=some y)
 (c0:w.cell? ⟨g,o+4*i,none⟩=some (.int .u8 c)) (c1:w.cell? ⟨g,o+4*i+1,none⟩=some (.int .u8 d)) (c2:w.cell? ⟨g,o+4*i+2,none⟩=some (.int .u8 f)) (c3:w.cell? ⟨g,o+4*i+3,none⟩=some (.int .u8 h))
 (b0:0≤c/\c<256) (b1:0≤d/\d<256) (z:0≤f/\f<256) (A:0≤h/\h<256) :
  Calls Tryz.prog 234 #[.pointer b,.int .i64 i,.slice (some ⟨g,o,none⟩) 64 cap] w fun e r=>e=.returned (.int .u32 (yY c d f h)) /\
   r.heap[b]?=some (.cells (cs.setIfInBounds i (.int .u32 (yY c d f h))) 322 (0,0))/\aA (fun k=>k=b) w r:=by
 unfold maxLen at a;have D:decide ((i:Int)<16)=true:=by simp;omega
 have v:4*i+4-4*i=4:=by omega
 have m:i % 16=i:=by omega
 have B:w.cell? ⟨b,i % 16,none⟩=some y:=by rw[m];exact aC l hy
 have C:=dA l (i % 16);have t:=O l;have n:=O m;clear l m;go_in;go_wp2_with fail
 go_still_tail 24,(by kernel_rfl)
 go_wp2;go_ret;refine⟨rfl,?_,?_⟩
 ·have:=dO t.out (i % 16) (.int .u32 (yY c d f h))
  rw[n.out] at this;rw[n.out];exact this
 ·exact((aA.refl (fun k=>k=b) w).setCell (fun _=>rfl) _).drew
open Go.RowKit
set_option maxRecDepth 100000
def Cj(w:World)(l:List Int)(e:Ending)(w':World):Prop:=e=.returned (.agg (l.map vW).toArray)/\aA aB w w'
def pO:Value:=.agg (Array.replicate 64 (.int .u32 0))
def Iv:Value:=.agg (Array.replicate 16 (.int .u32 0))
def jF:Value:=.agg (Array.replicate 8 (.int .u32 0))
theorem LW(w:World):(zeroValue 319).run Tryz.prog w=.ok pO w:=by kernel_rfl
theorem Mr(w:World):(zeroValue 322).run Tryz.prog w=.ok Iv w:=by kernel_rfl
theorem Nv(w:World):(zeroValue 275).run Tryz.prog w=.ok jF w:=by kernel_rfl
theorem uK(w:World):(zeroValue 276).run Tryz.prog w=.ok jF w:=by kernel_rfl
theorem Iw:(Tryz.prog.info? 319).map (·.size)=some 64:=by kernel_rfl
theorem Og:(Tryz.prog.info? 275).map (·.size)=some 8:=by kernel_rfl
theorem fZ:(Tryz.prog.info? 276).map (·.size)=some 8:=by kernel_rfl
theorem gP(l:List Int):∀u∈l.map vW,u.oneCell'=true:=by
 intro u a;obtain⟨b,_,rfl⟩:=List.mem_map.1 a;rfl
theorem Bj:(spl pO.cells 0 (jC.map vW))=(jC.map vW).toArray:=aK _ _ (by simp[pO,Value.cells,jC])
theorem Ge:(spl jF.cells 0 (nS.map vW))=(nS.map vW).toArray:=aK _ _ (by simp[jF,Value.cells,nS])
theorem Bl{w0:World}{l:List Int}(h:cs=(l.map vW).toArray)(b:aA aB w w0)(a:aA (fun k=>k=w.heap.size) w0 w1):Cj w l (.returned (.agg cs)) w1:=
 ⟨by rw[h],b.trans' a (fun _ _ h=>h) (fun i c h=>by omega)⟩
theorem Ko(w:World):Calls Tryz.prog 232 #[] w (Cj w jC):=by
 go_in
 go_wp2_with (first
  | (refine fR rfl 319 rfl pO LW ?_)
  | (refine Great.wpList_readTo rfl (some 1) rfl (.agg (jC.map vW).toArray) (by kernel_rfl) ?_)
  | (refine aR rfl 319 (.tmp 0) (.tmp 1) rfl w.heap.size 0 (jC.map vW) rfl rfl _ _ (heap_alloc_new _ _) (by simp[pO,Value.cells,jC]) Iw (gP _) ?_;intro w1 a b;have c:=O a;have d:=O b;clear a b))
 refine bodyPost_ret (results_cell_row rfl _ _ w.heap.size _ _ _ _ rfl c.out Tryz.underlying319 rfl (by rw[eU];kernel_rfl)) rfl (Bl Bj ((aA.refl _ _).alloc _) d.out)
theorem Iy(w:World):Calls Tryz.prog 196 #[] w (Cj w nS):=by
 go_in
 go_wp2_with (first
  | (refine fR rfl 275 rfl jF Nv ?_)
  | (refine Great.wpList_readTo rfl (some 1) rfl (.agg (nS.map vW).toArray) (by kernel_rfl) ?_)
  | (refine aR rfl 275 (.tmp 0) (.tmp 1) rfl w.heap.size 0 (nS.map vW) rfl rfl _ _ (heap_alloc_new _ _) (by simp[jF,Value.cells,nS]) Og (gP _) ?_;intro w1 a b;have c:=O a;have d:=O b;clear a b))
 refine bodyPost_ret (results_cell_row rfl _ _ w.heap.size _ _ _ _ rfl c.out Tryz.underlying275 rfl (by rw[eU];kernel_rfl)) rfl (Bl Ge ((aA.refl _ _).alloc _) d.out)
def byt(bs:List UInt8)(j:Nat):Int:=((bs.getD j 0).toNat:Int)
theorem yZ(bs:List UInt8)(j:Nat):0≤byt bs j/\byt bs j<256:=by
 unfold byt;have:=(bs.getD j 0).toNat_lt;omega
def CU(w:World)(b i:Nat)(q:Nat->Int)(e:Ending)(w':World):Prop:=
 e=.returned (.int .u32 (wrd q i))/\w'.heap[b]?=some (.cells (win q (i+1)) 322 (0,0))/\aA (fun k=>k=b) w w'
theorem Kp(b i:Nat)(p:Value)(bs:List UInt8)(w:World)(r:i<64)(C:bs.length=64)(D:Rd w 1 p 64 (bs.map vb))(t:w.heap[b]?=some (.cells (win (byt bs) i) 322 (0,0))) :
 Calls Tryz.prog 234 #[.pointer b,.int .i64 i,p] w (CU w b i (byt bs)):=by
 by_cases c:i<16
 ·obtain⟨h0,a,h,rfl,y,z,G,A⟩:=D
  obtain⟨g,o,rfl,B⟩:=A (by simp[C])
  have cell:∀j,j<64->w.cell? ⟨g,o+j,none⟩=some (.int .u8 (byt bs j)):=fun j H=>B j _ (by
   have:j<bs.length:=by omega
   simp[vb,byt,this])
  have E:(win (byt bs) i)[i]?=some ((win (byt bs) i)[i]'(by rw[xM];omega)):=by simp[xM,c]
  refine(Mq b i g o h (byt bs (4*i)) (byt bs (4*i+1)) (byt bs (4*i+2)) (byt bs (4*i+3)) _ _ w c y z t E (cell _ (by omega)) (cell (4*i+1) (by omega)) (cell (4*i+2) (by omega)) (cell (4*i+3) (by omega)) (yZ _ _) (yZ _ _) (yZ _ _) (yZ _ _)).mono ?_;rintro e F ⟨rfl,m,n⟩;have f:wrd (byt bs) i=yY (byt bs (4*i)) (byt bs (4*i+1)) (byt bs (4*i+2)) (byt bs (4*i+3)):=by rw[wrd,dif_pos c]
  refine⟨by rw[f],?_,n⟩;rw[win,f,show i % 16=i by omega];exact m
 ·have d:=rM (byt bs) i (i-16) (by omega) (by omega)
  have l:=rM (byt bs) i (i-15) (by omega) (by omega);have v:=rM (byt bs) i (i-7) (by omega) (by omega);have u:=rM (byt bs) i (i-2) (by omega) (by omega);rw[show (i-16) % 16=i % 16 by omega] at d;refine(Mp b i (wrd (byt bs) (i-15)) (wrd (byt bs) (i-2)) (wrd (byt bs) (i-7)) (wrd (byt bs) (i-16)) p _ w (by omega) r ⟨t,d,v⟩ l u).mono ?_;rintro e F ⟨rfl,m,n⟩;have f:wrd (byt bs) i=bI (bI (bI (wrd (byt bs) (i-16)) (sg0 (wrd (byt bs) (i-15)))) (wrd (byt bs) (i-7))) (sg1 (wrd (byt bs) (i-2))):=by rw[wrd,dif_neg c]
  refine⟨by rw[f],?_,n⟩;rw[win,f];exact m
open Go.RowKit
set_option maxRecDepth 100000
attribute [local go_sem ↓] Go.wp_at_zero Go.wp_at_succ
def CV:Array Value:=(jC.map vW).toArray
def LX(w:World)(vs:List Value)(s:St)(a b:Value)(w':World):Prop:=
 ∃b5 b6,a=.pointer (some ⟨b5,0,none⟩)/\b=.pointer (some ⟨b6,0,none⟩)/\w'.heap[b5]?=some (.cells (s.l.map vW).toArray 276 (0,0))/\w'.heap[b6]?=some (.cells CV 319 (0,0)) /\
  aA aB ((w.alloc (.cells vs.toArray 276)).alloc (.cells jF.cells 276)) w'/\w.heap.size+2≤b5/\w.heap.size+2≤b6
def CW(B:Nat)(s:St)(i:Nat)(v:Value)(w:World):Prop:=
 match i with
 | 0=>v=.agg (s.l.map vW).toArray
 | 1=>v=.agg CV
 | 2=>∃b,v=.pointer (some ⟨b,0,none⟩)/\w.heap[b]?=some (.cells jF.cells 276 (0,0))/\B≤b
 | 3=>∃b,v=.pointer (some ⟨b,0,none⟩)/\w.heap[b]?=some (.cells pO.cells 319 (0,0))/\B≤b
 | _=>True
theorem Gf(B:Nat)(s:St)(i:Nat)(v:Value)(w w':World)(h:CW B s i v w)(e:aA aB w w'):CW B s i v w':=by
 unfold CW at *;split
 ·exact h
 ·exact h
 ·obtain⟨b,a,c,d⟩:=h;exact⟨b,a,e.blk c id,d⟩
 ·obtain⟨b,a,c,d⟩:=h;exact⟨b,a,e.blk c id,d⟩
 ·trivial
def Gg:Array Value:=Array.replicate 16 (.int .u32 0)
structure TR(w wr:World)(q:Nat->Int)(s x:St)(b5 b6 b7 k:Nat):Prop where
 st:wr.heap[w.heap.size]?=some (.cells (x.l.map vW).toArray 276 (0,0))
 res:wr.heap[w.heap.size+1]?=some (.cells jF.cells 276 (0,0))
 was:wr.heap[b5]?=some (.cells (s.l.map vW).toArray 276 (0,0))
 key:wr.heap[b6]?=some (.cells CV 319 (0,0))
 win:wr.heap[b7]?=some (.cells (win q k) 322 (0,0))
 keep:aA aB w wr
 l5:w.heap.size+2≤b5
 l6:w.heap.size+2≤b6
 l7:w.heap.size+2≤b7
theorem TR.ne(h:TR w wr q s x b5 b6 b7 k):b7≠b5/\b7≠b6:=by
 refine⟨fun e=>?_,fun e=>?_⟩
 ·have a:=h.win;rw[e,h.was] at a;simp only[Option.some.injEq,Obj.cells.injEq] at a;exact absurd a.2.1 (by decide)
 ·have a:=h.win;rw[e,h.key] at a;simp only[Option.some.injEq,Obj.cells.injEq] at a;exact absurd a.2.1 (by decide)
theorem TR.same{a:World}(h:TR w wr q s x b5 b6 b7 k)(b:a.heap=wr.heap)(c:aA aB wr a):TR w a q s x b5 b6 b7 k:=
 ⟨by rw[b];exact h.st,by rw[b];exact h.res,by rw[b];exact h.was,by rw[b];exact h.key,by rw[b];exact h.win,h.keep.trans c,h.l5,h.l6,h.l7⟩
theorem TR.word(h:TR w w1 q s x b5 b6 b7 k){e:Ending}(d:CU w1 b7 k q e w2):TR w w2 q s x b5 b6 b7 (k+1):=by
 obtain⟨_,c,a⟩:=d;have l7:=h.l7;have b:=h.ne;exact⟨a.blk h.st (by omega),a.blk h.res (by omega),a.blk h.was (Ne.symm b.1),a.blk h.key (Ne.symm b.2),c,h.keep.trans' a (fun _ _ h=>h) (fun i f e=>by omega),h.l5,h.l6,h.l7⟩
theorem TR.turn(h:TR w w1 q s x b5 b6 b7 k)(y:St)(b:w2.heap[w.heap.size]?=some (.cells (y.l.map vW).toArray 276 (0,0)))(a:aA (fun k=>k=w.heap.size) w1 w2):TR w w2 q s y b5 b6 b7 k:=by
 have l5:=h.l5;have l6:=h.l6;have l7:=h.l7;exact⟨b,a.blk h.res (by omega),a.blk h.was (by omega),a.blk h.key (by omega),a.blk h.win (by omega),h.keep.trans' a (fun _ _ h=>h) (fun i c e=>by omega),h.l5,h.l6,h.l7⟩
theorem TR.cells(h:TR w wr q s x b5 b6 b7 k)(a:k<64) :
 wr.cell? ⟨w.heap.size,0,none⟩=some (.int .u32 x.a)/\wr.cell? ⟨w.heap.size,1,none⟩=some (.int .u32 x.b)/\wr.cell? ⟨w.heap.size,2,none⟩=some (.int .u32 x.c)/\wr.cell? ⟨w.heap.size,3,none⟩=some (.int .u32 x.d) /\
 wr.cell? ⟨w.heap.size,4,none⟩=some (.int .u32 x.e)/\wr.cell? ⟨w.heap.size,5,none⟩=some (.int .u32 x.f)/\wr.cell? ⟨w.heap.size,6,none⟩=some (.int .u32 x.g)/\wr.cell? ⟨w.heap.size,7,none⟩=some (.int .u32 x.h) /\
 wr.cell? ⟨b6,k,none⟩=some (.int .u32 (jC.getD k 0)):=
 ⟨aC h.st rfl,aC h.st rfl,aC h.st rfl,aC h.st rfl,aC h.st rfl,aC h.st rfl,aC h.st rfl,aC h.st rfl,aC h.key (by
  have:k<jC.length:=by rw[show jC.length=64 from rfl];exact a
  simp[CV,vW,this])⟩
theorem TR.four(h:TR w wr q s x b5 b6 b7 (k+1))(a:kk=jC.getD k 0) :
 wr.cell? ⟨w.heap.size,7,none⟩=some (.int .u32 x.h)/\wr.cell? ⟨w.heap.size,5,none⟩=some (.int .u32 x.f)/\wr.cell? ⟨w.heap.size,6,none⟩=some (.int .u32 x.g)/\(k<64->wr.cell? ⟨b6,k,none⟩=some (.int .u32 kk)):=
 ⟨aC h.st rfl,aC h.st rfl,aC h.st rfl,fun b=>by
  subst a
  exact aC h.key (by
   have:k<jC.length:=by rw[show jC.length=64 from rfl];exact b
   simp[CV,vW,this])⟩
theorem TR.eight(h:TR w wr q s x b5 b6 b7 k) :
 wr.cell? ⟨w.heap.size,0,none⟩=some (.int .u32 x.a)/\wr.cell? ⟨w.heap.size,1,none⟩=some (.int .u32 x.b)/\wr.cell? ⟨w.heap.size,2,none⟩=some (.int .u32 x.c)/\wr.cell? ⟨w.heap.size,3,none⟩=some (.int .u32 x.d) /\
 wr.cell? ⟨w.heap.size,4,none⟩=some (.int .u32 x.e)/\wr.cell? ⟨w.heap.size,5,none⟩=some (.int .u32 x.f)/\wr.cell? ⟨w.heap.size,6,none⟩=some (.int .u32 x.g)/\wr.cell? ⟨w.heap.size,7,none⟩=some (.int .u32 x.h):=
 ⟨aC h.st rfl,aC h.st rfl,aC h.st rfl,aC h.st rfl,aC h.st rfl,aC h.st rfl,aC h.st rfl,aC h.st rfl⟩
theorem TR.roundEnd(h:TR w w1 q s x b5 b6 b7 (k+1)){t u:Int}
 (b:w2.heap[w.heap.size]?=some (.cells (spl (x.l.map vW).toArray 0 ((⟨bI t u,x.a,x.b,x.c,bI x.d t,x.e,x.f,x.g⟩:St).l.map vW)) 276 (0,0))) (c:aA (fun k=>k=w.heap.size) w1 w2) (a:kk=jC.getD k 0) (f:x=sL q s k) (d:CS x kk (wrd q k)=t) (e:Ga x=u) :
 Hid (TR w w2 q s (sL q s (k+1)) b5 b6 b7 (k+1)):=by
 subst d;subst e;subst a;subst f;rw[aK _ _ (by simp[St.l])] at b;exact O (h.turn _ b c)
structure TS(w wr:World)(s:St)(b5:Nat)(L:List Int):Prop where
 st:wr.heap[w.heap.size]?=some (.cells (L.map vW).toArray 276 (0,0))
 res:wr.heap[w.heap.size+1]?=some (.cells jF.cells 276 (0,0))
 was:wr.heap[b5]?=some (.cells (s.l.map vW).toArray 276 (0,0))
 keep:aA aB w wr
 l5:w.heap.size+2≤b5
theorem TS.of(h:TR w wr q s x b5 b6 b7 k):Hid (TS w wr s b5 (oI x s 0)):=
 O ⟨h.st,h.res,h.was,h.keep,h.l5⟩
theorem TS.cells(h:TS w wr s b5 (oI x s j))(a:j<8) :
 wr.cell? ⟨w.heap.size,j,none⟩=some (.int .u32 (x.at j))/\wr.cell? ⟨b5,j,none⟩=some (.int .u32 (s.at j))/\wr.frozen? ⟨w.heap.size,j,none⟩=false:=
 ⟨aC h.st (by simp[Kg x s j a,vW]),aC h.was (by simp[St.at_get s j a,vW]),dA h.st j⟩
theorem TS.step(h:TS w wr s b5 (oI x s j))(y:Int)(hy:y=bI (x.at j) (s.at j)) :
 Hid (TS w (wr.setCell ⟨w.heap.size,j,none⟩ (.int .u32 y)).drew s b5 (oI x s (j+1))):=by
 subst hy;have l5:=h.l5;have K:aA (fun k=>k=w.heap.size) wr (wr.setCell ⟨w.heap.size,j,none⟩ (.int .u32 (bI (x.at j) (s.at j)))).drew:=((aA.refl (fun k=>k=w.heap.size) wr).setCell (fun _=>rfl) _).drew;refine O ⟨?_,K.blk h.res (by omega),K.blk h.was (by omega),h.keep.trans' K (fun _ _ h=>h) (fun i a e=>by omega),l5⟩;have:=dO h.st j (vW (bI (x.at j) (s.at j)));rw[List.setIfInBounds_toArray,←List.map_set,Ir] at this;exact this
theorem Gh(s:St)(p:Value)(bs:List UInt8)(w:World)(M:bs.length=64)(r:Rd w 1 p 64 (bs.map vb)) :
 Calls Tryz.prog 198 #[.agg (s.l.map vW).toArray,p] w (Cj w (uH (byt bs) s).l):=by
 have HP:=O r;clear r;have hv:∃z,s.l.map vW=z/\z.length=8/\∀v∈z,v.oneCell'=true:=⟨_,rfl,by simp[St.l],gP _⟩
 obtain⟨z,P,b,X⟩:=hv;rw[P];have HV:=O P;clear P;go_in
 go_upto_region 1 with (first
  | (refine fR rfl 276 rfl jF uK ?_))
 simp only[Act.put,List.setIfInBounds_toArray,List.set_cons_succ,List.set_cons_zero]
 go_cut [5,6,14,15] (fun v5 v6 v14 v15 wc=>Hid (LX w z s v5 v6 wc))
 case first =>
  refine yL (by kernel_rfl) 4 (by kernel_rfl) (by decide) (by kernel_rfl) (CW (w.heap.size+2) s) (Gf (w.heap.size+2) s) (fun E=>E.heap[w.heap.size]?=some (.cells z.toArray 276 (0,0))/\aA aB ((w.alloc (.cells z.toArray 276)).alloc (.cells jF.cells 276)) E)
   (fun w1 w2 h m=>⟨m.blk h.1 id,h.2.trans m⟩) ?_ ⟨heap_alloc2_old _ _ _,(aA.refl _ _).drew⟩ ?_
  ·intro i o V ho w1 d
   rcases (show i=0\/i=1\/i=2\/i=3 by omega) with rfl|rfl|rfl|rfl
   ·cases Option.some.inj ho
    exact BT _ _ rfl w.heap.size 0 rfl z _ (aD d.1) Tryz.underlying276 rfl (by rw[b];exact fZ) ⟨aA.refl _ _,by rw[CW,HV.out]⟩
   ·cases Option.some.inj ho
    refine Hs (f:=232) (args:=#[]) (by kernel_rfl) ((Ko w1).mono ?_);rintro e w2 ⟨rfl,m⟩;exact⟨_,rfl,m,rfl⟩
   ·cases Option.some.inj ho
    exact yM _ rfl jF uK ⟨(aA.refl _ _).alloc _,_,rfl,heap_alloc_new _ _,by have:=d.2.size;simpa using this⟩
   ·cases Option.some.inj ho
    exact yM _ rfl pO LW ⟨(aA.refl _ _).alloc _,_,rfl,heap_alloc_new _ _,by have:=d.2.size;simpa using this⟩
  ·intro v listed w1 M hF r
   have l0:=M 0 (by omega);have l1:=M 1 (by omega);have l2:=M 2 (by omega);have l3:=M 3 (by omega);have p0:=r 0 (by omega);have p1:=r 1 (by omega);have p2:=r 2 (by omega);have p3:=r 3 (by omega);simp only[dD,l0,l1,l2,l3,if_true];obtain⟨b2,e2,J,hB2⟩:=p2;obtain⟨b3,e3,B,hB3⟩:=p3;rw[e2,e3,show v 0=_ from p0,show v 1=_ from p1];have W:b3≠b2:=by intro e;rw[e,J] at B;cases B
   simp only[List.drop_succ_cons,List.drop_zero];refine aR rfl 276 (.tmp 5) (.tmp 14) rfl b2 0 z rfl (by rw[←HV.out];rfl) _ _ J (by rw[b];decide) (by rw[b];exact fZ) X ?_;intro w2 Y c;refine aR rfl 319 (.tmp 6) (.tmp 15) rfl b3 0 (jC.map vW) rfl rfl _ _ (c.blk B W) (by decide) Iw (gP _) ?_;intro S Z K;refine wpList_nil ?_;simp only[List.getElem?_toArray,List.getElem?_cons_zero,List.getElem?_cons_succ,Option.bind_some,Act.put,List.setIfInBounds_toArray,List.set_cons_succ,List.set_cons_zero]
   have R:Hid (LX w z s (.pointer b2) (.pointer b3) S):=by
    refine O ⟨b2,b3,rfl,rfl,?_,?_,?_,hB2,hB3⟩
    ·have:=K.blk Y (Ne.symm W)
     rwa [aK _ _ (by rw[b];rfl),←HV.out] at this
    ·rwa [Bj] at Z
    ·exact(hF.2.trans' c (fun _ _ h=>h) (fun i V e=>by simp at V;omega)).trans' K (fun _ _ h=>h) (fun i V e=>by simp at V;omega)
   clear Y c Z K hF p0 p1 J B l0 l1 l2 l3 r M e2 e3;go_wp2_with fail
   go_meet
   case rel=>exact R
 case rest =>
  obtain⟨b5,b6,rfl,rfl,h5,h6,m,l5,l6⟩:=hcut.out
  have R0:Hid (TR w (wc.alloc (.cells Gg 322)) (byt bs) s s b5 b6 wc.heap.size 0):=by
   have hsz:=m.size;simp only[World.size_alloc] at hsz;have U:aA aB wc (wc.alloc (.cells Gg 322)):=(aA.refl _ _).alloc _;refine O ⟨U.blk (by rw[HV.out];exact m.blk (heap_alloc2_old _ _ _) id) id,U.blk (m.blk (heap_alloc2_new _ _ _) id) id,U.blk h5 id,U.blk h6 id,heap_alloc_new _ _,?_,l5,l6,by omega⟩;exact((((aA.refl _ _).alloc _).alloc _).trans m).trans U
  clear h5 h6 m l5 l6 hcut
  go_wp2_with (refine aV rfl 322 rfl Iv Mr Gg rfl ?_)
  generalize wc.alloc (.cells Gg 322)=w0 at *;generalize wc.heap.size=b7 at *
  go_loopw [16] (fun i wr=>∃k:Nat,k≤64/\i=.int .i64 k/\Hid (TR w wr (byt bs) s (sL (byt bs) s k) b5 b6 b7 k)) (fun i _=>64-(intOf i).toNat)
  case atStart=>exact⟨0,by omega,rfl,R0⟩
  case round =>
   obtain⟨k,m,rfl,hR⟩:=hrel
   by_cases C:k<64
   ·obtain⟨x,hx⟩:∃x,x=sL (byt bs) s k:=⟨_,rfl⟩
    rw[←hx] at hR;have HX:=O hx;clear hx;obtain⟨c0,c1,c2,c3,c4,Q,c6,c7,ck⟩:=hR.out.cells C;go_wp2_with fail
    go_quiet (fail)
    go_wp2_with fail;obtain⟨w1,d,F⟩:∃w1,wr.drewN nq=w1/\Hid (TR w w1 (byt bs) s x b5 b6 b7 k):=⟨_,rfl,O (hR.out.same rfl ((aA.refl _ _).drewN _))⟩
    rw[d];clear d hR c0 c1 c2 c3 c4 Q c6 c7 ck;obtain⟨c0,c1,c2,c3,c4,Q,c6,c7,ck⟩:=F.out.cells C
    have y:∀w2:World,w2.heap=w1.heap->aA aB w1 w2->Calls Tryz.prog 234 #[.pointer b7,.int .i64 k,p] w2 (fun e S=>e=.returned (.int .u32 (wrd (byt bs) k))/\TR w S (byt bs) s x b5 b6 b7 (k+1)):=by
     intro w2 hh c;have R2:=F.out.same hh c;refine(Kp b7 k p bs w2 C M (HP.keep R2.keep fun _ _=>id) R2.win).mono ?_;intro e S r;exact⟨r.1,R2.word r⟩
    have HW:=O y;clear y;have hk1:(0:Int)≤(k:Int):=by omega
    have c:(k:Int)<64:=by omega
    obtain⟨kk,L⟩:∃kk,kk=jC.getD k 0:=⟨_,rfl⟩
    rw[←L] at ck;have T:=O L;clear L c0 c1 c2 c3 c4;have K0:=O (aA.refl aB w1)
    go_region_held3 (fun E=>E.cell? ⟨w.heap.size,7,none⟩=some (.int .u32 x.h)/\E.cell? ⟨w.heap.size,5,none⟩=some (.int .u32 x.f)/\E.cell? ⟨w.heap.size,6,none⟩=some (.int .u32 x.g)/\E.cell? ⟨b6,k,none⟩=some (.int .u32 kk))
     (first|go_keep|(exact⟨g.out.1,g.out.2.1,g.out.2.2.1,g.out.2.2.2 C⟩))
     (first
       | (go_at_call 233;refine(Bi _ _ (by omega) (by omega) _).mono ?_;rintro e E ⟨rfl,rfl⟩)
       | (go_at_call 234;refine(HW.out w1.drew rfl ((aA.refl _ _).drew)).mono ?_;rintro e S ⟨rfl,G⟩;have g:=O (TR.four G T.out)))
    go_wp2_with fail;obtain⟨t,ht⟩:∃t,CS x kk (wrd (byt bs) k)=t:=⟨_,rfl⟩
    have N:=ht;unfold CS bI kA sK LU at N;simp only[N];have HT:=O ht;clear ht N;have H:=O G;clear G g HW K0 F ck;obtain⟨c0,c1,c2,c3,c4,Q,c6,c7⟩:=TR.eight H.out
    go_quiet (first|(go_at_call 233;refine Calls.quiet_of_same (Bi _ _ (by omega) (by omega) _)))
    obtain⟨w4,hw4,A⟩:∃w4,S.drewN nq=w4/\Hid (TR w w4 (byt bs) s x b5 b6 b7 (k+1)):=⟨_,rfl,O (H.out.same rfl ((aA.refl _ _).drewN _))⟩
    rw[hw4];obtain⟨u,hu⟩:∃u,Ga x=u:=⟨_,rfl⟩
    have D:=hu;unfold Ga bI kA sK at D;simp only[IntKind.wrap_u32] at D;simp only[D];have HU:=O hu;clear hu D;clear hw4 H c0 c1 c2 c3 c4 Q c6 c7;obtain⟨c0,c1,c2,c3,c4,Q,c6,c7⟩:=TR.eight A.out
    go_wp2_with (with_reducible show WL none (.store 276 (.tmp 2) (.tmp 94));refine aR rfl 276 (.tmp 2) (.tmp 94) rfl w.heap.size 0 ((⟨bI t u,x.a,x.b,x.c,bI x.d t,x.e,x.f,x.g⟩:St).l.map vW) rfl rfl _ _ A.out.st (by simp[St.l]) (by simp[St.l,fZ]) (gP _) ?_;intro w5 l n;have hR6:=TR.roundEnd A.out l n T.out HX.out HT.out HU.out;clear l n A c0 c1 c2 c3 c4 Q c6 c7)
    go_roundw
    case rel=>exact⟨k+1,by omega,by go_num,hR6⟩
    case measure=>simp[intOf];omega
   ·obtain rfl:k=64:=by omega
    go_wp2_with fail;rw[show (Value.int .i64 ((64:Nat):Int))=Value.int .i64 64 from rfl];have S0:=TS.of hR.out;clear hR;obtain⟨wo,rfl⟩:∃wo:World,wo=wr:=⟨_,rfl⟩
    go_loopw [96] (fun i wr=>∃j:Nat,j≤8/\i=.int .i64 j/\Hid (TS w wr s b5 (oI (sL (byt bs) s 64) s j))) (fun i _=>8-(intOf i).toNat)
    case atStart=>exact⟨0,by omega,rfl,S0⟩
    case round =>
     obtain⟨j,hj,rfl,I⟩:=hrel
     by_cases hjl:j<8
     ·obtain⟨x,hx⟩:∃x,sL (byt bs) s 64=x:=⟨_,rfl⟩
      rw[hx] at I ⊢;obtain⟨cx,cs,fx⟩:=I.out.cells hjl;have hj0:(0:Int)≤(j:Int):=by omega
      have hj8:(j:Int)<8:=by omega
      go_wp2_with fail
      go_still_tail 8,(by kernel_rfl)
      go_wp2
      go_roundw
      case rel=>exact⟨j+1,by omega,by go_num,I.out.step _ rfl⟩
      case measure=>simp[intOf];omega
     ·obtain rfl:j=8:=by omega
      rw[Kf] at I;have a:((uH (byt bs) s).l.map vW).length=8:=rfl
      go_wp2_with (first
       | (with_reducible show WL (some 108) (.load 276 (.tmp 2));refine wpList_load_mid rfl 276 (.tmp 2) rfl w.heap.size 0 rfl ((uH (byt bs) s).l.map vW) _ (aD I.out.st) Tryz.underlying276 rfl (by rw[a];exact fZ) ?_)
       | (with_reducible show WL none (.store 276 (.tmp 4) (.tmp 108));refine aR rfl 276 (.tmp 4) (.tmp 108) rfl (w.heap.size+1) 0 ((uH (byt bs) s).l.map vW) rfl rfl _ _ I.out.res (by rw[a];decide) (by rw[a];exact fZ) (gP _) ?_;intro w5 l n;have HB5:=O l;have HK5:=O n;clear l n))
      refine bodyPost_ret (results_cell_row rfl _ _ (w.heap.size+1) _ _ _ _ rfl HB5.out Tryz.underlying276 rfl (by rw[eU];exact fZ)) rfl ⟨?_,?_⟩
      ·rw[aK _ _ (by rw[a];rfl)]
      ·exact I.out.keep.trans' HK5.out (fun _ _ h=>h) (fun i V e=>by omega)
end
section
open Go.RowKit
open Go.RowKit
theorem bN{P:Program}{b:Func}{p u:Tmp}{a:TypeId}(h:b.results=#[.cell p a,.tmp u])(tmps:Array Value)(w:World)(g:Nat)(t:TypeId)(cs:Array Value)(c:Nat×Nat)(d:TypeDesc)
 (l:tmps.getD p undef=.pointer g) (f:w.heap[g]?=some (.cells cs t c))
 (m:P.underlying a=some d) (e:(match d with|.struct _|.array _ _=>true|_=>false)=true) (i:(P.info? a).map (·.size)=some cs.size) :
 (results b tmps).run P w=.ok (.tuple #[.agg cs,tmps.getD u undef]) w:=by
 rw[results_cell_tmp h,l];simp[asAddr,run_loadVar_row w g t a cs c d f m e i]
end
end Go.Proofs.YtiinnfhjpaeffaaGreat
