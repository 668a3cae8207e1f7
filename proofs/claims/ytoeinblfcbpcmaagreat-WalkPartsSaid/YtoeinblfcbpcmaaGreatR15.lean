import Derived.Test.YtoeinblfcbpcmaaGreatR2
import Derived.Test.YtoeinblfcbpcmaaGreatR13
import Derived.Test.YtoeinblfcbpcmaaGreatR14
import Derived.Great.Walk
import Derived.Deep.DeepCutAuto
import Derived.Deep.DrawnRows
import Derived.Laws.ResultCell
namespace Go.Proofs.YtoeinblfcbpcmaaGreat
open Tryz
set_option maxHeartbeats 0
set_option maxRecDepth 100000
set_option linter.unusedVariables false
section
open Go.RowKit
variable{w w1 w2:World}{cs:Array Value}{q:Nat->Int}{s x:St}{b5 b6 b7 k j:Nat}{kk:Int}
theorem Ow(n:Nat)(h:n<32)(a:1≤n):bits .and .u64 (IntKind.u64.wrap (-(n:Int))) 31=((32-n:Nat):Int):=by
 have:∀n:Fin 32,1≤n.val->bits .and .u64 (IntKind.u64.wrap (-(n.val:Int))) 31=((32-n.val:Nat):Int):=by decide
 exact this ⟨n,h⟩ a
theorem Mr(x:Int)(n:Nat)(a:1≤n)(b:n≤31)(w:World) :
 Calls prog 235 #[.int .u32 x,.int .i64 (-(n:Int))] w fun e c=>e=.returned (.int .u32 (rot x n))/\c=w:=by
 have h:=Ow n (by omega) a;go_in;go_wp2;go_ret;refine⟨?_,rfl⟩;have e:32-(32-n)=n:=by omega
 show Ending.returned (.int .u32 (bits BinOp.or IntKind.u32 (x*2 ^ (32-n) % 4294967296) (x / 2 ^ (32-(32-n)))))=_;rw[e,Ei];rfl
theorem oX(x:Int)(n:Nat)(c:1≤n)(a:n≤31)(w:World) :
 Calls prog 214 #[.int .u32 x,.int .i64 n] w fun e b=>e=.returned (.int .u32 (rot x n))/\b=w:=by
 go_in
 go_wp2_with (go_at_call 235;refine(Mr _ _ c a _).mono ?_;rintro e b ⟨rfl,rfl⟩)
 go_ret;exact⟨rfl,rfl⟩
theorem CD(x n:Int)(c:1≤n)(a:n≤31)(w:World) :
 Calls prog 214 #[.int .u32 x,.int .i64 n] w fun e b=>e=.returned (.int .u32 (rot x n.toNat))/\b=w:=by
 obtain⟨m,rfl⟩:=Int.eq_ofNat_of_zero_le (show 0≤n by omega);exact oX x m (by omega) (by omega) w
structure Win(w:World)(b i:Nat)(cs:Array Value)(x0 x7:Int):Prop where
 blk:w.heap[b]?=some (.cells cs 302 (0,0))
 c0:cs[i % 16]?=some (.int .u32 x0)
 c7:cs[(i-7) % 16]?=some (.int .u32 x7)
theorem Win.set{b i:Nat}{d c:Int}(h:Win w b i cs d c)(e:16≤i)(y:Int):Win (w.setCell ⟨b,i % 16,none⟩ (.int .u32 y)).drew b i (cs.setIfInBounds (i % 16) (.int .u32 y)) y c:=by
 have a:i % 16<cs.size:=(Array.getElem?_eq_some_iff.1 h.c0).1;refine⟨dQ h.blk _ _,?_,?_⟩
 ·simp[a]
 ·rw[Array.getElem?_setIfInBounds_ne (by omega)];exact h.c7
theorem Ox(b i:Nat)(a w2 d c:Int)(p:Value)(cs:Array Value)(w:World)(l:16≤i)(qa:i<64)
 (n:Win w b i cs c d) (c1:cs[(i-15) % 16]?=some (.int .u32 a)) (c2:cs[(i-2) % 16]?=some (.int .u32 w2)) :
  Calls prog 215 #[.pointer b,.int .i64 i,p] w fun e X=>e=.returned (.int .u32 (bI (bI (bI c (sg0 a)) d) (sg1 w2))) /\
   X.heap[b]?=some (.cells (cs.setIfInBounds (i % 16) (.int .u32 (bI (bI (bI c (sg0 a)) d) (sg1 w2)))) 302 (0,0))/\aA (fun k=>k=b) w X:=by
 have hd:decide ((i:Int)<16)=false:=by simp;omega
 have c0:=aC n.blk n.c0;have c1:=aC n.blk c1;have c2:=aC n.blk c2;have F:=O n;clear n;go_in;go_wp2_with fail
 go_quiet (fail)
 go_wp2_with fail;obtain⟨v,V,t,S⟩:∃v,w.drewN nq=v/\Win v b i cs c d/\Hid (aA (fun k=>k=b) w v):=⟨_,rfl,⟨F.out.blk,F.out.c0,F.out.c7⟩,O ((aA.refl _ _).drewN _)⟩
 rw[V];clear c0 c1 c2 V F;have G:=aC t.blk t.c0;have H:=dE t.blk (i % 16);have Q:=O t;clear t;have W:=oX a 7 (by omega) (by omega);have D:=oX a 18 (by omega) (by omega);have U:=O W;have r:=O D;clear W D
 go_still_tail 13,(by kernel_rfl)
 still_call (U.out _)
 repeat still_step
 still_call (r.out _)
 repeat still_step
 refine wpStill_nil ?_;go_wp2_with fail
 obtain⟨m,z,h,T⟩:∃m,(v.setCell ⟨b,i % 16,none⟩ (.int .u32 (bI c (sg0 a)))).drew=m/\Win m b i (cs.setIfInBounds (i % 16) (.int .u32 (bI c (sg0 a)))) (bI c (sg0 a)) d/\Hid (aA (fun k=>k=b) w m):=
  ⟨_,rfl,Q.set l _,O ((S.out.setCell (fun _=>rfl) _).drew)⟩
 have f:(v.setCell ⟨b,i % 16,none⟩ (.int .u32 ((c+bits BinOp.xor IntKind.u32 (bits BinOp.xor IntKind.u32 (rot a 7) (rot a 18)) (a / 8)) % 4294967296))).drew=m:=z;rw[f];clear z f G H Q S U r;have G:=aC h.blk h.c0;have d7:=aC h.blk h.c7;have H:=dE h.blk (i % 16);have R:=O h;clear h;have P:IntKind.i64.wrap ((i:Int)-7)=(i:Int)-7:=by rw[IntWalk.i64_in _ (by omega)]
 have N:((i:Int)-7).tmod 16=((i:Int)-7) % 16:=by rw[Int.tmod_eq_emod_of_nonneg (by omega)]
 have L:((i:Int)-7) % 16<16:=by omega
 have y:(0:Int)≤((i:Int)-7) % 16:=by omega
 have M:(((i:Int)-7) % 16).toNat=(i-7) % 16:=by omega
 go_still_tail 12,(by kernel_rfl)
 clear P N L y M;go_wp2_with fail
 obtain⟨o,A,u,Z⟩:∃o,(m.setCell ⟨b,i % 16,none⟩ (.int .u32 (bI (bI c (sg0 a)) d))).drew=o/\Win o b i (cs.setIfInBounds (i % 16) (.int .u32 (bI (bI c (sg0 a)) d))) (bI (bI c (sg0 a)) d) d/\Hid (aA (fun k=>k=b) w o):=
  ⟨_,rfl,by have:=R.set l (bI (bI c (sg0 a)) d);rwa [Array.setIfInBounds_setIfInBounds] at this,O ((T.out.setCell (fun _=>rfl) _).drew)⟩
 have g:(m.setCell ⟨b,i % 16,none⟩ (.int .u32 ((bI c (sg0 a)+d) % 4294967296))).drew=o:=A;rw[g];clear A g G d7 H R T;have G:=aC u.blk u.c0;have H:=dE u.blk (i % 16);have Y:=O u;clear u;have C:=oX w2 17 (by omega) (by omega);have E:=oX w2 19 (by omega) (by omega);have J:=O C;have K:=O E;clear C E
 go_still_tail 13,(by kernel_rfl)
 still_call (J.out _)
 repeat still_step
 still_call (K.out _)
 repeat still_step
 refine wpStill_nil ?_;go_wp2_with fail
 obtain⟨I,B,W4,K4⟩:∃I,(o.setCell ⟨b,i % 16,none⟩ (.int .u32 (bI (bI (bI c (sg0 a)) d) (sg1 w2)))).drew=I/\Win I b i (cs.setIfInBounds (i % 16) (.int .u32 (bI (bI (bI c (sg0 a)) d) (sg1 w2)))) (bI (bI (bI c (sg0 a)) d) (sg1 w2)) d/\Hid (aA (fun k=>k=b) w I):=
  ⟨_,rfl,by have:=Y.set l (bI (bI (bI c (sg0 a)) d) (sg1 w2));rwa [Array.setIfInBounds_setIfInBounds] at this,O ((Z.out.setCell (fun _=>rfl) _).drew)⟩
 go_ret;exact⟨rfl,by have:=W4.blk;rw[←B] at this;exact this,by have:=K4.out;rw[←B] at this;exact this⟩
theorem Oy(b i g o a:Nat)(d f h l:Int)(y:Value)(cs:Array Value)(w:World)(v:i<16)(r:64≤a)(c:a≤maxLen)
 (m:w.heap[b]?=some (.cells cs 302 (0,0))) (A:cs[i]?=some y)
 (c0:w.cell? ⟨g,o+4*i,none⟩=some (.int .u8 d)) (c1:w.cell? ⟨g,o+4*i+1,none⟩=some (.int .u8 f)) (c2:w.cell? ⟨g,o+4*i+2,none⟩=some (.int .u8 h)) (c3:w.cell? ⟨g,o+4*i+3,none⟩=some (.int .u8 l))
 (b0:0≤d/\d<256) (b1:0≤f/\f<256) (B:0≤h/\h<256) (C:0≤l/\l<256) :
  Calls prog 215 #[.pointer b,.int .i64 i,.slice (some ⟨g,o,none⟩) 64 a] w fun e t=>e=.returned (.int .u32 (AR d f h l)) /\
   t.heap[b]?=some (.cells (cs.setIfInBounds i (.int .u32 (AR d f h l))) 302 (0,0))/\aA (fun k=>k=b) w t:=by
 unfold maxLen at c;have F:decide ((i:Int)<16)=true:=by simp;omega
 have z:4*i+4-4*i=4:=by omega
 have n:i % 16=i:=by omega
 have D:w.cell? ⟨b,i % 16,none⟩=some y:=by rw[n];exact aC m A
 have E:=dE m (i % 16);have u:=O m;have p:=O n;clear m n;go_in;go_wp2_with fail
 go_still_tail 24,(by kernel_rfl)
 go_wp2;go_ret;refine⟨rfl,?_,?_⟩
 ·have:=dQ u.out (i % 16) (.int .u32 (AR d f h l))
  rw[p.out] at this;rw[p.out];exact this
 ·exact((aA.refl (fun k=>k=b) w).setCell (fun _=>rfl) _).drew
open Go.RowKit
set_option maxRecDepth 100000
def DN(w:World)(l:List Int)(e:Ending)(a:World):Prop:=e=.returned (.agg (l.map vW).toArray)/\aA aB w a
def qU:Value:=.agg (Array.replicate 64 (.int .u32 0))
def J5:Value:=.agg (Array.replicate 16 (.int .u32 0))
def jU:Value:=.agg (Array.replicate 8 (.int .u32 0))
theorem NZ(w:World):(zeroValue 299).run prog w=.ok qU w:=by kernel_rfl
theorem Oz(w:World):(zeroValue 302).run prog w=.ok J5 w:=by kernel_rfl
theorem PK(w:World):(zeroValue 255).run prog w=.ok jU w:=by kernel_rfl
theorem wT(w:World):(zeroValue 256).run prog w=.ok jU w:=by kernel_rfl
theorem J6:(prog.info? 299).map (·.size)=some 64:=by kernel_rfl
theorem QF:(prog.info? 255).map (·.size)=some 8:=by kernel_rfl
theorem gO:(prog.info? 256).map (·.size)=some 8:=by kernel_rfl
theorem iD(l:List Int):∀u∈l.map vW,u.oneCell'=true:=by
 intro u a;obtain⟨b,_,rfl⟩:=List.mem_map.1 a;rfl
theorem CE:(spl qU.cells 0 (jP.map vW))=(jP.map vW).toArray:=aS _ _ (by simp[qU,Value.cells,jP])
theorem Is:(spl jU.cells 0 (oW.map vW))=(oW.map vW).toArray:=aS _ _ (by simp[jU,Value.cells,oW])
theorem CF{b:World}{l:List Int}(h:cs=(l.map vW).toArray)(c:aA aB w b)(a:aA (fun k=>k=w.heap.size) b w1):DN w l (.returned (.agg cs)) w1:=
 ⟨by rw[h],c.tT a (fun i d h=>by omega)⟩
theorem Ms(w:World):Calls prog 213 #[] w (DN w jP):=by
 go_in
 go_wp2_with (first
  | (refine gI rfl 299 rfl qU NZ ?_)
  | (refine Great.wpList_readTo rfl (some 1) rfl (.agg (jP.map vW).toArray) (by kernel_rfl) ?_)
  | (refine aQ rfl 299 (.tmp 0) (.tmp 1) rfl w.heap.size 0 (jP.map vW) rfl rfl _ _ (heap_alloc_new _ _) (by simp[qU,Value.cells,jP]) J6 (iD _) ?_;intro w1 a b;have c:=O a;have d:=O b;clear a b))
 refine bodyPost_ret (results_cell_row rfl _ _ w.heap.size _ _ _ _ rfl c.out underlying299 rfl (by rw[gF];kernel_rfl)) rfl (CF CE ((aA.refl _ _).alloc _) d.out)
theorem J7(w:World):Calls prog 180 #[] w (DN w oW):=by
 go_in
 go_wp2_with (first
  | (refine gI rfl 255 rfl jU PK ?_)
  | (refine Great.wpList_readTo rfl (some 1) rfl (.agg (oW.map vW).toArray) (by kernel_rfl) ?_)
  | (refine aQ rfl 255 (.tmp 0) (.tmp 1) rfl w.heap.size 0 (oW.map vW) rfl rfl _ _ (heap_alloc_new _ _) (by simp[jU,Value.cells,oW]) QF (iD _) ?_;intro w1 a b;have c:=O a;have d:=O b;clear a b))
 refine bodyPost_ret (results_cell_row rfl _ _ w.heap.size _ _ _ _ rfl c.out underlying255 rfl (by rw[gF];kernel_rfl)) rfl (CF Is ((aA.refl _ _).alloc _) d.out)
def byt(a:List UInt8)(j:Nat):Int:=((a.getD j 0).toNat:Int)
theorem AS(a:List UInt8)(j:Nat):0≤byt a j/\byt a j<256:=by
 unfold byt;have:=(a.getD j 0).toNat_lt;omega
def El(w:World)(b i:Nat)(q:Nat->Int)(e:Ending)(a:World):Prop:=
 e=.returned (.int .u32 (wrd q i))/\a.heap[b]?=some (.cells (win q (i+1)) 302 (0,0))/\aA (fun k=>k=b) w a
theorem Mt(b i:Nat)(p:Value)(c:List UInt8)(w:World)(r:i<64)(C:c.length=64)(D:Rd w 1 p 64 (c.map vb))(t:w.heap[b]?=some (.cells (win (byt c) i) 302 (0,0))) :
 Calls prog 215 #[.pointer b,.int .i64 i,p] w (El w b i (byt c)):=by
 by_cases d:i<16
 ·obtain⟨h0,a,l,rfl,y,z,G,A⟩:=D
  obtain⟨g,o,rfl,B⟩:=A (by simp[C])
  have cell:∀j,j<64->w.cell? ⟨g,o+j,none⟩=some (.int .u8 (byt c j)):=fun j H=>B j _ (by
   have:j<c.length:=by omega
   simp[vb,byt,this])
  have E:(win (byt c) i)[i]?=some ((win (byt c) i)[i]'(by rw[zY];omega)):=by simp[zY,d]
  refine(Oy b i g o l (byt c (4*i)) (byt c (4*i+1)) (byt c (4*i+2)) (byt c (4*i+3)) _ _ w d y z t E (cell _ (by omega)) (cell (4*i+1) (by omega)) (cell (4*i+2) (by omega)) (cell (4*i+3) (by omega)) (AS _ _) (AS _ _) (AS _ _) (AS _ _)).mono ?_;rintro e F ⟨rfl,n,h6⟩;have h:wrd (byt c) i=AR (byt c (4*i)) (byt c (4*i+1)) (byt c (4*i+2)) (byt c (4*i+3)):=by rw[wrd,dif_pos d]
  refine⟨by rw[h],?_,h6⟩;rw[win,h,show i % 16=i by omega];exact n
 ·have f:=tE (byt c) i (i-16) (by omega) (by omega)
  have m:=tE (byt c) i (i-15) (by omega) (by omega);have v:=tE (byt c) i (i-7) (by omega) (by omega);have u:=tE (byt c) i (i-2) (by omega) (by omega);rw[show (i-16) % 16=i % 16 by omega] at f;refine(Ox b i (wrd (byt c) (i-15)) (wrd (byt c) (i-2)) (wrd (byt c) (i-7)) (wrd (byt c) (i-16)) p _ w (by omega) r ⟨t,f,v⟩ m u).mono ?_;rintro e F ⟨rfl,n,h6⟩;have h:wrd (byt c) i=bI (bI (bI (wrd (byt c) (i-16)) (sg0 (wrd (byt c) (i-15)))) (wrd (byt c) (i-7))) (sg1 (wrd (byt c) (i-2))):=by rw[wrd,dif_neg d]
  refine⟨by rw[h],?_,h6⟩;rw[win,h];exact n
open Go.RowKit
set_option maxRecDepth 100000
attribute [local go_sem ↓] Go.wp_at_zero Go.wp_at_succ
def Em:Array Value:=(jP.map vW).toArray
def N3(w:World)(d:List Value)(s:St)(b c:Value)(a:World):Prop:=
 ∃b5 b6,b=.pointer (some ⟨b5,0,none⟩)/\c=.pointer (some ⟨b6,0,none⟩)/\a.heap[b5]?=some (.cells (s.l.map vW).toArray 256 (0,0))/\a.heap[b6]?=some (.cells Em 299 (0,0)) /\
  aA aB ((w.alloc (.cells d.toArray 256)).alloc (.cells jU.cells 256)) a/\w.heap.size+2≤b5/\w.heap.size+2≤b6
def En(B:Nat)(s:St)(i:Nat)(v:Value)(w:World):Prop:=
 match i with
 | 0=>v=.agg (s.l.map vW).toArray
 | 1=>v=.agg Em
 | 2=>∃b,v=.pointer (some ⟨b,0,none⟩)/\w.heap[b]?=some (.cells jU.cells 256 (0,0))/\B≤b
 | 3=>∃b,v=.pointer (some ⟨b,0,none⟩)/\w.heap[b]?=some (.cells qU.cells 299 (0,0))/\B≤b
 | _=>True
theorem It(B:Nat)(s:St)(i:Nat)(v:Value)(w f:World)(h:En B s i v w)(e:aA aB w f):En B s i v f:=by
 unfold En at *;split
 ·exact h
 ·exact h
 ·obtain⟨b,a,c,d⟩:=h;exact⟨b,a,e.blk c id,d⟩
 ·obtain⟨b,a,c,d⟩:=h;exact⟨b,a,e.blk c id,d⟩
 ·trivial
def Iu:Array Value:=Array.replicate 16 (.int .u32 0)
structure TR(w wr:World)(q:Nat->Int)(s x:St)(b5 b6 b7 k:Nat):Prop where
 st:wr.heap[w.heap.size]?=some (.cells (x.l.map vW).toArray 256 (0,0))
 res:wr.heap[w.heap.size+1]?=some (.cells jU.cells 256 (0,0))
 was:wr.heap[b5]?=some (.cells (s.l.map vW).toArray 256 (0,0))
 key:wr.heap[b6]?=some (.cells Em 299 (0,0))
 win:wr.heap[b7]?=some (.cells (win q k) 302 (0,0))
 keep:aA aB w wr
 l5:w.heap.size+2≤b5
 l6:w.heap.size+2≤b6
 l7:w.heap.size+2≤b7
theorem TR.ne{wr:World}(h:TR w wr q s x b5 b6 b7 k):b7≠b5/\b7≠b6:=by
 refine⟨fun e=>?_,fun e=>?_⟩
 ·have a:=h.win;rw[e,h.was] at a;simp only[Option.some.injEq,Obj.cells.injEq] at a;exact absurd a.2.1 (by decide)
 ·have a:=h.win;rw[e,h.key] at a;simp only[Option.some.injEq,Obj.cells.injEq] at a;exact absurd a.2.1 (by decide)
theorem TR.same{wr a:World}(h:TR w wr q s x b5 b6 b7 k)(b:a.heap=wr.heap)(c:aA aB wr a):TR w a q s x b5 b6 b7 k:=
 ⟨by rw[b];exact h.st,by rw[b];exact h.res,by rw[b];exact h.was,by rw[b];exact h.key,by rw[b];exact h.win,h.keep.trans c,h.l5,h.l6,h.l7⟩
theorem TR.word(h:TR w w1 q s x b5 b6 b7 k){e:Ending}(d:El w1 b7 k q e w2):TR w w2 q s x b5 b6 b7 (k+1):=by
 obtain⟨_,c,a⟩:=d;have l7:=h.l7;have b:=h.ne;exact⟨a.blk h.st (by omega),a.blk h.res (by omega),a.blk h.was (Ne.symm b.1),a.blk h.key (Ne.symm b.2),c,h.keep.tT a (fun i f e=>by omega),h.l5,h.l6,h.l7⟩
theorem TR.turn(h:TR w w1 q s x b5 b6 b7 k)(y:St)(b:w2.heap[w.heap.size]?=some (.cells (y.l.map vW).toArray 256 (0,0)))(a:aA (fun k=>k=w.heap.size) w1 w2):TR w w2 q s y b5 b6 b7 k:=by
 have l5:=h.l5;have l6:=h.l6;have l7:=h.l7;exact⟨b,a.blk h.res (by omega),a.blk h.was (by omega),a.blk h.key (by omega),a.blk h.win (by omega),h.keep.tT a (fun i c e=>by omega),h.l5,h.l6,h.l7⟩
theorem TR.cells{wr:World}(h:TR w wr q s x b5 b6 b7 k)(a:k<64) :
 wr.cell? ⟨w.heap.size,0,none⟩=some (.int .u32 x.a)/\wr.cell? ⟨w.heap.size,1,none⟩=some (.int .u32 x.b)/\wr.cell? ⟨w.heap.size,2,none⟩=some (.int .u32 x.c)/\wr.cell? ⟨w.heap.size,3,none⟩=some (.int .u32 x.d) /\
 wr.cell? ⟨w.heap.size,4,none⟩=some (.int .u32 x.e)/\wr.cell? ⟨w.heap.size,5,none⟩=some (.int .u32 x.f)/\wr.cell? ⟨w.heap.size,6,none⟩=some (.int .u32 x.g)/\wr.cell? ⟨w.heap.size,7,none⟩=some (.int .u32 x.h) /\
 wr.cell? ⟨b6,k,none⟩=some (.int .u32 (jP.getD k 0)):=
 ⟨aC h.st rfl,aC h.st rfl,aC h.st rfl,aC h.st rfl,aC h.st rfl,aC h.st rfl,aC h.st rfl,aC h.st rfl,aC h.key (by
  have:k<jP.length:=by rw[show jP.length=64 from rfl];exact a
  simp[Em,vW,this])⟩
theorem TR.four{wr:World}(h:TR w wr q s x b5 b6 b7 (k+1))(a:kk=jP.getD k 0) :
 wr.cell? ⟨w.heap.size,7,none⟩=some (.int .u32 x.h)/\wr.cell? ⟨w.heap.size,5,none⟩=some (.int .u32 x.f)/\wr.cell? ⟨w.heap.size,6,none⟩=some (.int .u32 x.g)/\(k<64->wr.cell? ⟨b6,k,none⟩=some (.int .u32 kk)):=
 ⟨aC h.st rfl,aC h.st rfl,aC h.st rfl,fun b=>by
  subst a
  exact aC h.key (by
   have:k<jP.length:=by rw[show jP.length=64 from rfl];exact b
   simp[Em,vW,this])⟩
theorem TR.eight{wr:World}(h:TR w wr q s x b5 b6 b7 k) :
 wr.cell? ⟨w.heap.size,0,none⟩=some (.int .u32 x.a)/\wr.cell? ⟨w.heap.size,1,none⟩=some (.int .u32 x.b)/\wr.cell? ⟨w.heap.size,2,none⟩=some (.int .u32 x.c)/\wr.cell? ⟨w.heap.size,3,none⟩=some (.int .u32 x.d) /\
 wr.cell? ⟨w.heap.size,4,none⟩=some (.int .u32 x.e)/\wr.cell? ⟨w.heap.size,5,none⟩=some (.int .u32 x.f)/\wr.cell? ⟨w.heap.size,6,none⟩=some (.int .u32 x.g)/\wr.cell? ⟨w.heap.size,7,none⟩=some (.int .u32 x.h):=
 ⟨aC h.st rfl,aC h.st rfl,aC h.st rfl,aC h.st rfl,aC h.st rfl,aC h.st rfl,aC h.st rfl,aC h.st rfl⟩
theorem TR.roundEnd(h:TR w w1 q s x b5 b6 b7 (k+1)){t u:Int}
 (b:w2.heap[w.heap.size]?=some (.cells (spl (x.l.map vW).toArray 0 ((⟨bI t u,x.a,x.b,x.c,bI x.d t,x.e,x.f,x.g⟩:St).l.map vW)) 256 (0,0))) (c:aA (fun k=>k=w.heap.size) w1 w2) (a:kk=jP.getD k 0) (f:x=uK q s k) (d:Ej x kk (wrd q k)=t) (e:Io x=u) :
 Hid (TR w w2 q s (uK q s (k+1)) b5 b6 b7 (k+1)):=by
 subst d;subst e;subst a;subst f;rw[aS _ _ (by simp[St.l])] at b;exact O (h.turn _ b c)
structure TS(w wr:World)(s:St)(b5:Nat)(L:List Int):Prop where
 st:wr.heap[w.heap.size]?=some (.cells (L.map vW).toArray 256 (0,0))
 res:wr.heap[w.heap.size+1]?=some (.cells jU.cells 256 (0,0))
 was:wr.heap[b5]?=some (.cells (s.l.map vW).toArray 256 (0,0))
 keep:aA aB w wr
 l5:w.heap.size+2≤b5
theorem TS.of{wr:World}(h:TR w wr q s x b5 b6 b7 k):Hid (TS w wr s b5 (pN x s 0)):=
 O ⟨h.st,h.res,h.was,h.keep,h.l5⟩
theorem TS.cells{wr:World}(h:TS w wr s b5 (pN x s j))(a:j<8) :
 wr.cell? ⟨w.heap.size,j,none⟩=some (.int .u32 (x.at j))/\wr.cell? ⟨b5,j,none⟩=some (.int .u32 (s.at j))/\wr.frozen? ⟨w.heap.size,j,none⟩=false:=
 ⟨aC h.st (by simp[Mj x s j a,vW]),aC h.was (by simp[St.at_get s j a,vW]),dE h.st j⟩
theorem TS.step{wr:World}(h:TS w wr s b5 (pN x s j))(y:Int)(a:y=bI (x.at j) (s.at j)) :
 Hid (TS w (wr.setCell ⟨w.heap.size,j,none⟩ (.int .u32 y)).drew s b5 (pN x s (j+1))):=by
 subst a;have l5:=h.l5;have K:aA (fun k=>k=w.heap.size) wr (wr.setCell ⟨w.heap.size,j,none⟩ (.int .u32 (bI (x.at j) (s.at j)))).drew:=((aA.refl (fun k=>k=w.heap.size) wr).setCell (fun _=>rfl) _).drew;refine O ⟨?_,K.blk h.res (by omega),K.blk h.was (by omega),h.keep.tT K (fun i b e=>by omega),l5⟩;have:=dQ h.st j (vW (bI (x.at j) (s.at j)));rw[List.setIfInBounds_toArray,←List.map_set,JY] at this;exact this
theorem Iv(s:St)(p:Value)(b:List UInt8)(w:World)(N:b.length=64)(y:Rd w 1 p 64 (b.map vb)) :
 Calls prog 182 #[.agg (s.l.map vW).toArray,p] w (DN w (wQ (byt b) s).l):=by
 have HP:=O y;clear y;have hv:∃A,s.l.map vW=A/\A.length=8/\∀v∈A,v.oneCell'=true:=⟨_,rfl,by simp[St.l],iD _⟩
 obtain⟨A,Q,c,Y⟩:=hv;rw[Q];have HV:=O Q;clear Q;go_in
 go_upto_region 1 with (first
  | (refine gI rfl 256 rfl jU wT ?_))
 simp only[Act.put,List.setIfInBounds_toArray,List.set_cons_succ,List.set_cons_zero]
 go_cut [5,6,14,15] (fun v5 v6 qm qn wc=>Hid (N3 w A s v5 v6 wc))
 case first =>
  refine AG (by kernel_rfl) 4 (by kernel_rfl) (by decide) (by kernel_rfl) (En (w.heap.size+2) s) (It (w.heap.size+2) s) (fun F=>F.heap[w.heap.size]?=some (.cells A.toArray 256 (0,0))/\aA aB ((w.alloc (.cells A.toArray 256)).alloc (.cells jU.cells 256)) F)
   (fun w1 w2 h n=>⟨n.blk h.1 id,h.2.trans n⟩) ?_ ⟨heap_alloc2_old _ _ _,(aA.refl _ _).drew⟩ ?_
  ·intro i o W ho w1 g
   rcases (show i=0\/i=1\/i=2\/i=3 by omega) with rfl|rfl|rfl|rfl
   ·cases Option.some.inj ho
    exact Dq _ _ rfl w.heap.size 0 rfl A _ (aD g.1) underlying256 rfl (by rw[c];exact gO) ⟨aA.refl _ _,by rw[En,HV.out]⟩
   ·cases Option.some.inj ho
    refine JA (f:=213) (args:=#[]) (by kernel_rfl) ((Ms w1).mono ?_);rintro e w2 ⟨rfl,n⟩;exact⟨_,rfl,n,rfl⟩
   ·cases Option.some.inj ho
    exact AH _ rfl jU wT ⟨(aA.refl _ _).alloc _,_,rfl,heap_alloc_new _ _,by have:=g.2.size;simpa using this⟩
   ·cases Option.some.inj ho
    exact AH _ rfl qU NZ ⟨(aA.refl _ _).alloc _,_,rfl,heap_alloc_new _ _,by have:=g.2.size;simpa using this⟩
  ·intro v listed w1 N hF y
   have l0:=N 0 (by omega);have l1:=N 1 (by omega);have l2:=N 2 (by omega);have l3:=N 3 (by omega);have p0:=y 0 (by omega);have p1:=y 1 (by omega);have p2:=y 2 (by omega);have p3:=y 3 (by omega);simp only[dG,l0,l1,l2,l3,if_true];obtain⟨b2,e2,K,qe⟩:=p2;obtain⟨b3,e3,C,qf⟩:=p3;rw[e2,e3,show v 0=_ from p0,show v 1=_ from p1];have X:b3≠b2:=by intro e;rw[e,K] at C;cases C
   simp only[List.drop_succ_cons,List.drop_zero];refine aQ rfl 256 (.tmp 5) (.tmp 14) rfl b2 0 A rfl (by rw[←HV.out];rfl) _ _ K (by rw[c];decide) (by rw[c];exact gO) Y ?_;intro w2 Z d;refine aQ rfl 299 (.tmp 6) (.tmp 15) rfl b3 0 (jP.map vW) rfl rfl _ _ (d.blk C X) (by decide) J6 (iD _) ?_;intro T qa L;refine wpList_nil ?_;simp only[List.getElem?_toArray,List.getElem?_cons_zero,List.getElem?_cons_succ,Option.bind_some,Act.put,List.setIfInBounds_toArray,List.set_cons_succ,List.set_cons_zero]
   have R:Hid (N3 w A s (.pointer b2) (.pointer b3) T):=by
    refine O ⟨b2,b3,rfl,rfl,?_,?_,?_,qe,qf⟩
    ·have:=L.blk Z (Ne.symm X)
     rwa [aS _ _ (by rw[c];rfl),←HV.out] at this
    ·rwa [CE] at qa
    ·exact(hF.2.tT d (fun i W e=>by simp at W;omega)).tT L (fun i W e=>by simp at W;omega)
   clear Z d qa L hF p0 p1 K C l0 l1 l2 l3 y N e2 e3;go_wp2_with fail
   go_meet
   case rel=>exact R
 case rest =>
  obtain⟨b5,b6,rfl,rfl,h5,h6,n,l5,l6⟩:=hcut.out
  have R0:Hid (TR w (wc.alloc (.cells Iu 302)) (byt b) s s b5 b6 wc.heap.size 0):=by
   have qi:=n.size;simp only[World.size_alloc] at qi;have V:aA aB wc (wc.alloc (.cells Iu 302)):=(aA.refl _ _).alloc _;refine O ⟨V.blk (by rw[HV.out];exact n.blk (heap_alloc2_old _ _ _) id) id,V.blk (n.blk (heap_alloc2_new _ _ _) id) id,V.blk h5 id,V.blk h6 id,heap_alloc_new _ _,?_,l5,l6,by omega⟩;exact((((aA.refl _ _).alloc _).alloc _).trans n).trans V
  clear h5 h6 n l5 l6 hcut
  go_wp2_with (refine aY rfl 302 rfl J5 Oz Iu rfl ?_)
  generalize wc.alloc (.cells Iu 302)=w0 at *;generalize wc.heap.size=b7 at *
  go_loopw [16] (fun i wr=>∃k:Nat,k≤64/\i=.int .i64 k/\Hid (TR w wr (byt b) s (uK (byt b) s k) b5 b6 b7 k)) (fun i _=>64-(intOf i).toNat)
  case atStart=>exact⟨0,by omega,rfl,R0⟩
  case round =>
   obtain⟨k,n,rfl,hR⟩:=hrel
   by_cases D:k<64
   ·obtain⟨x,hx⟩:∃x,x=uK (byt b) s k:=⟨_,rfl⟩
    rw[←hx] at hR;have HX:=O hx;clear hx;obtain⟨c0,c1,c2,c3,c4,S,c6,c7,ck⟩:=hR.out.cells D;go_wp2_with fail
    go_quiet (fail)
    go_wp2_with fail;obtain⟨w1,g,G⟩:∃w1,wr.drewN nq=w1/\Hid (TR w w1 (byt b) s x b5 b6 b7 k):=⟨_,rfl,O (hR.out.same rfl ((aA.refl _ _).drewN _))⟩
    rw[g];clear g hR c0 c1 c2 c3 c4 S c6 c7 ck;obtain⟨c0,c1,c2,c3,c4,S,c6,c7,ck⟩:=G.out.cells D
    have z:∀w2:World,w2.heap=w1.heap->aA aB w1 w2->Calls prog 215 #[.pointer b7,.int .i64 k,p] w2 (fun e T=>e=.returned (.int .u32 (wrd (byt b) k))/\TR w T (byt b) s x b5 b6 b7 (k+1)):=by
     intro w2 hh d;have R2:=G.out.same hh d;refine(Mt b7 k p b w2 D N (HP.keep R2.keep fun _ _=>id) R2.win).mono ?_;intro e T y;exact⟨y.1,R2.word y⟩
    have HW:=O z;clear z;have ql:(0:Int)≤(k:Int):=by omega
    have d:(k:Int)<64:=by omega
    obtain⟨kk,M⟩:∃kk,kk=jP.getD k 0:=⟨_,rfl⟩
    rw[←M] at ck;have U:=O M;clear M c0 c1 c2 c3 c4;have K0:=O (aA.refl aB w1)
    go_region_held3 (fun F=>F.cell? ⟨w.heap.size,7,none⟩=some (.int .u32 x.h)/\F.cell? ⟨w.heap.size,5,none⟩=some (.int .u32 x.f)/\F.cell? ⟨w.heap.size,6,none⟩=some (.int .u32 x.g)/\F.cell? ⟨b6,k,none⟩=some (.int .u32 kk))
     (first|go_keep|(exact⟨l.out.1,l.out.2.1,l.out.2.2.1,l.out.2.2.2 D⟩))
     (first
       | (go_at_call 214;refine(CD _ _ (by omega) (by omega) _).mono ?_;rintro e F ⟨rfl,rfl⟩)
       | (go_at_call 215;refine(HW w1.drew rfl ((aA.refl _ _).drew)).mono ?_;rintro e T ⟨rfl,H⟩;have l:=O (TR.four H U.out)))
    go_wp2_with fail;obtain⟨t,ht⟩:=zX9 (Ej x kk (wrd (byt b) k))
    have P:=ht;unfold Ej bI kS uJ NX at P;simp only[P];have HT:=O ht;clear ht P;have I:=O H;clear H l HW K0 G ck;obtain⟨c0,c1,c2,c3,c4,S,c6,c7⟩:=TR.eight I.out
    go_quiet (first|(go_at_call 214;refine Calls.quiet_of_same (CD _ _ (by omega) (by omega) _)))
    obtain⟨w4,qb,B⟩:∃w4,T.drewN nq=w4/\Hid (TR w w4 (byt b) s x b5 b6 b7 (k+1)):=⟨_,rfl,O (I.out.same rfl ((aA.refl _ _).drewN _))⟩
    rw[qb];obtain⟨u,hu⟩:=zX9 (Io x)
    have E:=hu;unfold Io bI kS uJ at E;simp only[IntKind.wrap_u32] at E;simp only[E];have HU:=O hu;clear hu E;clear qb I c0 c1 c2 c3 c4 S c6 c7;obtain⟨c0,c1,c2,c3,c4,S,c6,c7⟩:=TR.eight B.out
    go_wp2_with (with_reducible show WL none (.store 256 (.tmp 2) (.tmp 94));refine aQ rfl 256 (.tmp 2) (.tmp 94) rfl w.heap.size 0 ((⟨bI t u,x.a,x.b,x.c,bI x.d t,x.e,x.f,x.g⟩:St).l.map vW) rfl rfl _ _ B.out.st (by simp[St.l]) (by simp[St.l,gO]) (iD _) ?_;intro w5 m r;have qg:=TR.roundEnd B.out m r U.out HX.out HT.out HU.out;clear m r B c0 c1 c2 c3 c4 S c6 c7)
    go_roundw
    case rel=>exact⟨k+1,by omega,by go_num,qg⟩
    case measure=>simp[intOf];omega
   ·obtain rfl:k=64:=by omega
    go_wp2_with fail;rw[show (Value.int .i64 ((64:Nat):Int))=Value.int .i64 64 from rfl];have S0:=TS.of hR.out;clear hR;obtain⟨wo,rfl⟩:∃wo:World,wo=wr:=⟨_,rfl⟩
    go_loopw [96] (fun i wr=>∃j:Nat,j≤8/\i=.int .i64 j/\Hid (TS w wr s b5 (pN (uK (byt b) s 64) s j))) (fun i _=>8-(intOf i).toNat)
    case atStart=>exact⟨0,by omega,rfl,S0⟩
    case round =>
     obtain⟨j,hj,rfl,J⟩:=hrel
     by_cases qh:j<8
     ·obtain⟨x,hx⟩:=zX9 (uK (byt b) s 64)
      rw[hx] at J ⊢;obtain⟨cx,cs,fx⟩:=J.out.cells qh;have qj:(0:Int)≤(j:Int):=by omega
      have qk:(j:Int)<8:=by omega
      go_wp2_with fail
      go_still_tail 8,(by kernel_rfl)
      go_wp2
      go_roundw
      case rel=>exact⟨j+1,by omega,by go_num,J.out.step _ rfl⟩
      case measure=>simp[intOf];omega
     ·obtain rfl:j=8:=by omega
      rw[Mi] at J;have a:((wQ (byt b) s).l.map vW).length=8:=rfl
      go_wp2_with (first
       | (with_reducible show WL (some 108) (.load 256 (.tmp 2));refine wpList_load_mid rfl 256 (.tmp 2) rfl w.heap.size 0 rfl ((wQ (byt b) s).l.map vW) _ (aD J.out.st) underlying256 rfl (by rw[a];exact gO) ?_)
       | (with_reducible show WL none (.store 256 (.tmp 4) (.tmp 108));refine aQ rfl 256 (.tmp 4) (.tmp 108) rfl (w.heap.size+1) 0 ((wQ (byt b) s).l.map vW) rfl rfl _ _ J.out.res (by rw[a];decide) (by rw[a];exact gO) (iD _) ?_;intro w5 m r;have qc:=O m;have qd:=O r;clear m r))
      refine bodyPost_ret (results_cell_row rfl _ _ (w.heap.size+1) _ _ _ _ rfl qc.out underlying256 rfl (by rw[gF];exact gO)) rfl ⟨?_,?_⟩
      ·rw[aS _ _ (by rw[a];rfl)]
      ·exact J.out.keep.tT qd.out (fun i W e=>by omega)
end
section
open Go.RowKit
open Go.RowKit
theorem aT{P:Program}{b:Func}{p u:Tmp}{a:TypeId}(h:b.results=#[.cell p a,.tmp u])(tmps:Array Value)(w:World)(g:Nat)(t:TypeId)(cs:Array Value)(fr:Nat×Nat)(d:TypeDesc)
 (i:tmps.getD p undef=.pointer g) (e:w.heap[g]?=some (.cells cs t fr))
 (l:P.underlying a=some d) (c:(match d with|.struct _|.array _ _=>true|_=>false)=true) (f:(P.info? a).map (·.size)=some cs.size) :
 (results b tmps).run P w=.ok (.tuple #[.agg cs,tmps.getD u undef]) w:=by
 rw[results_cell_tmp h,i];simp[asAddr,run_loadVar_row w g t a cs fr d e l c f]
end
end Go.Proofs.YtoeinblfcbpcmaaGreat
