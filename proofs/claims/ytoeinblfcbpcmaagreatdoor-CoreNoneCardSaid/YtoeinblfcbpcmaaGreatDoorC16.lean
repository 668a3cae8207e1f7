import Derived.Test.YtoeinblfcbpcmaaGreatDoorC2
import Derived.Test.YtoeinblfcbpcmaaGreatDoorC14
import Derived.Test.YtoeinblfcbpcmaaGreatDoorC15
import Derived.Great.Walk
import Derived.Deep.DeepCutAuto
import Derived.Deep.DrawnRows
import Derived.Laws.ResultCell
namespace Go.Proofs.YtoeinblfcbpcmaaGreatDoor
open Tryz
set_option maxHeartbeats 0
set_option maxRecDepth 100000
set_option linter.unusedVariables false
section
open Go.RowKit
variable{w w1 w2:World}{cs:Array Value}{q:Nat->Int}{s x:St}{b5 b6 b7 k j:Nat}{kk:Int}
theorem OZ(n:Nat)(h:n<32)(a:1≤n):bits .and .u64 (IntKind.u64.wrap (-(n:Int))) 31=((32-n:Nat):Int):=by
 have:∀n:Fin 32,1≤n.val->bits .and .u64 (IntKind.u64.wrap (-(n.val:Int))) 31=((32-n.val:Nat):Int):=by decide
 exact this ⟨n,h⟩ a
theorem MK(x:Int)(n:Nat)(a:1≤n)(b:n≤31)(w:World) :
 Calls prog 211 #[.int .u32 x,.int .i64 (-(n:Int))] w fun e c=>e=.returned (.int .u32 (rot x n))/\c=w:=by
 have h:=OZ n (by omega) a;go_in;go_wp2;go_ret;refine⟨?_,rfl⟩;have e:32-(32-n)=n:=by omega
 show Ending.returned (.int .u32 (bits BinOp.or IntKind.u32 (x*2 ^ (32-n) % 4294967296) (x / 2 ^ (32-(32-n)))))=_;rw[e,Ey];rfl
theorem pB(x:Int)(n:Nat)(c:1≤n)(a:n≤31)(w:World) :
 Calls prog 153 #[.int .u32 x,.int .i64 n] w fun e b=>e=.returned (.int .u32 (rot x n))/\b=w:=by
 go_in
 go_wp2_with (go_at_call 211;refine(MK _ _ c a _).mono ?_;rintro e b ⟨rfl,rfl⟩)
 go_ret;exact⟨rfl,rfl⟩
theorem CV(x n:Int)(c:1≤n)(a:n≤31)(w:World) :
 Calls prog 153 #[.int .u32 x,.int .i64 n] w fun e b=>e=.returned (.int .u32 (rot x n.toNat))/\b=w:=by
 obtain⟨m,rfl⟩:=Int.eq_ofNat_of_zero_le (show 0≤n by omega);exact pB x m (by omega) (by omega) w
structure Win(w:World)(b i:Nat)(cs:Array Value)(x0 x7:Int):Prop where
 blk:w.heap[b]?=some (.cells cs 237 (0,0))
 c0:cs[i % 16]?=some (.int .u32 x0)
 c7:cs[(i-7) % 16]?=some (.int .u32 x7)
theorem Win.set{b i:Nat}{d c:Int}(h:Win w b i cs d c)(e:16≤i)(y:Int):Win (w.setCell ⟨b,i % 16,none⟩ (.int .u32 y)).drew b i (cs.setIfInBounds (i % 16) (.int .u32 y)) y c:=by
 have a:i % 16<cs.size:=(Array.getElem?_eq_some_iff.1 h.c0).1;refine⟨cH h.blk _ _,?_,?_⟩
 ·simp[a]
 ·rw[Array.getElem?_setIfInBounds_ne (by omega)];exact h.c7
theorem O0(b i:Nat)(a w2 d c:Int)(p:Value)(cs:Array Value)(w:World)(l:16≤i)(qa:i<64)
 (n:Win w b i cs c d) (c1:cs[(i-15) % 16]?=some (.int .u32 a)) (c2:cs[(i-2) % 16]?=some (.int .u32 w2)) :
  Calls prog 154 #[.pointer b,.int .i64 i,p] w fun e X=>e=.returned (.int .u32 (bH (bH (bH c (sg0 a)) d) (sg1 w2))) /\
   X.heap[b]?=some (.cells (cs.setIfInBounds (i % 16) (.int .u32 (bH (bH (bH c (sg0 a)) d) (sg1 w2)))) 237 (0,0))/\aA (fun k=>k=b) w X:=by
 have hd:decide ((i:Int)<16)=false:=by simp;omega
 have c0:=aC n.blk n.c0;have c1:=aC n.blk c1;have c2:=aC n.blk c2;have F:=O n;clear n;go_in;go_wp2_with fail
 go_quiet (fail)
 go_wp2_with fail;obtain⟨v,V,t,S⟩:∃v,w.drewN nq=v/\Win v b i cs c d/\Hid (aA (fun k=>k=b) w v):=⟨_,rfl,⟨F.out.blk,F.out.c0,F.out.c7⟩,O ((aA.refl _ _).drewN _)⟩
 rw[V];clear c0 c1 c2 V F;have G:=aC t.blk t.c0;have H:=bP t.blk (i % 16);have Q:=O t;clear t;have W:=pB a 7 (by omega) (by omega);have D:=pB a 18 (by omega) (by omega);have U:=O W;have r:=O D;clear W D
 go_still_tail 13,(by kernel_rfl)
 still_call (U.out _)
 repeat still_step
 still_call (r.out _)
 repeat still_step
 refine wpStill_nil ?_;go_wp2_with fail
 obtain⟨m,z,h,T⟩:∃m,(v.setCell ⟨b,i % 16,none⟩ (.int .u32 (bH c (sg0 a)))).drew=m/\Win m b i (cs.setIfInBounds (i % 16) (.int .u32 (bH c (sg0 a)))) (bH c (sg0 a)) d/\Hid (aA (fun k=>k=b) w m):=
  ⟨_,rfl,Q.set l _,O ((S.out.setCell (fun _=>rfl) _).drew)⟩
 have f:(v.setCell ⟨b,i % 16,none⟩ (.int .u32 ((c+bits BinOp.xor IntKind.u32 (bits BinOp.xor IntKind.u32 (rot a 7) (rot a 18)) (a / 8)) % 4294967296))).drew=m:=z;rw[f];clear z f G H Q S U r;have G:=aC h.blk h.c0;have d7:=aC h.blk h.c7;have H:=bP h.blk (i % 16);have R:=O h;clear h;have P:IntKind.i64.wrap ((i:Int)-7)=(i:Int)-7:=by rw[IntWalk.i64_in _ (by omega)]
 have N:((i:Int)-7).tmod 16=((i:Int)-7) % 16:=by rw[Int.tmod_eq_emod_of_nonneg (by omega)]
 have L:((i:Int)-7) % 16<16:=by omega
 have y:(0:Int)≤((i:Int)-7) % 16:=by omega
 have M:(((i:Int)-7) % 16).toNat=(i-7) % 16:=by omega
 go_still_tail 12,(by kernel_rfl)
 clear P N L y M;go_wp2_with fail
 obtain⟨o,A,u,Z⟩:∃o,(m.setCell ⟨b,i % 16,none⟩ (.int .u32 (bH (bH c (sg0 a)) d))).drew=o/\Win o b i (cs.setIfInBounds (i % 16) (.int .u32 (bH (bH c (sg0 a)) d))) (bH (bH c (sg0 a)) d) d/\Hid (aA (fun k=>k=b) w o):=
  ⟨_,rfl,by have:=R.set l (bH (bH c (sg0 a)) d);rwa [Array.setIfInBounds_setIfInBounds] at this,O ((T.out.setCell (fun _=>rfl) _).drew)⟩
 have g:(m.setCell ⟨b,i % 16,none⟩ (.int .u32 ((bH c (sg0 a)+d) % 4294967296))).drew=o:=A;rw[g];clear A g G d7 H R T;have G:=aC u.blk u.c0;have H:=bP u.blk (i % 16);have Y:=O u;clear u;have C:=pB w2 17 (by omega) (by omega);have E:=pB w2 19 (by omega) (by omega);have J:=O C;have K:=O E;clear C E
 go_still_tail 13,(by kernel_rfl)
 still_call (J.out _)
 repeat still_step
 still_call (K.out _)
 repeat still_step
 refine wpStill_nil ?_;go_wp2_with fail
 obtain⟨I,B,W4,K4⟩:∃I,(o.setCell ⟨b,i % 16,none⟩ (.int .u32 (bH (bH (bH c (sg0 a)) d) (sg1 w2)))).drew=I/\Win I b i (cs.setIfInBounds (i % 16) (.int .u32 (bH (bH (bH c (sg0 a)) d) (sg1 w2)))) (bH (bH (bH c (sg0 a)) d) (sg1 w2)) d/\Hid (aA (fun k=>k=b) w I):=
  ⟨_,rfl,by have:=Y.set l (bH (bH (bH c (sg0 a)) d) (sg1 w2));rwa [Array.setIfInBounds_setIfInBounds] at this,O ((Z.out.setCell (fun _=>rfl) _).drew)⟩
 go_ret;exact⟨rfl,by have:=W4.blk;rw[←B] at this;exact this,by have:=K4.out;rw[←B] at this;exact this⟩
theorem O1(b i g o a:Nat)(d f h l:Int)(y:Value)(cs:Array Value)(w:World)(v:i<16)(r:64≤a)(c:a≤maxLen)
 (m:w.heap[b]?=some (.cells cs 237 (0,0))) (A:cs[i]?=some y)
 (c0:w.cell? ⟨g,o+4*i,none⟩=some (.int .u8 d)) (c1:w.cell? ⟨g,o+4*i+1,none⟩=some (.int .u8 f)) (c2:w.cell? ⟨g,o+4*i+2,none⟩=some (.int .u8 h)) (c3:w.cell? ⟨g,o+4*i+3,none⟩=some (.int .u8 l))
 (B:0≤d/\d<256) (C:0≤f/\f<256) (D:0≤h/\h<256) (E:0≤l/\l<256) :
  Calls prog 154 #[.pointer b,.int .i64 i,.slice (some ⟨g,o,none⟩) 64 a] w fun e t=>e=.returned (.int .u32 (Bi d f h l)) /\
   t.heap[b]?=some (.cells (cs.setIfInBounds i (.int .u32 (Bi d f h l))) 237 (0,0))/\aA (fun k=>k=b) w t:=by
 unfold maxLen at c;have H:decide ((i:Int)<16)=true:=by simp;omega
 have z:4*i+4-4*i=4:=by omega
 have n:i % 16=i:=by omega
 have F:w.cell? ⟨b,i % 16,none⟩=some y:=by rw[n];exact aC m A
 have G:=bP m (i % 16);have u:=O m;have p:=O n;clear m n;go_in;go_wp2_with fail
 go_still_tail 24,(by kernel_rfl)
 go_wp2;go_ret;refine⟨rfl,?_,?_⟩
 ·have:=cH u.out (i % 16) (.int .u32 (Bi d f h l))
  rw[p.out] at this;rw[p.out];exact this
 ·exact((aA.refl (fun k=>k=b) w).setCell (fun _=>rfl) _).drew
open Go.RowKit
set_option maxRecDepth 100000
def D8(w:World)(l:List Int)(e:Ending)(a:World):Prop:=e=.returned (.agg (l.map vW).toArray)/\aA aB w a
def rD:Value:=.agg (Array.replicate 64 (.int .u32 0))
def Kh:Value:=.agg (Array.replicate 16 (.int .u32 0))
def kE:Value:=.agg (Array.replicate 8 (.int .u32 0))
theorem Oz(w:World):(zeroValue 234).run prog w=.ok rD w:=by kernel_rfl
theorem O2(w:World):(zeroValue 237).run prog w=.ok Kh w:=by kernel_rfl
theorem P2(w:World):(zeroValue 170).run prog w=.ok kE w:=by kernel_rfl
theorem xE(w:World):(zeroValue 171).run prog w=.ok kE w:=by kernel_rfl
theorem Ki:(prog.info? 234).map (·.size)=some 64:=by kernel_rfl
theorem QI:(prog.info? 170).map (·.size)=some 8:=by kernel_rfl
theorem gO:(prog.info? 171).map (·.size)=some 8:=by kernel_rfl
theorem iD(l:List Int):∀u∈l.map vW,u.oneCell'=true:=by
 intro u a;obtain⟨b,_,rfl⟩:=List.mem_map.1 a;rfl
theorem CW:(spl rD.cells 0 (jZ.map vW))=(jZ.map vW).toArray:=aI _ _ (by simp[rD,Value.cells,jZ])
theorem Io:(spl kE.cells 0 (pA.map vW))=(pA.map vW).toArray:=aI _ _ (by simp[kE,Value.cells,pA])
theorem CX{b:World}{l:List Int}(h:cs=(l.map vW).toArray)(c:aA aB w b)(a:aA (fun k=>k=w.heap.size) b w1):D8 w l (.returned (.agg cs)) w1:=
 ⟨by rw[h],c.tT a (fun i d h=>by omega)⟩
theorem ML(w:World):Calls prog 152 #[] w (D8 w jZ):=by
 go_in
 go_wp2_with (first
  | (refine gH rfl 234 rfl rD Oz ?_)
  | (refine Great.wpList_readTo rfl (some 1) rfl (.agg (jZ.map vW).toArray) (by kernel_rfl) ?_)
  | (refine aE rfl 234 (.tmp 0) (.tmp 1) rfl w.heap.size 0 (jZ.map vW) rfl rfl _ _ (heap_alloc_new _ _) (by simp[rD,Value.cells,jZ]) Ki (iD _) ?_;intro w1 a b;have c:=O a;have d:=O b;clear a b))
 refine bodyPost_ret (results_cell_row rfl _ _ w.heap.size _ _ _ _ rfl c.out underlying234 rfl (by rw[cU];kernel_rfl)) rfl (CX CW ((aA.refl _ _).alloc _) d.out)
theorem Kj(w:World):Calls prog 102 #[] w (D8 w pA):=by
 go_in
 go_wp2_with (first
  | (refine gH rfl 170 rfl kE P2 ?_)
  | (refine Great.wpList_readTo rfl (some 1) rfl (.agg (pA.map vW).toArray) (by kernel_rfl) ?_)
  | (refine aE rfl 170 (.tmp 0) (.tmp 1) rfl w.heap.size 0 (pA.map vW) rfl rfl _ _ (heap_alloc_new _ _) (by simp[kE,Value.cells,pA]) QI (iD _) ?_;intro w1 a b;have c:=O a;have d:=O b;clear a b))
 refine bodyPost_ret (results_cell_row rfl _ _ w.heap.size _ _ _ _ rfl c.out underlying170 rfl (by rw[cU];kernel_rfl)) rfl (CX Io ((aA.refl _ _).alloc _) d.out)
def byt(a:List UInt8)(j:Nat):Int:=((a.getD j 0).toNat:Int)
theorem Bj(a:List UInt8)(j:Nat):0≤byt a j/\byt a j<256:=by
 unfold byt;have:=(a.getD j 0).toNat_lt;omega
def EB(w:World)(b i:Nat)(q:Nat->Int)(e:Ending)(a:World):Prop:=
 e=.returned (.int .u32 (wrd q i))/\a.heap[b]?=some (.cells (win q (i+1)) 237 (0,0))/\aA (fun k=>k=b) w a
theorem MM(b i:Nat)(p:Value)(c:List UInt8)(w:World)(t:i<64)(D:c.length=64)(E:Rd w 1 p 64 (c.map vb))(u:w.heap[b]?=some (.cells (win (byt c) i) 237 (0,0))) :
 Calls prog 154 #[.pointer b,.int .i64 i,p] w (EB w b i (byt c)):=by
 by_cases d:i<16
 ·obtain⟨h0,a,l,rfl,z,A,H,B⟩:=E
  obtain⟨g,o,rfl,C⟩:=B (by simp[D])
  have cell:∀j,j<64->w.cell? ⟨g,o+j,none⟩=some (.int .u8 (byt c j)):=fun j I=>C j _ (by
   have:j<c.length:=by omega
   simp[vb,byt,this])
  have F:(win (byt c) i)[i]?=some ((win (byt c) i)[i]'(by rw[AE];omega)):=by simp[AE,d]
  refine(O1 b i g o l (byt c (4*i)) (byt c (4*i+1)) (byt c (4*i+2)) (byt c (4*i+3)) _ _ w d z A u F (cell _ (by omega)) (cell (4*i+1) (by omega)) (cell (4*i+2) (by omega)) (cell (4*i+3) (by omega)) (Bj _ _) (Bj _ _) (Bj _ _) (Bj _ _)).mono ?_;rintro e G ⟨rfl,n,r⟩;have h:wrd (byt c) i=Bi (byt c (4*i)) (byt c (4*i+1)) (byt c (4*i+2)) (byt c (4*i+3)):=by rw[wrd,dif_pos d]
  refine⟨by rw[h],?_,r⟩;rw[win,h,show i % 16=i by omega];exact n
 ·have f:=tK (byt c) i (i-16) (by omega) (by omega)
  have m:=tK (byt c) i (i-15) (by omega) (by omega);have y:=tK (byt c) i (i-7) (by omega) (by omega);have v:=tK (byt c) i (i-2) (by omega) (by omega);rw[show (i-16) % 16=i % 16 by omega] at f;refine(O0 b i (wrd (byt c) (i-15)) (wrd (byt c) (i-2)) (wrd (byt c) (i-7)) (wrd (byt c) (i-16)) p _ w (by omega) t ⟨u,f,y⟩ m v).mono ?_;rintro e G ⟨rfl,n,r⟩;have h:wrd (byt c) i=bH (bH (bH (wrd (byt c) (i-16)) (sg0 (wrd (byt c) (i-15)))) (wrd (byt c) (i-7))) (sg1 (wrd (byt c) (i-2))):=by rw[wrd,dif_neg d]
  refine⟨by rw[h],?_,r⟩;rw[win,h];exact n
open Go.RowKit
set_option maxRecDepth 100000
attribute [local go_sem ↓] Go.wp_at_zero Go.wp_at_succ
def EC:Array Value:=(jZ.map vW).toArray
def OA(w:World)(d:List Value)(s:St)(b c:Value)(a:World):Prop:=
 ∃b5 b6,b=.pointer (some ⟨b5,0,none⟩)/\c=.pointer (some ⟨b6,0,none⟩)/\a.heap[b5]?=some (.cells (s.l.map vW).toArray 171 (0,0))/\a.heap[b6]?=some (.cells EC 234 (0,0)) /\
  aA aB ((w.alloc (.cells d.toArray 171)).alloc (.cells kE.cells 171)) a/\w.heap.size+2≤b5/\w.heap.size+2≤b6
def ED(B:Nat)(s:St)(i:Nat)(v:Value)(w:World):Prop:=
 match i with
 | 0=>v=.agg (s.l.map vW).toArray
 | 1=>v=.agg EC
 | 2=>∃b,v=.pointer (some ⟨b,0,none⟩)/\w.heap[b]?=some (.cells kE.cells 171 (0,0))/\B≤b
 | 3=>∃b,v=.pointer (some ⟨b,0,none⟩)/\w.heap[b]?=some (.cells rD.cells 234 (0,0))/\B≤b
 | _=>True
theorem Ip(B:Nat)(s:St)(i:Nat)(v:Value)(w f:World)(h:ED B s i v w)(e:aA aB w f):ED B s i v f:=by
 unfold ED at *;split
 ·exact h
 ·exact h
 ·obtain⟨b,a,c,d⟩:=h;exact⟨b,a,e.blk c id,d⟩
 ·obtain⟨b,a,c,d⟩:=h;exact⟨b,a,e.blk c id,d⟩
 ·trivial
def Iq:Array Value:=Array.replicate 16 (.int .u32 0)
structure TR(w wr:World)(q:Nat->Int)(s x:St)(b5 b6 b7 k:Nat):Prop where
 st:wr.heap[w.heap.size]?=some (.cells (x.l.map vW).toArray 171 (0,0))
 res:wr.heap[w.heap.size+1]?=some (.cells kE.cells 171 (0,0))
 was:wr.heap[b5]?=some (.cells (s.l.map vW).toArray 171 (0,0))
 key:wr.heap[b6]?=some (.cells EC 234 (0,0))
 win:wr.heap[b7]?=some (.cells (win q k) 237 (0,0))
 keep:aA aB w wr
 l5:w.heap.size+2≤b5
 l6:w.heap.size+2≤b6
 l7:w.heap.size+2≤b7
theorem TR.ne{wr:World}(h:TR w wr q s x b5 b6 b7 k):b7≠b5/\b7≠b6:=by
 refine⟨fun e=>?_,fun e=>?_⟩
 ·have a:=h.win;rw[e,h.was] at a;simp only[Option.some.injEq,Obj.cells.injEq] at a;exact absurd a.2.1 (by decide)
 ·have a:=h.win;rw[e,h.key] at a;simp only[Option.some.injEq,Obj.cells.injEq] at a;exact absurd a.2.1 (by decide)
theorem TR.same{wr a:World}(h:TR w wr q s x b5 b6 b7 k)(b:a.heap=wr.heap)(c:aA aB wr a):TR w a q s x b5 b6 b7 k:=
 ⟨by rw[b];exact h.st,by rw[b];exact h.res,by rw[b];exact h.was,by rw[b];exact h.key,by rw[b];exact h.win,h.keep.trans c,h.l5,h.l6,h.l7⟩
theorem TR.word(h:TR w w1 q s x b5 b6 b7 k){e:Ending}(d:EB w1 b7 k q e w2):TR w w2 q s x b5 b6 b7 (k+1):=by
 obtain⟨_,c,a⟩:=d;have l7:=h.l7;have b:=h.ne;exact⟨a.blk h.st (by omega),a.blk h.res (by omega),a.blk h.was (Ne.symm b.1),a.blk h.key (Ne.symm b.2),c,h.keep.tT a (fun i f e=>by omega),h.l5,h.l6,h.l7⟩
theorem TR.turn(h:TR w w1 q s x b5 b6 b7 k)(y:St)(b:w2.heap[w.heap.size]?=some (.cells (y.l.map vW).toArray 171 (0,0)))(a:aA (fun k=>k=w.heap.size) w1 w2):TR w w2 q s y b5 b6 b7 k:=by
 have l5:=h.l5;have l6:=h.l6;have l7:=h.l7;exact⟨b,a.blk h.res (by omega),a.blk h.was (by omega),a.blk h.key (by omega),a.blk h.win (by omega),h.keep.tT a (fun i c e=>by omega),h.l5,h.l6,h.l7⟩
theorem TR.cells{wr:World}(h:TR w wr q s x b5 b6 b7 k)(a:k<64) :
 wr.cell? ⟨w.heap.size,0,none⟩=some (.int .u32 x.a)/\wr.cell? ⟨w.heap.size,1,none⟩=some (.int .u32 x.b)/\wr.cell? ⟨w.heap.size,2,none⟩=some (.int .u32 x.c)/\wr.cell? ⟨w.heap.size,3,none⟩=some (.int .u32 x.d) /\
 wr.cell? ⟨w.heap.size,4,none⟩=some (.int .u32 x.e)/\wr.cell? ⟨w.heap.size,5,none⟩=some (.int .u32 x.f)/\wr.cell? ⟨w.heap.size,6,none⟩=some (.int .u32 x.g)/\wr.cell? ⟨w.heap.size,7,none⟩=some (.int .u32 x.h) /\
 wr.cell? ⟨b6,k,none⟩=some (.int .u32 (jZ.getD k 0)):=
 ⟨aC h.st rfl,aC h.st rfl,aC h.st rfl,aC h.st rfl,aC h.st rfl,aC h.st rfl,aC h.st rfl,aC h.st rfl,aC h.key (by
  have:k<jZ.length:=by rw[show jZ.length=64 from rfl];exact a
  simp[EC,vW,this])⟩
theorem TR.four{wr:World}(h:TR w wr q s x b5 b6 b7 (k+1))(a:kk=jZ.getD k 0) :
 wr.cell? ⟨w.heap.size,7,none⟩=some (.int .u32 x.h)/\wr.cell? ⟨w.heap.size,5,none⟩=some (.int .u32 x.f)/\wr.cell? ⟨w.heap.size,6,none⟩=some (.int .u32 x.g)/\(k<64->wr.cell? ⟨b6,k,none⟩=some (.int .u32 kk)):=
 ⟨aC h.st rfl,aC h.st rfl,aC h.st rfl,fun b=>by
  subst a
  exact aC h.key (by
   have:k<jZ.length:=by rw[show jZ.length=64 from rfl];exact b
   simp[EC,vW,this])⟩
theorem TR.eight{wr:World}(h:TR w wr q s x b5 b6 b7 k) :
 wr.cell? ⟨w.heap.size,0,none⟩=some (.int .u32 x.a)/\wr.cell? ⟨w.heap.size,1,none⟩=some (.int .u32 x.b)/\wr.cell? ⟨w.heap.size,2,none⟩=some (.int .u32 x.c)/\wr.cell? ⟨w.heap.size,3,none⟩=some (.int .u32 x.d) /\
 wr.cell? ⟨w.heap.size,4,none⟩=some (.int .u32 x.e)/\wr.cell? ⟨w.heap.size,5,none⟩=some (.int .u32 x.f)/\wr.cell? ⟨w.heap.size,6,none⟩=some (.int .u32 x.g)/\wr.cell? ⟨w.heap.size,7,none⟩=some (.int .u32 x.h):=
 ⟨aC h.st rfl,aC h.st rfl,aC h.st rfl,aC h.st rfl,aC h.st rfl,aC h.st rfl,aC h.st rfl,aC h.st rfl⟩
theorem TR.roundEnd(h:TR w w1 q s x b5 b6 b7 (k+1)){t u:Int}
 (b:w2.heap[w.heap.size]?=some (.cells (spl (x.l.map vW).toArray 0 ((⟨bH t u,x.a,x.b,x.c,bH x.d t,x.e,x.f,x.g⟩:St).l.map vW)) 171 (0,0))) (c:aA (fun k=>k=w.heap.size) w1 w2) (a:kk=jZ.getD k 0) (f:x=uU q s k) (d:Ez x kk (wrd q k)=t) (e:Ik x=u) :
 Hid (TR w w2 q s (uU q s (k+1)) b5 b6 b7 (k+1)):=by
 subst d;subst e;subst a;subst f;rw[aI _ _ (by simp[St.l])] at b;exact O (h.turn _ b c)
structure TS(w wr:World)(s:St)(b5:Nat)(L:List Int):Prop where
 st:wr.heap[w.heap.size]?=some (.cells (L.map vW).toArray 171 (0,0))
 res:wr.heap[w.heap.size+1]?=some (.cells kE.cells 171 (0,0))
 was:wr.heap[b5]?=some (.cells (s.l.map vW).toArray 171 (0,0))
 keep:aA aB w wr
 l5:w.heap.size+2≤b5
theorem TS.of{wr:World}(h:TR w wr q s x b5 b6 b7 k):Hid (TS w wr s b5 (pR x s 0)):=
 O ⟨h.st,h.res,h.was,h.keep,h.l5⟩
theorem TS.cells{wr:World}(h:TS w wr s b5 (pR x s j))(a:j<8) :
 wr.cell? ⟨w.heap.size,j,none⟩=some (.int .u32 (x.at j))/\wr.cell? ⟨b5,j,none⟩=some (.int .u32 (s.at j))/\wr.frozen? ⟨w.heap.size,j,none⟩=false:=
 ⟨aC h.st (by simp[MD x s j a,vW]),aC h.was (by simp[St.at_get s j a,vW]),bP h.st j⟩
theorem TS.step{wr:World}(h:TS w wr s b5 (pR x s j))(y:Int)(a:y=bH (x.at j) (s.at j)) :
 Hid (TS w (wr.setCell ⟨w.heap.size,j,none⟩ (.int .u32 y)).drew s b5 (pR x s (j+1))):=by
 subst a;have l5:=h.l5;have K:aA (fun k=>k=w.heap.size) wr (wr.setCell ⟨w.heap.size,j,none⟩ (.int .u32 (bH (x.at j) (s.at j)))).drew:=((aA.refl (fun k=>k=w.heap.size) wr).setCell (fun _=>rfl) _).drew;refine O ⟨?_,K.blk h.res (by omega),K.blk h.was (by omega),h.keep.tT K (fun i b e=>by omega),l5⟩;have:=cH h.st j (vW (bH (x.at j) (s.at j)));rw[List.setIfInBounds_toArray,←List.map_set,Kd] at this;exact this
theorem Ir(s:St)(p:Value)(b:List UInt8)(w:World)(P:b.length=64)(y:Rd w 1 p 64 (b.map vb)) :
 Calls prog 104 #[.agg (s.l.map vW).toArray,p] w (D8 w (xB (byt b) s).l):=by
 have HP:=O y;clear y;have hv:∃A,s.l.map vW=A/\A.length=8/\∀v∈A,v.oneCell'=true:=⟨_,rfl,by simp[St.l],iD _⟩
 obtain⟨A,S,c,qa⟩:=hv;rw[S];have HV:=O S;clear S;go_in
 go_upto_region 1 with (first
  | (refine gH rfl 171 rfl kE xE ?_))
 simp only[Act.put,List.setIfInBounds_toArray,List.set_cons_succ,List.set_cons_zero]
 go_cut [5,6,14,15] (fun v5 v6 qp qq wc=>Hid (OA w A s v5 v6 wc))
 case first =>
  refine A5 (by kernel_rfl) 4 (by kernel_rfl) (by decide) (by kernel_rfl) (ED (w.heap.size+2) s) (Ip (w.heap.size+2) s) (fun F=>F.heap[w.heap.size]?=some (.cells A.toArray 171 (0,0))/\aA aB ((w.alloc (.cells A.toArray 171)).alloc (.cells kE.cells 171)) F)
   (fun w1 w2 h n=>⟨n.blk h.1 id,h.2.trans n⟩) ?_ ⟨heap_alloc2_old _ _ _,(aA.refl _ _).drew⟩ ?_
  ·intro i o Y ho w1 g
   rcases (show i=0\/i=1\/i=2\/i=3 by omega) with rfl|rfl|rfl|rfl
   ·cases Option.some.inj ho
    exact DD _ _ rfl w.heap.size 0 rfl A _ (aD g.1) underlying171 rfl (by rw[c];exact gO) ⟨aA.refl _ _,by rw[ED,HV.out]⟩
   ·cases Option.some.inj ho
    refine JJ (f:=152) (args:=#[]) (by kernel_rfl) ((ML w1).mono ?_);rintro e w2 ⟨rfl,n⟩;exact⟨_,rfl,n,rfl⟩
   ·cases Option.some.inj ho
    exact A6 _ rfl kE xE ⟨(aA.refl _ _).alloc _,_,rfl,heap_alloc_new _ _,by have:=g.2.size;simpa using this⟩
   ·cases Option.some.inj ho
    exact A6 _ rfl rD Oz ⟨(aA.refl _ _).alloc _,_,rfl,heap_alloc_new _ _,by have:=g.2.size;simpa using this⟩
  ·intro v listed w1 P hF y
   have l0:=P 0 (by omega);have l1:=P 1 (by omega);have l2:=P 2 (by omega);have l3:=P 3 (by omega);have p0:=y 0 (by omega);have p1:=y 1 (by omega);have p2:=y 2 (by omega);have p3:=y 3 (by omega);simp only[dH,l0,l1,l2,l3,if_true];obtain⟨b2,e2,L,qh⟩:=p2;obtain⟨b3,e3,C,qi⟩:=p3;rw[e2,e3,show v 0=_ from p0,show v 1=_ from p1];have Z:b3≠b2:=by intro e;rw[e,L] at C;cases C
   simp only[List.drop_succ_cons,List.drop_zero];refine aE rfl 171 (.tmp 5) (.tmp 14) rfl b2 0 A rfl (by rw[←HV.out];rfl) _ _ L (by rw[c];decide) (by rw[c];exact gO) qa ?_;intro w2 qc d;refine aE rfl 234 (.tmp 6) (.tmp 15) rfl b3 0 (jZ.map vW) rfl rfl _ _ (d.blk C Z) (by decide) Ki (iD _) ?_;intro V qd M;refine wpList_nil ?_;simp only[List.getElem?_toArray,List.getElem?_cons_zero,List.getElem?_cons_succ,Option.bind_some,Act.put,List.setIfInBounds_toArray,List.set_cons_succ,List.set_cons_zero]
   have R:Hid (OA w A s (.pointer b2) (.pointer b3) V):=by
    refine O ⟨b2,b3,rfl,rfl,?_,?_,?_,qh,qi⟩
    ·have:=M.blk qc (Ne.symm Z)
     rwa [aI _ _ (by rw[c];rfl),←HV.out] at this
    ·rwa [CW] at qd
    ·exact(hF.2.tT d (fun i Y e=>by simp at Y;omega)).tT M (fun i Y e=>by simp at Y;omega)
   clear qc d qd M hF p0 p1 L C l0 l1 l2 l3 y P e2 e3;go_wp2_with fail
   go_meet
   case rel=>exact R
 case rest =>
  obtain⟨b5,b6,rfl,rfl,h5,h6,n,l5,l6⟩:=hcut.out
  have R0:Hid (TR w (wc.alloc (.cells Iq 237)) (byt b) s s b5 b6 wc.heap.size 0):=by
   have ql:=n.size;simp only[World.size_alloc] at ql;have X:aA aB wc (wc.alloc (.cells Iq 237)):=(aA.refl _ _).alloc _;refine O ⟨X.blk (by rw[HV.out];exact n.blk (heap_alloc2_old _ _ _) id) id,X.blk (n.blk (heap_alloc2_new _ _ _) id) id,X.blk h5 id,X.blk h6 id,heap_alloc_new _ _,?_,l5,l6,by omega⟩;exact((((aA.refl _ _).alloc _).alloc _).trans n).trans X
  clear h5 h6 n l5 l6 hcut
  go_wp2_with (refine aG rfl 237 rfl Kh O2 Iq rfl ?_)
  generalize wc.alloc (.cells Iq 237)=w0 at *;generalize wc.heap.size=b7 at *
  go_loopw [16] (fun i wr=>∃k:Nat,k≤64/\i=.int .i64 k/\Hid (TR w wr (byt b) s (uU (byt b) s k) b5 b6 b7 k)) (fun i _=>64-(intOf i).toNat)
  case atStart=>exact⟨0,by omega,rfl,R0⟩
  case round =>
   obtain⟨k,n,rfl,U⟩:=hrel
   by_cases D:k<64
   ·obtain⟨x,hx⟩:∃x,x=uU (byt b) s k:=⟨_,rfl⟩
    rw[←hx] at U;have HX:=O hx;clear hx;obtain⟨c0,c1,c2,c3,G,T,c6,c7,ck⟩:=U.out.cells D;go_wp2_with fail
    go_quiet (fail)
    go_wp2_with fail;obtain⟨w1,g,H⟩:∃w1,wr.drewN nq=w1/\Hid (TR w w1 (byt b) s x b5 b6 b7 k):=⟨_,rfl,O (U.out.same rfl ((aA.refl _ _).drewN _))⟩
    rw[g];clear g U c0 c1 c2 c3 G T c6 c7 ck;obtain⟨c0,c1,c2,c3,G,T,c6,c7,ck⟩:=H.out.cells D
    have z:∀w2:World,w2.heap=w1.heap->aA aB w1 w2->Calls prog 154 #[.pointer b7,.int .i64 k,p] w2 (fun e V=>e=.returned (.int .u32 (wrd (byt b) k))/\TR w V (byt b) s x b5 b6 b7 (k+1)):=by
     intro w2 hh d;have R2:=H.out.same hh d;refine(MM b7 k p b w2 D P (HP.keep R2.keep fun _ _=>id) R2.win).mono ?_;intro e V y;exact⟨y.1,R2.word y⟩
    have HW:=O z;clear z;have qo:(0:Int)≤(k:Int):=by omega
    have d:(k:Int)<64:=by omega
    obtain⟨kk,N⟩:∃kk,kk=jZ.getD k 0:=⟨_,rfl⟩
    rw[←N] at ck;have W:=O N;clear N c0 c1 c2 c3 G;have K0:=O (aA.refl aB w1)
    go_region_held3 (fun F=>F.cell? ⟨w.heap.size,7,none⟩=some (.int .u32 x.h)/\F.cell? ⟨w.heap.size,5,none⟩=some (.int .u32 x.f)/\F.cell? ⟨w.heap.size,6,none⟩=some (.int .u32 x.g)/\F.cell? ⟨b6,k,none⟩=some (.int .u32 kk))
     (first|go_keep|(exact⟨l.out.1,l.out.2.1,l.out.2.2.1,l.out.2.2.2 D⟩))
     (first
       | (go_at_call 153;refine(CV _ _ (by omega) (by omega) _).mono ?_;rintro e F ⟨rfl,rfl⟩)
       | (go_at_call 154;refine(HW w1.drew rfl ((aA.refl _ _).drew)).mono ?_;rintro e V ⟨rfl,I⟩;have l:=O (TR.four I W.out)))
    go_wp2_with fail;obtain⟨t,ht⟩:=zX9 (Ez x kk (wrd (byt b) k))
    have Q:=ht;unfold Ez bH kW uT Ox at Q;simp only[Q];have HT:=O ht;clear ht Q;have J:=O I;clear I l HW K0 H ck;obtain⟨c0,c1,c2,c3,G,T,c6,c7⟩:=TR.eight J.out
    go_quiet (first|(go_at_call 153;refine Calls.quiet_of_same (CV _ _ (by omega) (by omega) _)))
    obtain⟨w4,qe,B⟩:∃w4,V.drewN nq=w4/\Hid (TR w w4 (byt b) s x b5 b6 b7 (k+1)):=⟨_,rfl,O (J.out.same rfl ((aA.refl _ _).drewN _))⟩
    rw[qe];obtain⟨u,hu⟩:=zX9 (Ik x)
    have E:=hu;unfold Ik bH kW uT at E;simp only[IntKind.wrap_u32] at E;simp only[E];have HU:=O hu;clear hu E;clear qe J c0 c1 c2 c3 G T c6 c7;obtain⟨c0,c1,c2,c3,G,T,c6,c7⟩:=TR.eight B.out
    go_wp2_with (with_reducible show WL none (.store 171 (.tmp 2) (.tmp 94));refine aE rfl 171 (.tmp 2) (.tmp 94) rfl w.heap.size 0 ((⟨bH t u,x.a,x.b,x.c,bH x.d t,x.e,x.f,x.g⟩:St).l.map vW) rfl rfl _ _ B.out.st (by simp[St.l]) (by simp[St.l,gO]) (iD _) ?_;intro w5 m r;have qj:=TR.roundEnd B.out m r W.out HX.out HT.out HU.out;clear m r B c0 c1 c2 c3 G T c6 c7)
    go_roundw
    case rel=>exact⟨k+1,by omega,by go_num,qj⟩
    case measure=>simp[intOf];omega
   ·obtain rfl:k=64:=by omega
    go_wp2_with fail;rw[show (Value.int .i64 ((64:Nat):Int))=Value.int .i64 64 from rfl];have S0:=TS.of U.out;clear U;obtain⟨wo,rfl⟩:∃wo:World,wo=wr:=⟨_,rfl⟩
    go_loopw [96] (fun i wr=>∃j:Nat,j≤8/\i=.int .i64 j/\Hid (TS w wr s b5 (pR (uU (byt b) s 64) s j))) (fun i _=>8-(intOf i).toNat)
    case atStart=>exact⟨0,by omega,rfl,S0⟩
    case round =>
     obtain⟨j,hj,rfl,K⟩:=hrel
     by_cases qk:j<8
     ·obtain⟨x,hx⟩:=zX9 (uU (byt b) s 64)
      rw[hx] at K ⊢;obtain⟨cx,cs,fx⟩:=K.out.cells qk;have qm:(0:Int)≤(j:Int):=by omega
      have qn:(j:Int)<8:=by omega
      go_wp2_with fail
      go_still_tail 8,(by kernel_rfl)
      go_wp2
      go_roundw
      case rel=>exact⟨j+1,by omega,by go_num,K.out.step _ rfl⟩
      case measure=>simp[intOf];omega
     ·obtain rfl:j=8:=by omega
      rw[MC] at K;have a:((xB (byt b) s).l.map vW).length=8:=rfl
      go_wp2_with (first
       | (with_reducible show WL (some 108) (.load 171 (.tmp 2));refine wpList_load_mid rfl 171 (.tmp 2) rfl w.heap.size 0 rfl ((xB (byt b) s).l.map vW) _ (aD K.out.st) underlying171 rfl (by rw[a];exact gO) ?_)
       | (with_reducible show WL none (.store 171 (.tmp 4) (.tmp 108));refine aE rfl 171 (.tmp 4) (.tmp 108) rfl (w.heap.size+1) 0 ((xB (byt b) s).l.map vW) rfl rfl _ _ K.out.res (by rw[a];decide) (by rw[a];exact gO) (iD _) ?_;intro w5 m r;have qf:=O m;have qg:=O r;clear m r))
      refine bodyPost_ret (results_cell_row rfl _ _ (w.heap.size+1) _ _ _ _ rfl qf.out underlying171 rfl (by rw[cU];exact gO)) rfl ⟨?_,?_⟩
      ·rw[aI _ _ (by rw[a];rfl)]
      ·exact K.out.keep.tT qg.out (fun i Y e=>by omega)
end
section
open Go.RowKit
open Go.RowKit
theorem bO{P:Program}{b:Func}{p u:Tmp}{a:TypeId}(h:b.results=#[.cell p a,.tmp u])(tmps:Array Value)(w:World)(g:Nat)(t:TypeId)(cs:Array Value)(c:Nat×Nat)(d:TypeDesc)
 (l:tmps.getD p undef=.pointer g) (f:w.heap[g]?=some (.cells cs t c))
 (m:P.underlying a=some d) (e:(match d with|.struct _|.array _ _=>true|_=>false)=true) (i:(P.info? a).map (·.size)=some cs.size) :
 (results b tmps).run P w=.ok (.tuple #[.agg cs,tmps.getD u undef]) w:=by
 rw[results_cell_tmp h,l];simp[asAddr,run_loadVar_row w g t a cs c d f m e i]
end
end Go.Proofs.YtoeinblfcbpcmaaGreatDoor
