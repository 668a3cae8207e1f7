import Derived.Test.YtiinnfhjpaeffaaGreatW1
import Derived.Test.YtiinnfhjpaeffaaGreatW2
import Derived.Test.YtiinnfhjpaeffaaGreatW13
import Derived.Test.YtiinnfhjpaeffaaGreatW14
import Derived.Great.Walk
import Derived.Deep.DeepCutAuto
import Derived.Deep.DrawnRows
import Derived.Laws.ResultCell
namespace Go.Proofs.YtiinnfhjpaeffaaGreat
set_option maxHeartbeats 64000000
set_option maxRecDepth 100000
set_option linter.unusedVariables false
section
open Go.RowKit
theorem LW(n:Nat)(h:n<32)(h1:1≤n):bits .and .u64 (IntKind.u64.wrap (-(n:Int))) 31=((32-n:Nat):Int):=by
 have:∀n:Fin 32,1≤n.val->bits .and .u64 (IntKind.u64.wrap (-(n.val:Int))) 31=((32-n.val:Nat):Int):=by decide
 exact this ⟨n,h⟩ h1
theorem JX(x:Int)(n:Nat)(hn:1≤n)(hn':n≤31)(w:World) :
 Calls Tryz.prog 255 #[.int .u32 x,.int .i64 (-(n:Int))] w fun e w'=>e=.returned (.int .u32 (rot x n))/\w'=w:=by
 have h:=LW n (by omega) hn;go_in;go_wp2;go_ret;refine⟨?_,rfl⟩;have e:32-(32-n)=n:=by omega
 show Ending.returned (.int .u32 (bits BinOp.or IntKind.u32 (x*2 ^ (32-n) % 4294967296) (x / 2 ^ (32-(32-n)))))=_;rw[e,Cv];rfl
theorem nQ(x:Int)(n:Nat)(hn:1≤n)(hn':n≤31)(w:World) :
 Calls Tryz.prog 233 #[.int .u32 x,.int .i64 n] w fun e w'=>e=.returned (.int .u32 (rot x n))/\w'=w:=by
 go_in
 go_wp2_with (go_at_call 255;refine(JX _ _ hn hn' _).mono ?_;rintro e w' ⟨rfl,rfl⟩)
 go_ret;exact⟨rfl,rfl⟩
theorem AT(x n:Int)(hn:1≤n)(hn':n≤31)(w:World) :
 Calls Tryz.prog 233 #[.int .u32 x,.int .i64 n] w fun e w'=>e=.returned (.int .u32 (rot x n.toNat))/\w'=w:=by
 obtain⟨m,rfl⟩:=Int.eq_ofNat_of_zero_le (show 0≤n by omega);exact nQ x m (by omega) (by omega) w
structure Win(w:World)(b i:Nat)(cs:Array Value)(x0 x7:Int):Prop where
 blk:w.heap[b]?=some (.cells cs 322 (0,0))
 c0:cs[i % 16]?=some (.int .u32 x0)
 c7:cs[(i-7) % 16]?=some (.int .u32 x7)
theorem Win.set{w:World}{b i:Nat}{cs:Array Value}{x0 x7:Int}(h:Win w b i cs x0 x7)(hi:16≤i)(y:Int):Win (w.setCell ⟨b,i % 16,none⟩ (.int .u32 y)).drew b i (cs.setIfInBounds (i % 16) (.int .u32 y)) y x7:=by
 have hlt:i % 16<cs.size:=(Array.getElem?_eq_some_iff.1 h.c0).1;refine⟨dO h.blk _ _,?_,?_⟩
 ·simp[hlt]
 ·rw[Array.getElem?_setIfInBounds_ne (by omega)];exact h.c7
theorem LX(b i:Nat)(w15 w2 w7 w16:Int)(p:Value)(cs:Array Value)(w:World)(h16:16≤i)(h64:i<64)
 (hw:Win w b i cs w16 w7) (c1:cs[(i-15) % 16]?=some (.int .u32 w15)) (c2:cs[(i-2) % 16]?=some (.int .u32 w2)) :
  Calls Tryz.prog 234 #[.pointer (some ⟨b,0,none⟩),.int .i64 i,p] w fun e w'=>e=.returned (.int .u32 (bE (bE (bE w16 (sg0 w15)) w7) (sg1 w2))) /\
   w'.heap[b]?=some (.cells (cs.setIfInBounds (i % 16) (.int .u32 (bE (bE (bE w16 (sg0 w15)) w7) (sg1 w2)))) 322 (0,0))/\aA (fun k=>k=b) w w':=by
 have hd:decide ((i:Int)<16)=false:=by simp;omega
 have c0:=aC hw.blk hw.c0;have c1:=aC hw.blk c1;have c2:=aC hw.blk c2;have W0:=O hw;clear hw;go_in;go_wp2_with fail
 go_quiet (fail)
 go_wp2_with fail;obtain⟨v,hv,W1,K1⟩:∃v,w.drewN nq=v/\Win v b i cs w16 w7/\Hid (aA (fun k=>k=b) w v):=⟨_,rfl,⟨W0.out.blk,W0.out.c0,W0.out.c7⟩,O ((aA.refl _ _).drewN _)⟩
 rw[hv];clear c0 c1 c2 hv W0;have d0:=aC W1.blk W1.c0;have e0:=cV W1.blk (i % 16);have H1:=O W1;clear W1;have r7:=nQ w15 7 (by omega) (by omega);have r18:=nQ w15 18 (by omega) (by omega);have R7:=O r7;have R18:=O r18;clear r7 r18
 go_still_tail 13,(by kernel_rfl)
 still_call (R7.out _)
 repeat still_step
 still_call (R18.out _)
 repeat still_step
 refine wpStill_nil ?_;go_wp2_with fail
 obtain⟨v2,hv2,W2,K2⟩:∃v2,(v.setCell ⟨b,i % 16,none⟩ (.int .u32 (bE w16 (sg0 w15)))).drew=v2/\Win v2 b i (cs.setIfInBounds (i % 16) (.int .u32 (bE w16 (sg0 w15)))) (bE w16 (sg0 w15)) w7/\Hid (aA (fun k=>k=b) w v2):=
  ⟨_,rfl,H1.out.set h16 _,O ((K1.out.setCell (fun _=>rfl) _).drew)⟩
 have hv2':(v.setCell ⟨b,i % 16,none⟩ (.int .u32 ((w16+bits BinOp.xor IntKind.u32 (bits BinOp.xor IntKind.u32 (rot w15 7) (rot w15 18)) (w15 / 8)) % 4294967296))).drew=v2:=hv2;rw[hv2'];clear hv2 hv2' d0 e0 H1 K1 R7 R18;have d0:=aC W2.blk W2.c0;have d7:=aC W2.blk W2.c7;have e0:=cV W2.blk (i % 16);have H2:=O W2;clear W2;have hw7:IntKind.i64.wrap ((i:Int)-7)=(i:Int)-7:=by rw[IntWalk.i64_in _ (by omega)]
 have ht7:((i:Int)-7).tmod 16=((i:Int)-7) % 16:=by rw[Int.tmod_eq_emod_of_nonneg (by omega)]
 have hl7:((i:Int)-7) % 16<16:=by omega
 have hl7':(0:Int)≤((i:Int)-7) % 16:=by omega
 have hn7:(((i:Int)-7) % 16).toNat=(i-7) % 16:=by omega
 go_still_tail 12,(by kernel_rfl)
 clear hw7 ht7 hl7 hl7' hn7;go_wp2_with fail
 obtain⟨v3,hv3,W3,K3⟩:∃v3,(v2.setCell ⟨b,i % 16,none⟩ (.int .u32 (bE (bE w16 (sg0 w15)) w7))).drew=v3/\Win v3 b i (cs.setIfInBounds (i % 16) (.int .u32 (bE (bE w16 (sg0 w15)) w7))) (bE (bE w16 (sg0 w15)) w7) w7/\Hid (aA (fun k=>k=b) w v3):=
  ⟨_,rfl,by have:=H2.out.set h16 (bE (bE w16 (sg0 w15)) w7);rwa [Array.setIfInBounds_setIfInBounds] at this,O ((K2.out.setCell (fun _=>rfl) _).drew)⟩
 have hv3':(v2.setCell ⟨b,i % 16,none⟩ (.int .u32 ((bE w16 (sg0 w15)+w7) % 4294967296))).drew=v3:=hv3;rw[hv3'];clear hv3 hv3' d0 d7 e0 H2 K2;have d0:=aC W3.blk W3.c0;have e0:=cV W3.blk (i % 16);have H3:=O W3;clear W3;have r17:=nQ w2 17 (by omega) (by omega);have r19:=nQ w2 19 (by omega) (by omega);have R17:=O r17;have R19:=O r19;clear r17 r19
 go_still_tail 13,(by kernel_rfl)
 still_call (R17.out _)
 repeat still_step
 still_call (R19.out _)
 repeat still_step
 refine wpStill_nil ?_;go_wp2_with fail
 obtain⟨v4,hv4,W4,K4⟩:∃v4,(v3.setCell ⟨b,i % 16,none⟩ (.int .u32 (bE (bE (bE w16 (sg0 w15)) w7) (sg1 w2)))).drew=v4/\Win v4 b i (cs.setIfInBounds (i % 16) (.int .u32 (bE (bE (bE w16 (sg0 w15)) w7) (sg1 w2)))) (bE (bE (bE w16 (sg0 w15)) w7) (sg1 w2)) w7/\Hid (aA (fun k=>k=b) w v4):=
  ⟨_,rfl,by have:=H3.out.set h16 (bE (bE (bE w16 (sg0 w15)) w7) (sg1 w2));rwa [Array.setIfInBounds_setIfInBounds] at this,O ((K3.out.setCell (fun _=>rfl) _).drew)⟩
 go_ret;exact⟨rfl,by have:=W4.blk;rw[←hv4] at this;exact this,by have:=K4.out;rw[←hv4] at this;exact this⟩
theorem LY(b i g o cap:Nat)(x0 x1 x2 x3:Int)(y:Value)(cs:Array Value)(w:World)(h16:i<16)(hcap:64≤cap)(hcap2:cap≤maxLen)
 (hb:w.heap[b]?=some (.cells cs 322 (0,0))) (hy:cs[i]?=some y)
 (c0:w.cell? ⟨g,o+4*i,none⟩=some (.int .u8 x0)) (c1:w.cell? ⟨g,o+4*i+1,none⟩=some (.int .u8 x1)) (c2:w.cell? ⟨g,o+4*i+2,none⟩=some (.int .u8 x2)) (c3:w.cell? ⟨g,o+4*i+3,none⟩=some (.int .u8 x3))
 (b0:0≤x0/\x0<256) (b1:0≤x1/\x1<256) (b2:0≤x2/\x2<256) (b3:0≤x3/\x3<256) :
  Calls Tryz.prog 234 #[.pointer (some ⟨b,0,none⟩),.int .i64 i,.slice (some ⟨g,o,none⟩) 64 cap] w fun e w'=>e=.returned (.int .u32 (yH x0 x1 x2 x3)) /\
   w'.heap[b]?=some (.cells (cs.setIfInBounds i (.int .u32 (yH x0 x1 x2 x3))) 322 (0,0))/\aA (fun k=>k=b) w w':=by
 unfold maxLen at hcap2;have hd:decide ((i:Int)<16)=true:=by simp;omega
 have hsz:4*i+4-4*i=4:=by omega
 have hm:i % 16=i:=by omega
 have cy:w.cell? ⟨b,i % 16,none⟩=some y:=by rw[hm];exact aC hb hy
 have fy:=cV hb (i % 16);have HB:=O hb;have HM:=O hm;clear hb hm;go_in;go_wp2_with fail
 go_still_tail 24,(by kernel_rfl)
 go_wp2;go_ret;refine⟨rfl,?_,?_⟩
 ·have:=dO HB.out (i % 16) (.int .u32 (yH x0 x1 x2 x3))
  rw[HM.out] at this;rw[HM.out];exact this
 ·exact((aA.refl (fun k=>k=b) w).setCell (fun _=>rfl) _).drew
open Go.RowKit
set_option maxRecDepth 100000
def BW(w:World)(l:List Int)(e:Ending)(w':World):Prop:=e=.returned (.agg (l.map vW).toArray)/\aA aB w w'
def pL:Value:=.agg (Array.replicate 64 (.int .u32 0))
def Hu:Value:=.agg (Array.replicate 16 (.int .u32 0))
def jA:Value:=.agg (Array.replicate 8 (.int .u32 0))
theorem Lu(w:World):(zeroValue 319).run Tryz.prog w=.ok pL w:=by kernel_rfl
theorem LZ(w:World):(zeroValue 322).run Tryz.prog w=.ok Hu w:=by kernel_rfl
theorem M7(w:World):(zeroValue 275).run Tryz.prog w=.ok jA w:=by kernel_rfl
theorem tZ(w:World):(zeroValue 276).run Tryz.prog w=.ok jA w:=by kernel_rfl
theorem Hv:(Tryz.prog.info? 319).map (·.size)=some 64:=by kernel_rfl
theorem NV:(Tryz.prog.info? 275).map (·.size)=some 8:=by kernel_rfl
theorem fS:(Tryz.prog.info? 276).map (·.size)=some 8:=by kernel_rfl
theorem gJ(l:List Int):∀u∈l.map vW,u.oneCell'=true:=by
 intro u hu;obtain⟨b,_,rfl⟩:=List.mem_map.1 hu;rfl
theorem AU:(spl pL.cells 0 (iU.map vW))=(iU.map vW).toArray:=aI _ _ (by simp[pL,Value.cells,iU])
theorem FG:(spl jA.cells 0 (nP.map vW))=(nP.map vW).toArray:=aI _ _ (by simp[jA,Value.cells,nP])
theorem AV{w w1 w0:World}{l:List Int}{cs:Array Value}(h:cs=(l.map vW).toArray)(hk:aA aB w w0)(hk2:aA (fun k=>k=w.heap.size) w0 w1):BW w l (.returned (.agg cs)) w1:=
 ⟨by rw[h],hk.trans' hk2 (fun _ _ h=>h) (fun i hi h=>by omega)⟩
theorem JY(w:World):Calls Tryz.prog 232 #[] w (BW w iU):=by
 go_in
 go_wp2_with (first
  | (refine fL rfl 319 rfl pL Lu ?_)
  | (refine Great.wpList_readTo rfl (some 1) rfl (.agg (iU.map vW).toArray) (by kernel_rfl) ?_)
  | (refine aP rfl 319 (.tmp 0) (.tmp 1) rfl w.heap.size 0 (iU.map vW) rfl rfl _ _ (heap_alloc_new _ _) (by simp[pL,Value.cells,iU]) Hv (gJ _) ?_;intro w1 hb hk;have HB:=O hb;have HK:=O hk;clear hb hk))
 refine bodyPost_ret (results_cell_row rfl _ _ w.heap.size _ _ _ _ rfl HB.out Tryz.underlying319 rfl (by rw[fJ];kernel_rfl)) rfl (AV AU ((aA.refl _ _).alloc _) HK.out)
theorem Hw(w:World):Calls Tryz.prog 196 #[] w (BW w nP):=by
 go_in
 go_wp2_with (first
  | (refine fL rfl 275 rfl jA M7 ?_)
  | (refine Great.wpList_readTo rfl (some 1) rfl (.agg (nP.map vW).toArray) (by kernel_rfl) ?_)
  | (refine aP rfl 275 (.tmp 0) (.tmp 1) rfl w.heap.size 0 (nP.map vW) rfl rfl _ _ (heap_alloc_new _ _) (by simp[jA,Value.cells,nP]) NV (gJ _) ?_;intro w1 hb hk;have HB:=O hb;have HK:=O hk;clear hb hk))
 refine bodyPost_ret (results_cell_row rfl _ _ w.heap.size _ _ _ _ rfl HB.out Tryz.underlying275 rfl (by rw[fJ];kernel_rfl)) rfl (AV FG ((aA.refl _ _).alloc _) HK.out)
def byt(bs:List UInt8)(j:Nat):Int:=((bs.getD j 0).toNat:Int)
theorem yI(bs:List UInt8)(j:Nat):0≤byt bs j/\byt bs j<256:=by
 unfold byt;have:=(bs.getD j 0).toNat_lt;omega
def Cy(w:World)(b i:Nat)(q:Nat->Int)(e:Ending)(w':World):Prop:=
 e=.returned (.int .u32 (wrd q i))/\w'.heap[b]?=some (.cells (win q (i+1)) 322 (0,0))/\aA (fun k=>k=b) w w'
theorem JZ(b i:Nat)(p:Value)(bs:List UInt8)(w:World)(h64:i<64)(hl:bs.length=64)(hp:Rd w 1 p 64 (bs.map vb))(hb:w.heap[b]?=some (.cells (win (byt bs) i) 322 (0,0))) :
 Calls Tryz.prog 234 #[.pointer (some ⟨b,0,none⟩),.int .i64 i,p] w (Cy w b i (byt bs)):=by
 by_cases h16:i<16
 ·obtain⟨h0,a,cap,rfl,h1,h2,h3,h4⟩:=hp
  obtain⟨g,o,rfl,hc⟩:=h4 (by simp[hl])
  have cell:∀j,j<64->w.cell? ⟨g,o+j,none⟩=some (.int .u8 (byt bs j)):=fun j hj=>hc j _ (by
   have:j<bs.length:=by omega
   simp[vb,byt,this])
  have hy:(win (byt bs) i)[i]?=some ((win (byt bs) i)[i]'(by rw[wZ];omega)):=by simp[wZ,h16]
  refine(LY b i g o cap (byt bs (4*i)) (byt bs (4*i+1)) (byt bs (4*i+2)) (byt bs (4*i+3)) _ _ w h16 h1 h2 hb hy (cell _ (by omega)) (cell (4*i+1) (by omega)) (cell (4*i+2) (by omega)) (cell (4*i+3) (by omega)) (yI _ _) (yI _ _) (yI _ _) (yI _ _)).mono ?_;rintro e w' ⟨rfl,h5,h6⟩;have hw:wrd (byt bs) i=yH (byt bs (4*i)) (byt bs (4*i+1)) (byt bs (4*i+2)) (byt bs (4*i+3)):=by rw[wrd,dif_pos h16]
  refine⟨by rw[hw],?_,h6⟩;rw[win,hw,show i % 16=i by omega];exact h5
 ·have g16:=rF (byt bs) i (i-16) (by omega) (by omega)
  have g15:=rF (byt bs) i (i-15) (by omega) (by omega);have g7:=rF (byt bs) i (i-7) (by omega) (by omega);have g2:=rF (byt bs) i (i-2) (by omega) (by omega);rw[show (i-16) % 16=i % 16 by omega] at g16;refine(LX b i (wrd (byt bs) (i-15)) (wrd (byt bs) (i-2)) (wrd (byt bs) (i-7)) (wrd (byt bs) (i-16)) p _ w (by omega) h64 ⟨hb,g16,g7⟩ g15 g2).mono ?_;rintro e w' ⟨rfl,h5,h6⟩;have hw:wrd (byt bs) i=bE (bE (bE (wrd (byt bs) (i-16)) (sg0 (wrd (byt bs) (i-15)))) (wrd (byt bs) (i-7))) (sg1 (wrd (byt bs) (i-2))):=by rw[wrd,dif_neg h16]
  refine⟨by rw[hw],?_,h6⟩;rw[win,hw];exact h5
open Go.RowKit
set_option maxRecDepth 100000
attribute [local go_sem ↓] Go.wp_at_zero Go.wp_at_succ
def Cz:Array Value:=(iU.map vW).toArray
def Lv(w:World)(vs:List Value)(s:St)(v5 v6:Value)(w':World):Prop:=
 ∃b5 b6,v5=.pointer (some ⟨b5,0,none⟩)/\v6=.pointer (some ⟨b6,0,none⟩)/\w'.heap[b5]?=some (.cells (s.l.map vW).toArray 276 (0,0))/\w'.heap[b6]?=some (.cells Cz 319 (0,0)) /\
  aA aB ((w.alloc (.cells vs.toArray 276)).alloc (.cells jA.cells 276)) w'/\w.heap.size+2≤b5/\w.heap.size+2≤b6
def CA(B:Nat)(s:St)(i:Nat)(v:Value)(w:World):Prop:=
 match i with
 | 0=>v=.agg (s.l.map vW).toArray
 | 1=>v=.agg Cz
 | 2=>∃b,v=.pointer (some ⟨b,0,none⟩)/\w.heap[b]?=some (.cells jA.cells 276 (0,0))/\B≤b
 | 3=>∃b,v=.pointer (some ⟨b,0,none⟩)/\w.heap[b]?=some (.cells pL.cells 319 (0,0))/\B≤b
 | _=>True
theorem FH(B:Nat)(s:St)(i:Nat)(v:Value)(w w':World)(h:CA B s i v w)(hk:aA aB w w'):CA B s i v w':=by
 unfold CA at *;split
 ·exact h
 ·exact h
 ·obtain⟨b,h1,h2,h3⟩:=h;exact⟨b,h1,hk.blk h2 id,h3⟩
 ·obtain⟨b,h1,h2,h3⟩:=h;exact⟨b,h1,hk.blk h2 id,h3⟩
 ·trivial
def FJ:Array Value:=Array.replicate 16 (.int .u32 0)
structure TR(w wr:World)(q:Nat->Int)(s x:St)(b5 b6 b7 k:Nat):Prop where
 st:wr.heap[w.heap.size]?=some (.cells (x.l.map vW).toArray 276 (0,0))
 res:wr.heap[w.heap.size+1]?=some (.cells jA.cells 276 (0,0))
 was:wr.heap[b5]?=some (.cells (s.l.map vW).toArray 276 (0,0))
 key:wr.heap[b6]?=some (.cells Cz 319 (0,0))
 win:wr.heap[b7]?=some (.cells (win q k) 322 (0,0))
 keep:aA aB w wr
 l5:w.heap.size+2≤b5
 l6:w.heap.size+2≤b6
 l7:w.heap.size+2≤b7
theorem TR.ne{w wr:World}{q:Nat->Int}{s x:St}{b5 b6 b7 k:Nat}(h:TR w wr q s x b5 b6 b7 k):b7≠b5/\b7≠b6:=by
 refine⟨fun e=>?_,fun e=>?_⟩
 ·have h1:=h.win;rw[e,h.was] at h1;simp only[Option.some.injEq,Obj.cells.injEq] at h1;exact absurd h1.2.1 (by decide)
 ·have h1:=h.win;rw[e,h.key] at h1;simp only[Option.some.injEq,Obj.cells.injEq] at h1;exact absurd h1.2.1 (by decide)
theorem TR.same{w wr wr':World}{q:Nat->Int}{s x:St}{b5 b6 b7 k:Nat}(h:TR w wr q s x b5 b6 b7 k)(hh:wr'.heap=wr.heap)(hk:aA aB wr wr'):TR w wr' q s x b5 b6 b7 k:=
 ⟨by rw[hh];exact h.st,by rw[hh];exact h.res,by rw[hh];exact h.was,by rw[hh];exact h.key,by rw[hh];exact h.win,h.keep.trans hk,h.l5,h.l6,h.l7⟩
theorem TR.word{w w1 w2:World}{q:Nat->Int}{s x:St}{b5 b6 b7 k:Nat}(h:TR w w1 q s x b5 b6 b7 k){e:Ending}(hp:Cy w1 b7 k q e w2):TR w w2 q s x b5 b6 b7 (k+1):=by
 obtain⟨_,hb,hk⟩:=hp;have l7:=h.l7;have hne:=h.ne;exact⟨hk.blk h.st (by omega),hk.blk h.res (by omega),hk.blk h.was (Ne.symm hne.1),hk.blk h.key (Ne.symm hne.2),hb,h.keep.trans' hk (fun _ _ h=>h) (fun i hi e=>by omega),h.l5,h.l6,h.l7⟩
theorem TR.turn{w w1:World}{q:Nat->Int}{s x:St}{b5 b6 b7 k:Nat}(h:TR w w1 q s x b5 b6 b7 k)(y:St){w2:World}(hb:w2.heap[w.heap.size]?=some (.cells (y.l.map vW).toArray 276 (0,0)))(hk:aA (fun k=>k=w.heap.size) w1 w2):TR w w2 q s y b5 b6 b7 k:=by
 have l5:=h.l5;have l6:=h.l6;have l7:=h.l7;exact⟨hb,hk.blk h.res (by omega),hk.blk h.was (by omega),hk.blk h.key (by omega),hk.blk h.win (by omega),h.keep.trans' hk (fun _ _ h=>h) (fun i hi e=>by omega),h.l5,h.l6,h.l7⟩
theorem TR.cells{w wr:World}{q:Nat->Int}{s x:St}{b5 b6 b7 k:Nat}(h:TR w wr q s x b5 b6 b7 k)(hk:k<64) :
 wr.cell? ⟨w.heap.size,0,none⟩=some (.int .u32 x.a)/\wr.cell? ⟨w.heap.size,1,none⟩=some (.int .u32 x.b)/\wr.cell? ⟨w.heap.size,2,none⟩=some (.int .u32 x.c)/\wr.cell? ⟨w.heap.size,3,none⟩=some (.int .u32 x.d) /\
 wr.cell? ⟨w.heap.size,4,none⟩=some (.int .u32 x.e)/\wr.cell? ⟨w.heap.size,5,none⟩=some (.int .u32 x.f)/\wr.cell? ⟨w.heap.size,6,none⟩=some (.int .u32 x.g)/\wr.cell? ⟨w.heap.size,7,none⟩=some (.int .u32 x.h) /\
 wr.cell? ⟨b6,k,none⟩=some (.int .u32 (iU.getD k 0)):=
 ⟨aC h.st rfl,aC h.st rfl,aC h.st rfl,aC h.st rfl,aC h.st rfl,aC h.st rfl,aC h.st rfl,aC h.st rfl,aC h.key (by
  have:k<iU.length:=by rw[show iU.length=64 from rfl];exact hk
  simp[Cz,vW,this])⟩
theorem TR.four{w wr:World}{q:Nat->Int}{s x:St}{b5 b6 b7 k:Nat}(h:TR w wr q s x b5 b6 b7 (k+1)){kk:Int}(hkk:kk=iU.getD k 0) :
 wr.cell? ⟨w.heap.size,7,none⟩=some (.int .u32 x.h)/\wr.cell? ⟨w.heap.size,5,none⟩=some (.int .u32 x.f)/\wr.cell? ⟨w.heap.size,6,none⟩=some (.int .u32 x.g)/\(k<64->wr.cell? ⟨b6,k,none⟩=some (.int .u32 kk)):=
 ⟨aC h.st rfl,aC h.st rfl,aC h.st rfl,fun hk=>by
  subst hkk
  exact aC h.key (by
   have:k<iU.length:=by rw[show iU.length=64 from rfl];exact hk
   simp[Cz,vW,this])⟩
theorem TR.eight{w wr:World}{q:Nat->Int}{s x:St}{b5 b6 b7 k:Nat}(h:TR w wr q s x b5 b6 b7 k) :
 wr.cell? ⟨w.heap.size,0,none⟩=some (.int .u32 x.a)/\wr.cell? ⟨w.heap.size,1,none⟩=some (.int .u32 x.b)/\wr.cell? ⟨w.heap.size,2,none⟩=some (.int .u32 x.c)/\wr.cell? ⟨w.heap.size,3,none⟩=some (.int .u32 x.d) /\
 wr.cell? ⟨w.heap.size,4,none⟩=some (.int .u32 x.e)/\wr.cell? ⟨w.heap.size,5,none⟩=some (.int .u32 x.f)/\wr.cell? ⟨w.heap.size,6,none⟩=some (.int .u32 x.g)/\wr.cell? ⟨w.heap.size,7,none⟩=some (.int .u32 x.h):=
 ⟨aC h.st rfl,aC h.st rfl,aC h.st rfl,aC h.st rfl,aC h.st rfl,aC h.st rfl,aC h.st rfl,aC h.st rfl⟩
theorem TR.roundEnd{w w1 w2:World}{q:Nat->Int}{s x:St}{b5 b6 b7 k:Nat}(h:TR w w1 q s x b5 b6 b7 (k+1)){kk t u:Int}
 (hb:w2.heap[w.heap.size]?=some (.cells (spl (x.l.map vW).toArray 0 ((⟨bE t u,x.a,x.b,x.c,bE x.d t,x.e,x.f,x.g⟩:St).l.map vW)) 276 (0,0))) (hk:aA (fun k=>k=w.heap.size) w1 w2) (hkk:kk=iU.getD k 0) (hx:x=sF q s k) (ht:Cw x kk (wrd q k)=t) (hu:FC x=u) :
 Hid (TR w w2 q s (sF q s (k+1)) b5 b6 b7 (k+1)):=by
 subst ht;subst hu;subst hkk;subst hx;rw[aI _ _ (by simp[St.l])] at hb;exact O (h.turn _ hb hk)
structure TS(w wr:World)(s:St)(b5:Nat)(L:List Int):Prop where
 st:wr.heap[w.heap.size]?=some (.cells (L.map vW).toArray 276 (0,0))
 res:wr.heap[w.heap.size+1]?=some (.cells jA.cells 276 (0,0))
 was:wr.heap[b5]?=some (.cells (s.l.map vW).toArray 276 (0,0))
 keep:aA aB w wr
 l5:w.heap.size+2≤b5
theorem TS.of{w wr:World}{q:Nat->Int}{s x:St}{b5 b6 b7 k:Nat}(h:TR w wr q s x b5 b6 b7 k):Hid (TS w wr s b5 (oG x s 0)):=
 O ⟨h.st,h.res,h.was,h.keep,h.l5⟩
theorem TS.cells{w wr:World}{s x:St}{b5 j:Nat}(h:TS w wr s b5 (oG x s j))(hj:j<8) :
 wr.cell? ⟨w.heap.size,j,none⟩=some (.int .u32 (x.at j))/\wr.cell? ⟨b5,j,none⟩=some (.int .u32 (s.at j))/\wr.frozen? ⟨w.heap.size,j,none⟩=false:=
 ⟨aC h.st (by simp[JQ x s j hj,vW]),aC h.was (by simp[St.at_get s j hj,vW]),cV h.st j⟩
theorem TS.step{w wr:World}{s x:St}{b5 j:Nat}(h:TS w wr s b5 (oG x s j))(y:Int)(hy:y=bE (x.at j) (s.at j)) :
 Hid (TS w (wr.setCell ⟨w.heap.size,j,none⟩ (.int .u32 y)).drew s b5 (oG x s (j+1))):=by
 subst hy;have l5:=h.l5;have K:aA (fun k=>k=w.heap.size) wr (wr.setCell ⟨w.heap.size,j,none⟩ (.int .u32 (bE (x.at j) (s.at j)))).drew:=((aA.refl (fun k=>k=w.heap.size) wr).setCell (fun _=>rfl) _).drew;refine O ⟨?_,K.blk h.res (by omega),K.blk h.was (by omega),h.keep.trans' K (fun _ _ h=>h) (fun i hi e=>by omega),l5⟩;have:=dO h.st j (vW (bE (x.at j) (s.at j)));rw[List.setIfInBounds_toArray,←List.map_set,Hq] at this;exact this
theorem FK(s:St)(p:Value)(bs:List UInt8)(w:World)(hl:bs.length=64)(hp:Rd w 1 p 64 (bs.map vb)) :
 Calls Tryz.prog 198 #[.agg (s.l.map vW).toArray,p] w (BW w (tV (byt bs) s).l):=by
 have HP:=O hp;clear hp;have hv:∃vs,s.l.map vW=vs/\vs.length=8/\∀v∈vs,v.oneCell'=true:=⟨_,rfl,by simp[St.l],gJ _⟩
 obtain⟨vs,hvs,hlen,hone⟩:=hv;rw[hvs];have HV:=O hvs;clear hvs;go_in
 go_upto_region 1 with (first
  | (refine fL rfl 276 rfl jA tZ ?_))
 simp only[Act.put,List.setIfInBounds_toArray,List.set_cons_succ,List.set_cons_zero]
 go_cut [5,6,14,15] (fun v5 v6 v14 v15 wc=>Hid (Lv w vs s v5 v6 wc))
 case first =>
  refine xX (by kernel_rfl) 4 (by kernel_rfl) (by decide) (by kernel_rfl) (CA (w.heap.size+2) s) (FH (w.heap.size+2) s) (fun w'=>w'.heap[w.heap.size]?=some (.cells vs.toArray 276 (0,0))/\aA aB ((w.alloc (.cells vs.toArray 276)).alloc (.cells jA.cells 276)) w')
   (fun w1 w2 h hk=>⟨hk.blk h.1 id,h.2.trans hk⟩) ?_ ⟨heap_alloc2_old _ _ _,(aA.refl _ _).drew⟩ ?_
  ·intro i o hi ho w1 hw1
   rcases (show i=0\/i=1\/i=2\/i=3 by omega) with rfl|rfl|rfl|rfl
   ·cases Option.some.inj ho
    exact By _ _ rfl w.heap.size 0 rfl vs _ (aD hw1.1) Tryz.underlying276 rfl (by rw[hlen];exact fS) ⟨aA.refl _ _,by rw[CA,HV.out]⟩
   ·cases Option.some.inj ho
    refine GV (f:=232) (args:=#[]) (by kernel_rfl) ((JY w1).mono ?_);rintro e w2 ⟨rfl,hk⟩;exact⟨_,rfl,hk,rfl⟩
   ·cases Option.some.inj ho
    exact xY _ rfl jA tZ ⟨(aA.refl _ _).alloc _,_,rfl,heap_alloc_new _ _,by have:=hw1.2.size;simpa using this⟩
   ·cases Option.some.inj ho
    exact xY _ rfl pL Lu ⟨(aA.refl _ _).alloc _,_,rfl,heap_alloc_new _ _,by have:=hw1.2.size;simpa using this⟩
  ·intro v listed w1 hl hF hp
   have l0:=hl 0 (by omega);have l1:=hl 1 (by omega);have l2:=hl 2 (by omega);have l3:=hl 3 (by omega);have p0:=hp 0 (by omega);have p1:=hp 1 (by omega);have p2:=hp 2 (by omega);have p3:=hp 3 (by omega);simp only[cY,l0,l1,l2,l3,if_true];obtain⟨b2,e2,hb2,hB2⟩:=p2;obtain⟨b3,e3,hb3,hB3⟩:=p3;rw[e2,e3,show v 0=_ from p0,show v 1=_ from p1];have hne:b3≠b2:=by intro e;rw[e,hb2] at hb3;cases hb3
   simp only[List.drop_succ_cons,List.drop_zero];refine aP rfl 276 (.tmp 5) (.tmp 14) rfl b2 0 vs rfl (by rw[←HV.out];rfl) _ _ hb2 (by rw[hlen];decide) (by rw[hlen];exact fS) hone ?_;intro w2 hw2 hk2;refine aP rfl 319 (.tmp 6) (.tmp 15) rfl b3 0 (iU.map vW) rfl rfl _ _ (hk2.blk hb3 hne) (by decide) Hv (gJ _) ?_;intro w3 hw3 hk3;refine wpList_nil ?_;simp only[List.getElem?_toArray,List.getElem?_cons_zero,List.getElem?_cons_succ,Option.bind_some,Act.put,List.setIfInBounds_toArray,List.set_cons_succ,List.set_cons_zero]
   have R:Hid (Lv w vs s (.pointer (some ⟨b2,0,none⟩)) (.pointer (some ⟨b3,0,none⟩)) w3):=by
    refine O ⟨b2,b3,rfl,rfl,?_,?_,?_,hB2,hB3⟩
    ·have:=hk3.blk hw2 (Ne.symm hne)
     rwa [aI _ _ (by rw[hlen];rfl),←HV.out] at this
    ·rwa [AU] at hw3
    ·exact(hF.2.trans' hk2 (fun _ _ h=>h) (fun i hi e=>by simp at hi;omega)).trans' hk3 (fun _ _ h=>h) (fun i hi e=>by simp at hi;omega)
   clear hw2 hk2 hw3 hk3 hF p0 p1 hb2 hb3 l0 l1 l2 l3 hp hl e2 e3;go_wp2_with fail
   go_meet
   case rel=>exact R
 case rest =>
  obtain⟨b5,b6,rfl,rfl,h5,h6,hk,l5,l6⟩:=hcut.out
  have R0:Hid (TR w (wc.alloc (.cells FJ 322)) (byt bs) s s b5 b6 wc.heap.size 0):=by
   have hsz:=hk.size;simp only[World.size_alloc] at hsz;have K2:aA aB wc (wc.alloc (.cells FJ 322)):=(aA.refl _ _).alloc _;refine O ⟨K2.blk (by rw[HV.out];exact hk.blk (heap_alloc2_old _ _ _) id) id,K2.blk (hk.blk (heap_alloc2_new _ _ _) id) id,K2.blk h5 id,K2.blk h6 id,heap_alloc_new _ _,?_,l5,l6,by omega⟩;exact((((aA.refl _ _).alloc _).alloc _).trans hk).trans K2
  clear h5 h6 hk l5 l6 hcut
  go_wp2_with (refine aR rfl 322 rfl Hu LZ FJ rfl ?_)
  generalize wc.alloc (.cells FJ 322)=w0 at *;generalize wc.heap.size=b7 at *
  go_loopw [16] (fun i wr=>∃k:Nat,k≤64/\i=.int .i64 k/\Hid (TR w wr (byt bs) s (sF (byt bs) s k) b5 b6 b7 k)) (fun i _=>64-(intOf i).toNat)
  case atStart=>exact⟨0,by omega,rfl,R0⟩
  case round =>
   obtain⟨k,hk,rfl,hR⟩:=hrel
   by_cases hlt:k<64
   ·obtain⟨x,hx⟩:∃x,x=sF (byt bs) s k:=⟨_,rfl⟩
    rw[←hx] at hR;have HX:=O hx;clear hx;obtain⟨c0,c1,c2,c3,c4,c5,c6,c7,ck⟩:=hR.out.cells hlt;go_wp2_with fail
    go_quiet (fail)
    go_wp2_with fail;obtain⟨w1,hw1,hR1⟩:∃w1,wr.drewN nq=w1/\Hid (TR w w1 (byt bs) s x b5 b6 b7 k):=⟨_,rfl,O (hR.out.same rfl ((aA.refl _ _).drewN _))⟩
    rw[hw1];clear hw1 hR c0 c1 c2 c3 c4 c5 c6 c7 ck;obtain⟨c0,c1,c2,c3,c4,c5,c6,c7,ck⟩:=hR1.out.cells hlt
    have hword:∀w2:World,w2.heap=w1.heap->aA aB w1 w2->Calls Tryz.prog 234 #[.pointer (some ⟨b7,0,none⟩),.int .i64 k,p] w2 (fun e w3=>e=.returned (.int .u32 (wrd (byt bs) k))/\TR w w3 (byt bs) s x b5 b6 b7 (k+1)):=by
     intro w2 hh hk2;have R2:=hR1.out.same hh hk2;refine(JZ b7 k p bs w2 hlt hl (HP.out.keep R2.keep fun _ _=>id) R2.win).mono ?_;intro e w3 hp;exact⟨hp.1,R2.word hp⟩
    have HW:=O hword;clear hword;have hk1:(0:Int)≤(k:Int):=by omega
    have hk2:(k:Int)<64:=by omega
    obtain⟨kk,hkk⟩:∃kk,kk=iU.getD k 0:=⟨_,rfl⟩
    rw[←hkk] at ck;have HKK:=O hkk;clear hkk c0 c1 c2 c3 c4;have K0:=O (aA.refl aB w1)
    go_region_held3 (fun w'=>w'.cell? ⟨w.heap.size,7,none⟩=some (.int .u32 x.h)/\w'.cell? ⟨w.heap.size,5,none⟩=some (.int .u32 x.f)/\w'.cell? ⟨w.heap.size,6,none⟩=some (.int .u32 x.g)/\w'.cell? ⟨b6,k,none⟩=some (.int .u32 kk))
     (first|go_keep|(exact⟨hR3.out.1,hR3.out.2.1,hR3.out.2.2.1,hR3.out.2.2.2 hlt⟩))
     (first
       | (go_at_call 233;refine(AT _ _ (by omega) (by omega) _).mono ?_;rintro e w' ⟨rfl,rfl⟩)
       | (go_at_call 234;refine(HW.out w1.drew rfl ((aA.refl _ _).drew)).mono ?_;rintro e w3 ⟨rfl,hR2⟩;have hR3:=O (TR.four hR2 HKK.out)))
    go_wp2_with fail;obtain⟨t,ht⟩:∃t,Cw x kk (wrd (byt bs) k)=t:=⟨_,rfl⟩
    have ht':=ht;unfold Cw bE jV sE Lr at ht';simp only[ht'];have HT:=O ht;clear ht ht';have hR4:=O hR2;clear hR2 hR3 HW K0 hR1 ck;obtain⟨c0,c1,c2,c3,c4,c5,c6,c7⟩:=TR.eight hR4.out
    go_quiet (first|(go_at_call 233;refine Calls.quiet_of_same (AT _ _ (by omega) (by omega) _)))
    obtain⟨w4,hw4,hR5⟩:∃w4,w3.drewN nq=w4/\Hid (TR w w4 (byt bs) s x b5 b6 b7 (k+1)):=⟨_,rfl,O (hR4.out.same rfl ((aA.refl _ _).drewN _))⟩
    rw[hw4];obtain⟨u,hu⟩:∃u,FC x=u:=⟨_,rfl⟩
    have hu':=hu;unfold FC bE jV sE at hu';simp only[IntKind.wrap_u32] at hu';simp only[hu'];have HU:=O hu;clear hu hu';clear hw4 hR4 c0 c1 c2 c3 c4 c5 c6 c7;obtain⟨c0,c1,c2,c3,c4,c5,c6,c7⟩:=TR.eight hR5.out
    go_wp2_with (with_reducible show WL none (.store 276 (.tmp 2) (.tmp 94));refine aP rfl 276 (.tmp 2) (.tmp 94) rfl w.heap.size 0 ((⟨bE t u,x.a,x.b,x.c,bE x.d t,x.e,x.f,x.g⟩:St).l.map vW) rfl rfl _ _ hR5.out.st (by simp[St.l]) (by simp[St.l,fS]) (gJ _) ?_;intro w5 hb5 hk5;have hR6:=TR.roundEnd hR5.out hb5 hk5 HKK.out HX.out HT.out HU.out;clear hb5 hk5 hR5 c0 c1 c2 c3 c4 c5 c6 c7)
    go_roundw
    case rel=>exact⟨k+1,by omega,by go_num,hR6⟩
    case measure=>simp[intOf];omega
   ·obtain rfl:k=64:=by omega
    go_wp2_with fail;rw[show (Value.int .i64 ((64:Nat):Int))=Value.int .i64 64 from rfl];have S0:=TS.of hR.out;clear hR;obtain⟨wo,rfl⟩:∃wo:World,wo=wr:=⟨_,rfl⟩
    go_loopw [96] (fun i wr=>∃j:Nat,j≤8/\i=.int .i64 j/\Hid (TS w wr s b5 (oG (sF (byt bs) s 64) s j))) (fun i _=>8-(intOf i).toNat)
    case atStart=>exact⟨0,by omega,rfl,S0⟩
    case round =>
     obtain⟨j,hj,rfl,hS⟩:=hrel
     by_cases hjl:j<8
     ·obtain⟨x,hx⟩:∃x,sF (byt bs) s 64=x:=⟨_,rfl⟩
      rw[hx] at hS ⊢;obtain⟨cx,cs,fx⟩:=hS.out.cells hjl;have hj0:(0:Int)≤(j:Int):=by omega
      have hj8:(j:Int)<8:=by omega
      go_wp2_with fail
      go_still_tail 8,(by kernel_rfl)
      go_wp2
      go_roundw
      case rel=>exact⟨j+1,by omega,by go_num,hS.out.step _ rfl⟩
      case measure=>simp[intOf];omega
     ·obtain rfl:j=8:=by omega
      rw[JP] at hS;have hlen8:((tV (byt bs) s).l.map vW).length=8:=rfl
      go_wp2_with (first
       | (with_reducible show WL (some 108) (.load 276 (.tmp 2));refine wpList_load_mid rfl 276 (.tmp 2) rfl w.heap.size 0 rfl ((tV (byt bs) s).l.map vW) _ (aD hS.out.st) Tryz.underlying276 rfl (by rw[hlen8];exact fS) ?_)
       | (with_reducible show WL none (.store 276 (.tmp 4) (.tmp 108));refine aP rfl 276 (.tmp 4) (.tmp 108) rfl (w.heap.size+1) 0 ((tV (byt bs) s).l.map vW) rfl rfl _ _ hS.out.res (by rw[hlen8];decide) (by rw[hlen8];exact fS) (gJ _) ?_;intro w5 hb5 hk5;have HB5:=O hb5;have HK5:=O hk5;clear hb5 hk5))
      refine bodyPost_ret (results_cell_row rfl _ _ (w.heap.size+1) _ _ _ _ rfl HB5.out Tryz.underlying276 rfl (by rw[fJ];exact fS)) rfl ⟨?_,?_⟩
      ·rw[aI _ _ (by rw[hlen8];rfl)]
      ·exact hS.out.keep.trans' HK5.out (fun _ _ h=>h) (fun i hi e=>by omega)
end
section
open Go.RowKit
open Go.RowKit
theorem bI{P:Program}{fn:Func}{p u:Tmp}{ty:TypeId}(h:fn.results=#[.cell p ty,.tmp u])(tmps:Array Value)(w:World)(g:Nat)(t:TypeId)(cs:Array Value)(fr:Nat×Nat)(d:TypeDesc)
 (hp:tmps.getD p undef=.pointer (some ⟨g,0,none⟩)) (hg:w.heap[g]?=some (.cells cs t fr))
 (hu:P.underlying ty=some d) (hd:(match d with|.struct _|.array _ _=>true|_=>false)=true) (hi:(P.info? ty).map (·.size)=some cs.size) :
 (results fn tmps).run P w=.ok (.tuple #[.agg cs,tmps.getD u undef]) w:=by
 rw[results_cell_tmp h,hp];simp[asAddr,run_loadVar_row w g t ty cs fr d hg hu hd hi]
end
end Go.Proofs.YtiinnfhjpaeffaaGreat
