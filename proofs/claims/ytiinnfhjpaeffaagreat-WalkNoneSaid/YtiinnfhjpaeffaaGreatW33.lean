import Derived.Test.YtiinnfhjpaeffaaGreatW1
import Derived.Test.YtiinnfhjpaeffaaGreatW31
import Derived.Test.YtiinnfhjpaeffaaGreatW32
namespace Go.Proofs.YtiinnfhjpaeffaaGreat
set_option maxHeartbeats 64000000
set_option maxRecDepth 100000
set_option linter.unusedVariables false
section
open Go.RowKit Go.Maps Go.ChangeMaps
def wrM(Mm:Nat->Nat->List UInt8)(s:Nat)(b:List UInt8):Nat->Nat->Nat->List UInt8
 | 0=>Mm
 | k+1=>fP (wrM Mm s b k) k s b
theorem Bx(Mm:Nat->Nat->List UInt8)(s:Nat)(b:List UInt8):∀(k d s':Nat),s'≠s->wrM Mm s b k d s'=Mm d s'
 | 0,_,_,_=>rfl
 | k+1,d,s',h=>by
   show fP _ _ _ _ _ _=_;unfold fP;rw[if_neg fun e=>h e.2];exact Bx Mm s b k d s' h
def pZ(w:World)(c a m lb:Nat)(pid:List UInt8)(cp:Nat)(gv:Value)(t:Lst)(B:Nat->Prop)(D Z:Nat)(P:Nat->Nat->Nat->List UInt8)(nw q k:Nat)(w':World):Prop:=
 ∃B' nw',gE w' c a m lb pid cp gv t B' D Z (P k) nw'/\nw'≤nw+q*k/\(∀i,B' i->B i\/w.heap.size≤i)/\aA B w w'
theorem pZ.step{w wr w1 w2:World}{c a m lb:Nat}{pid:List UInt8}{cp:Nat}{gv:Value}{t:Lst}{B B1 B2:Nat->Prop}{D Z nw nw1 nw2 q k:Nat}{P:Nat->Nat->Nat->List UInt8}(hT:¬B c/\¬B m/\¬B lb/\∀i,t.Own i->¬B i)(hL:c<w.heap.size/\m<w.heap.size/\lb<w.heap.size/\∀i,t.Own i->i<w.heap.size)
 (h:gE wr c a m lb pid cp gv t B1 D Z (P k) nw1) (hn:nw1≤nw+q*k) (hb:∀i,B1 i->B i\/w.heap.size≤i) (kw:aA B w wr) (k1:aA aB wr w1) (ha:bM w2 a B2 D Z (P (k+1)) nw2) (hn2:nw2≤nw1+q) (hb2:∀i,B2 i->B1 i\/w1.heap.size≤i) (k2:aA B1 w1 w2) (hP:∀d,P (k+1) d 0=P k d 0):pZ w c a m lb pid cp gv t B D Z P nw q (k+1) w2:=by
 have k12:aA B1 wr w2:=k1.trans' k2 (fun _ _ h=>h.elim) fun _ _ h=>h
 have hnc:∀i,i<w.heap.size->¬B i->¬B1 i:=fun i hi hB e=>(hb i e).elim hB fun e=>by omega
 refine⟨B2,nw2,⟨h.cor.keep k12 (hnc c hL.1 hT.1) fun i e ht=>hnc i (hL.2.2.2 i ht) (hT.2.2.2 i ht) e,ha,k12.blk h.mir (hnc m hL.2.1 hT.2.1),k12.blk h.liv (hnc lb hL.2.2.1 hT.2.2.1),h.cpb,fun d hd=>by rw[hP];exact h.lab d hd⟩,by rw[Nat.mul_succ];omega,fun i hi=>?_,kw.trans' k12 (fun _ _ h=>h) fun i hi e=>(hb i e).elim id fun e=>by omega⟩;rcases hb2 i hi with e|e
 ·exact hb i e
 ·have:=k1.size;have:=kw.size
  exact .inr (by omega)
def gG(w:World)(c a m lb:Nat)(pid:List UInt8)(cp:Nat)(gv:Value)(t:Lst)(B:Nat->Prop)(D Z:Nat)(P:Nat->Nat->Nat->List UInt8)(nw q:Nat)(e:Ending)(w':World):Prop:=
 e=.returned (.tuple #[.int .i64 (D:Int),.int .i64 0])/\pZ w c a m lb pid cp gv t B D Z P nw q D w'
theorem gG.from{w w0 w':World}{c a m lb:Nat}{pid:List UInt8}{cp:Nat}{gv:Value}{t:Lst}{B:Nat->Prop}{D Z nw q:Nat}{P:Nat->Nat->Nat->List UInt8}{e:Ending}(h:gG w c a m lb pid cp gv t B D Z P nw q e w')(k:aA aB w0 w):gG w0 c a m lb pid cp gv t B D Z P nw q e w':=by
 obtain⟨h1,B',nw',h2,h3,h4,h5⟩:=h;exact⟨h1,B',nw',h2,h3,fun i hi=>(h4 i hi).imp id fun h=>Nat.le_trans k.size h,k.trans' h5 (fun _ _ h=>h.elim) fun _ _ h=>h⟩
structure WrC(w:World)(B:Nat->Prop)(c q2 q8 q6 s:Nat)(v:Value)(b:List UInt8):Prop where
 c2:w.heap[q2]?=some (.cells #[.pointer (some ⟨c,0,none⟩)] 39 (0,0))
 c8:w.heap[q8]?=some (.cells #[.int .i64 (s:Int)] 3 (0,0))
 c6:w.heap[q6]?=some (.cells #[v] 109 (0,0))
 rd:Rd w 1 v 256 (b.map vb)
 off:¬B q2/\¬B q8/\¬B q6/\∀i,v.ownBlock=some i->¬B i
 lt:q2<w.heap.size/\q8<w.heap.size/\q6<w.heap.size/\∀i,v.ownBlock=some i->i<w.heap.size
theorem WrC.keep{w w':World}{B B':Nat->Prop}{c q2 q8 q6 s:Nat}{v:Value}{b:List UInt8}(h:WrC w B c q2 q8 q6 s v b)(k:aA B w w')(hB:∀i,B' i->B i\/w.heap.size≤i):WrC w' B' c q2 q8 q6 s v b:=by
 have q:∀i,i<w.heap.size->¬B i->¬B' i:=fun i hi h e=>(hB i e).elim h fun e=>by omega
 have z:=k.size;exact⟨k.blk h.c2 h.off.1,k.blk h.c8 h.off.2.1,k.blk h.c6 h.off.2.2.1,h.rd.keep k h.off.2.2.2,⟨q _ h.lt.1 h.off.1,q _ h.lt.2.1 h.off.2.1,q _ h.lt.2.2.1 h.off.2.2.1,fun i hi=>q i (h.lt.2.2.2 i hi) (h.off.2.2.2 i hi)⟩,Nat.lt_of_lt_of_le h.lt.1 z,Nat.lt_of_lt_of_le h.lt.2.1 z,Nat.lt_of_lt_of_le h.lt.2.2.1 z,fun i hi=>Nat.lt_of_lt_of_le (h.lt.2.2.2 i hi) z⟩
theorem WrC.keep0{w w':World}{B:Nat->Prop}{c q2 q8 q6 s:Nat}{v:Value}{b:List UInt8}(h:WrC w B c q2 q8 q6 s v b)(k:aA aB w w'):WrC w' B c q2 q8 q6 s v b:=h.keep k.any fun _ e=>.inl e
theorem Ey{w:World}{c a m lb:Nat}{pid:List UInt8}{cp:Nat}{gv:Value}{t:Lst}{D Z nw:Nat}{B:Nat->Prop}{Mm:Nat->Nat->List UInt8}(h:gE w c a m lb pid cp gv t B D Z Mm nw){q2 q8 q6 s d:Nat}{v:Value}{b:List UInt8}(hW:WrC w B c q2 q8 q6 s v b)(hcB:¬B c)(hd:d<D)(hs:s<Z)(hbl:b.length=256)(hn:nw<100000000000):Calls Tryz.prog 102 #[.int .i64 (d:Int),.pointer (some ⟨q2,0,none⟩),.pointer (some ⟨q8,0,none⟩),.pointer (some ⟨q6,0,none⟩)] w (jL w a B D Z Mm nw d s b):=by
 have HB:=O h;have HW:=O hW;have HCB:=O hcB;have HHH:=O (And.intro hd (And.intro hs (And.intro hbl hn)));obtain⟨va,vc,rfl,-,-⟩:=hW.rd.form;have HL:=lN w;clear h hW hcB hbl hn;go_in;go_wp2_with fail;refine dwA B (by kernel_rfl) ?_;intro w1 S HSE HSI hS hkd;replace HL:=kL HL hkd;replace HB:=O (HB.out.keep0 hkd);replace HW:=O (HW.out.keep0 hkd);clear hkd;have HLs:=HL;have HBs:=HB;have HWs:=HW;refine tnd 0 (.pointer (some ⟨c,0,none⟩)) rfl (.inl ⟨by rfl,fun w' hw'=>by have c:World.cell? w' ⟨q2,0,none⟩=some (.pointer (some ⟨c,0,none⟩)):=(HSE.out w' hw').cell (cell_of_one HWs.out.c2) HWs.out.off.1;go_simp⟩) hS ?_;refine tnb 1 (.pointer (some ⟨c,0,none⟩)) rfl hS ?_;refine tnb 2 (.pointer (some ⟨c,0,none⟩)) rfl hS ?_;refine tnd 3 (.pointer (some ⟨a,0,none⟩)) rfl (.inl ⟨by rfl,fun w' hw'=>by have c:World.cell? w' ⟨c,0,none⟩=some (.pointer (some ⟨a,0,none⟩)):=(HSE.out w' hw').cell (aZ.c0 HBs.out.cor) HCB.out;go_simp⟩) hS ?_;refine tna 4 (.int .i64 (d:Int)) rfl hS ?_;refine tnd 5 (.int .i64 (s:Int)) rfl (.inl ⟨by rfl,fun w' hw'=>by have c:World.cell? w' ⟨q8,0,none⟩=some (.int .i64 (s:Int)):=(HSE.out w' hw').cell (cell_of_one HWs.out.c8) HWs.out.off.2.1;go_simp⟩) hS ?_;refine tnd 6 (.slice va 256 vc) rfl (.inl ⟨by rfl,fun w' hw'=>by have c:World.cell? w' ⟨q6,0,none⟩=some (.slice va 256 vc):=(HSE.out w' hw').cell (cell_of_one HWs.out.c6) HWs.out.off.2.2.1;go_simp⟩) hS ?_;refine wA9 7 ?_;go_wp2_with fail;refine((oT HB.out.arr HHH.out.1 HHH.out.2.1 b HHH.out.2.2.1 (.slice va 256 vc) HW.out.rd HW.out.off.2.2.2 HHH.out.2.2.2)).mono ?_;rintro e w2 ⟨rfl,B2,ha,hb2,hk⟩;have HP:Hid (jL w a B D Z Mm nw d s b (.returned (.int .i64 0)) w2):=O ⟨rfl,B2,ha,fun i hi=>(hb2 i hi).imp id fun h=>Nat.le_trans HL.out.keep.size h,HL.out.keep.trans' hk (fun _ _ h=>h.elim) fun _ _ h=>h⟩;have hS1:=HSI.out _ ((HSE.out _ hS).trans hk);clear hS hk ha hb2 HL HB HW;go_wp2_with fail;refine⟨hS1,?_⟩;refine tna 8 (.int .i64 0) rfl hS1 ?_;refine wpAnyH_done (by kernel_rfl) ?_ _;clear hS1 HSE HSI HLs HBs HWs;go_wp2;go_ret;exact HP.out
theorem GI{w:World}{c a m lb:Nat}{pid:List UInt8}{cp:Nat}{gv:Value}{t:Lst}{D Z nw:Nat}{B:Nat->Prop}{Mm:Nat->Nat->List UInt8}(h:gE w c a m lb pid cp gv t B D Z Mm nw)(hT:¬B c/\¬B m/\¬B lb/\∀i,t.Own i->¬B i)(hn:nw≤50000000000):Calls Tryz.prog 98 #[.pointer (some ⟨c,0,none⟩),.func (.func 99) #[.pointer (some ⟨a,0,none⟩)] #[]] w (gG w c a m lb pid cp gv t B D Z (fun _=>Mm) nw 0):=by
 have hbd:=h.arr.bd;have HB:=O h;have HTP:=O hT;have HNW:=O hn;have HLT:=O (show c<w.heap.size/\m<w.heap.size/\lb<w.heap.size/\∀i,t.Own i->i<w.heap.size from⟨lt_of_block h.cor.top,lt_of_block h.mir,lt_of_block h.liv,fun i hi=>h.cor.lst.lt hi⟩);have HL:=lN w;clear h hT hn;go_in;go_wp2_with fail;have HBLT:=O (fun i (e:B i)=>HB.out.arr.lt e);refine(qK HB.out.cor HB.out.arr).mono ?_;rintro e w1 ⟨v0,rfl,ho,hk⟩;obtain⟨g,o,dc,rfl,-⟩:=oW (Rd.of_owns ho) (kY (show 0<D by omega))
 have HDO:=O (fun(k:Nat) (hk:k<D)=>show World.cell? w1 ⟨g,o+k,none⟩=some (.int .i64 (k:Int)) from by
  obtain⟨g',o',cap',he,hc⟩:=oW (Rd.of_owns ho) (kY hk);cases he
  exact hc)
 have HGB:Hid (¬B g):=O (fun e=>by have h1:=aS ho (show (Value.slice (some ⟨g,o,none⟩) D dc).ownBlock=some g from rfl);have h2:=HBLT.out g e;omega);clear ho;replace HL:=kL HL hk;replace HB:=O (HB.out.keep0 hk);clear hk;go_wp2_with fail;have HK0:=O HL.out.keep;have HT1:=O (show c<w1.heap.size/\m<w1.heap.size/\lb<w1.heap.size/\∀i,t.Own i->i<w1.heap.size from⟨Nat.lt_of_lt_of_le HLT.out.1 HK0.out.size,Nat.lt_of_lt_of_le HLT.out.2.1 HK0.out.size,Nat.lt_of_lt_of_le HLT.out.2.2.1 HK0.out.size,fun i hi=>Nat.lt_of_lt_of_le (HLT.out.2.2.2 i hi) HK0.out.size⟩);have HST:Hid (pZ w1 c a m lb pid cp gv t B D Z (fun _=>Mm) nw 0 0 w1):=O ⟨B,nw,HB.out,Nat.le_add_right _ _,fun i h=>.inl h,aA.refl _ _⟩;clear HL HB
 go_loopw [6,8,12] (fun n _ i wr=>∃k:Nat,k≤D/\n=.int .i64 (k:Int)/\i=.int .i64 (k:Int)/\Hid (pZ w1 c a m lb pid cp gv t B D Z (fun _=>Mm) nw 0 k wr)) (fun _ _ i _=>D-(intOf i).toNat)
 case atStart=>exact⟨0,by omega,rfl,rfl,HST⟩
 case round =>
  obtain⟨k,hk,rfl,rfl,HE⟩:=hrel
  by_cases hk8:k<D
  ·obtain⟨B1,nw1,hcb,hn1,hb1,hkw⟩:=HE.out
   have HB:=O hcb;have HN1:=O hn1;have HB1:=O hb1;have HKW:=O hkw;have HL:=lN wr;have hk0:(0:Int)≤(k:Int):=by omega
   have hk1:(k:Int)<(D:Int):=by omega
   have HX:Hid (World.cell? wr ⟨g,o+k,none⟩=some (.int .i64 (k:Int))):=O (hkw.cell (HDO.out k hk8) HGB.out);clear hcb hn1 hb1 hkw HE;have HB0:=HB;have c1:wr.cell? ⟨g,o+k,none⟩=some (.int .i64 (k:Int)):=HX.out;go_wp2_with fail;clear c1;refine(oV HB.out.arr HB.out.cor HB.out.liv hk8 HB.out.cpb (HB.out.lab _ hk8)).mono ?_;rintro e w2 ⟨rfl,hk⟩;replace HL:=kL HL hk;replace HB:=O (HB.out.keep0 hk);replace HX:=O (hk.cell HX.out id);clear hk;go_wp2_with fail;refine((yS HB.out.arr hk8 (by have h1:=HN1.out;have h2:=HNW.out;omega))).mono ?_;rintro e w3 ⟨rfl,B2,nw2,ha,hn2,hb2,hk⟩;have HNX:Hid (pZ w1 c a m lb pid cp gv t B D Z (fun _=>Mm) nw 0 (k+1) w3):=O (pZ.step (P:=(fun _=>Mm)) HTP.out HT1.out HB0.out HN1.out HB1.out HKW.out HL.out.keep ha (by omega) hb2 hk (fun d=>rfl));clear hk ha hn2 hb2 HB HL;clear HX;go_wp2
   go_roundw
   case rel=>exact⟨k+1,by omega,by go_num,by go_num,HNX⟩
   case measure=>simp[intOf];omega
  ·obtain rfl:k=D:=by omega
   have HP:=O (gG.from (w0:=w) ⟨rfl,HE.out⟩ HK0.out);clear HE;go_wp2
   go_ret2
   exact HP.out
theorem GJ{w:World}{c a m lb:Nat}{pid:List UInt8}{cp:Nat}{gv:Value}{t:Lst}{D Z nw:Nat}{B:Nat->Prop}{Mm:Nat->Nat->List UInt8}(h:gE w c a m lb pid cp gv t B D Z Mm nw)(hT:¬B c/\¬B m/\¬B lb/\∀i,t.Own i->¬B i){q2 q8 q6 s:Nat}{v:Value}{b:List UInt8}(hW:WrC w B c q2 q8 q6 s v b)(hs:1≤s/\s<Z)(hbl:b.length=256)(hn:nw≤50000000000):Calls Tryz.prog 98 #[.pointer (some ⟨c,0,none⟩),.func (.func 102) #[] #[.pointer (some ⟨q2,0,none⟩),.pointer (some ⟨q8,0,none⟩),.pointer (some ⟨q6,0,none⟩)]] w (gG w c a m lb pid cp gv t B D Z (wrM Mm s b) nw 1):=by
 have hbd:=h.arr.bd;have HB:=O h;have HTP:=O hT;have HNW:=O hn;have HW:=O hW;have HS:=O hs;have HBL:=O hbl;have HLT:=O (show c<w.heap.size/\m<w.heap.size/\lb<w.heap.size/\∀i,t.Own i->i<w.heap.size from⟨lt_of_block h.cor.top,lt_of_block h.mir,lt_of_block h.liv,fun i hi=>h.cor.lst.lt hi⟩);have HL:=lN w;clear h hT hn hW hs hbl;go_in;go_wp2_with fail;have HBLT:=O (fun i (e:B i)=>HB.out.arr.lt e);refine(qK HB.out.cor HB.out.arr).mono ?_;rintro e w1 ⟨v0,rfl,ho,hk⟩;obtain⟨g,o,dc,rfl,-⟩:=oW (Rd.of_owns ho) (kY (show 0<D by omega))
 have HDO:=O (fun(k:Nat) (hk:k<D)=>show World.cell? w1 ⟨g,o+k,none⟩=some (.int .i64 (k:Int)) from by
  obtain⟨g',o',cap',he,hc⟩:=oW (Rd.of_owns ho) (kY hk);cases he
  exact hc)
 have HGB:Hid (¬B g):=O (fun e=>by have h1:=aS ho (show (Value.slice (some ⟨g,o,none⟩) D dc).ownBlock=some g from rfl);have h2:=HBLT.out g e;omega);clear ho;replace HL:=kL HL hk;replace HB:=O (HB.out.keep0 hk);replace HW:=O (HW.out.keep0 hk);clear hk;go_wp2_with fail;have HK0:=O HL.out.keep;have HT1:=O (show c<w1.heap.size/\m<w1.heap.size/\lb<w1.heap.size/\∀i,t.Own i->i<w1.heap.size from⟨Nat.lt_of_lt_of_le HLT.out.1 HK0.out.size,Nat.lt_of_lt_of_le HLT.out.2.1 HK0.out.size,Nat.lt_of_lt_of_le HLT.out.2.2.1 HK0.out.size,fun i hi=>Nat.lt_of_lt_of_le (HLT.out.2.2.2 i hi) HK0.out.size⟩);have HST:Hid (pZ w1 c a m lb pid cp gv t B D Z (wrM Mm s b) nw 1 0 w1):=O ⟨B,nw,HB.out,Nat.le_add_right _ _,fun i h=>.inl h,aA.refl _ _⟩;clear HL HB
 go_loopw [6,8,12] (fun n _ i wr=>∃k:Nat,k≤D/\n=.int .i64 (k:Int)/\i=.int .i64 (k:Int)/\Hid (pZ w1 c a m lb pid cp gv t B D Z (wrM Mm s b) nw 1 k wr)) (fun _ _ i _=>D-(intOf i).toNat)
 case atStart=>exact⟨0,by omega,rfl,rfl,HST⟩
 case round =>
  obtain⟨k,hk,rfl,rfl,HE⟩:=hrel
  by_cases hk8:k<D
  ·obtain⟨B1,nw1,hcb,hn1,hb1,hkw⟩:=HE.out
   have HB:=O hcb;have HN1:=O hn1;have HB1:=O hb1;have HKW:=O hkw;have HL:=lN wr;have hk0:(0:Int)≤(k:Int):=by omega
   have hk1:(k:Int)<(D:Int):=by omega
   have HX:Hid (World.cell? wr ⟨g,o+k,none⟩=some (.int .i64 (k:Int))):=O (hkw.cell (HDO.out k hk8) HGB.out);have HWR:=O (HW.out.keep hkw hb1);have HCB1:Hid (¬B1 c):=O (fun e=>(hb1 c e).elim HTP.out.1 fun e=>by have h1:=HT1.out.1;omega);clear hcb hn1 hb1 hkw HE;have HB0:=HB;have c1:wr.cell? ⟨g,o+k,none⟩=some (.int .i64 (k:Int)):=HX.out;go_wp2_with fail;clear c1;refine(oV HB.out.arr HB.out.cor HB.out.liv hk8 HB.out.cpb (HB.out.lab _ hk8)).mono ?_;rintro e w2 ⟨rfl,hk⟩;replace HL:=kL HL hk;replace HB:=O (HB.out.keep0 hk);replace HX:=O (hk.cell HX.out id);replace HWR:=O (HWR.out.keep0 hk);clear hk;go_wp2_with fail;refine((Ey HB.out HWR.out HCB1.out hk8 HS.out.2 HBL.out (by have h1:=HN1.out;have h2:=HNW.out;omega))).mono ?_;rintro e w3 ⟨rfl,B2,ha,hb2,hk⟩;have HNX:Hid (pZ w1 c a m lb pid cp gv t B D Z (wrM Mm s b) nw 1 (k+1) w3):=O (pZ.step (P:=(wrM Mm s b)) HTP.out HT1.out HB0.out HN1.out HB1.out HKW.out HL.out.keep ha (Nat.le_refl _) hb2 hk (fun d=>by show fP _ _ _ _ d 0=_;unfold fP;rw[if_neg fun e=>by have h1:=HS.out.1;omega]));clear hk ha hb2 HWR HB HL;clear HX;go_wp2
   go_roundw
   case rel=>exact⟨k+1,by omega,by go_num,by go_num,HNX⟩
   case measure=>simp[intOf];omega
  ·obtain rfl:k=D:=by omega
   have HP:=O (gG.from (w0:=w) ⟨rfl,HE.out⟩ HK0.out);clear HE;go_wp2
   go_ret2
   exact HP.out
theorem zQ{w:World}{c a m lb:Nat}{pid:List UInt8}{cp:Nat}{gv:Value}{t:Lst}{D Z nw:Nat}{B:Nat->Prop}{Mm:Nat->Nat->List UInt8}(h:gE w c a m lb pid cp gv t B D Z Mm nw)(hT:¬B c/\¬B m/\¬B lb/\∀i,t.Own i->¬B i)(hn:nw≤50000000000)(uv:Value)(u:Ub)(hu:UbV w uv u):Calls Tryz.prog 54 #[.pointer (some ⟨c,0,none⟩),.agg (dP uv u).toArray] w (gG w c a m lb pid cp gv t B D Z (fun _=>Mm) nw 0):=by
 have HB:=O h;have HTP:=O hT;have HNW:=O hn;obtain⟨uc,huc⟩:∃l,dP uv u=l:=⟨_,rfl⟩
 rw[huc];have HL:=lN w;clear h hT hn hu huc;go_in
 go_wp2_with ((with_reducible show WL _ _);refine bxL HL 45 (.tmp 1) (uc.toArray) ?_)
 intro b3 w1 hk HL;replace HB:=O (HB.out.keep0 hk);clear hk;have c1:w1.cell? ⟨c,0,none⟩=some (.pointer (some ⟨a,0,none⟩)):=(aZ.c0 HB.out.cor)
 go_wp2_with fail;clear c1;refine((GI HB.out HTP.out HNW.out)).mono ?_;rintro e w2 hm;have HP:=O (hm.from HL.out.keep);obtain⟨rfl,-⟩:=hm;clear HL HB;go_wp2
 go_ret2
 exact HP.out
theorem wO{w:World}{v:Value}{u:Ub}(h:UbV w v u):∀x∈dP v u,x.oneCell'=true:=by
 intro x hx;unfold dP at hx;rcases List.mem_cons.1 hx with rfl|hx
 ·rfl
 ·rcases List.mem_append.1 hx with hx|hx
  ·exact aU h.root x hx
  ·rcases List.mem_cons.1 hx with rfl|hx
   ·rfl
   ·obtain⟨y,-,rfl⟩:=List.mem_map.1 hx
    rfl
theorem GK{w:World}{c a m lb:Nat}{pid:List UInt8}{cp:Nat}{gv:Value}{t:Lst}{D Z nw:Nat}{B:Nat->Prop}{Mm:Nat->Nat->List UInt8}(h:gE w c a m lb pid cp gv t B D Z Mm nw)(hT:¬B c/\¬B m/\¬B lb/\∀i,t.Own i->¬B i)(hn:nw≤50000000000)(uv:Value)(u:Ub)(hu:UbV w uv u)(hm:u.may=true):Calls Tryz.prog 55 #[.pointer (some ⟨c,0,none⟩),.agg (dP uv u).toArray] w (gG w c a m lb pid cp gv t B D Z (wrM Mm (iK u.txg).toNat (iJ u)) nw 1):=by
 have HB:=O h;have HTP:=O hT;have HNW:=O hn;have HUV:=O hu;have HMY:=O hm;have HBLT:=O (fun i (e:B i)=>h.arr.lt e);have HZ:=O h.arr.bd;have hpl:=Ji hu.pool hu.root.sum hm
 have HTX:Hid (1≤u.txg/\u.txg≤2147483648):=O (by
  unfold Ub.may at hm;simp only[Bool.and_eq_true,decide_eq_true_eq] at hm;exact⟨hm.1.1.1.1,hm.1.1.1.2⟩)
 obtain⟨s,hs,hs1,hs4⟩:∃s:Nat,iK u.txg=(s:Int)/\1≤s/\s≤4:=by
  have h1:=HTX.out;have e:lV u.txg=true:=by unfold lV;rw[decide_eq_true h1.1,decide_eq_true h1.2];rfl
  refine⟨(iK u.txg).toNat,?_,?_,?_⟩<;>(unfold iK;rw[if_pos e];omega)
 have HSL:=O hs;rw[show (iK u.txg).toNat=s from by rw[hs];rfl];obtain⟨bs,hbs⟩:∃l,iJ u=l:=⟨_,rfl⟩
 have HPK:=O hbs;rw[hbs] at hpl ⊢;have HPL:=O hpl;obtain⟨tx,htx⟩:∃x,u.txg=x:=⟨_,rfl⟩
 have HTXE:=O htx;have huc:=kS (v:=uv) hu.root.sum hu.pool;have HOU0:∀x∈dP uv u,x.oneCell'=true:=wO hu;obtain⟨uc,huce⟩:∃l,dP uv u=l:=⟨_,rfl⟩
 have HUC:=O huce;rw[huce] at huc HOU0 ⊢;have HOU:=O HOU0;have HL:=lN w;clear h hT hn hu hm hs hbs HOU0 huce htx;go_in
 go_wp2_with ((with_reducible show WL _ _);refine bxL HL 39 (.tmp 0) (#[.pointer (some ⟨c,0,none⟩)]) ?_)
 intro b2 w1 hk HL;replace HB:=O (HB.out.keep0 hk);replace HUV:=O (HUV.out.keep hk fun _ _=>id);clear hk
 go_wp2_with ((with_reducible show WL _ _);refine bxL HL 45 (.tmp 1) (uc.toArray) ?_)
 intro b3 w2 hk HL;replace HB:=O (HB.out.keep0 hk);replace HUV:=O (HUV.out.keep hk fun _ _=>id);clear hk
 go_wp2_with ((with_reducible show WL _ _);refine wpList_load_mid rfl 45 (.tmp 3) rfl b3 0 rfl uc _ (aD (HL.out.b 0)) lC rfl (by rw[huc];exact nX) ?_)
 have HW0:=O HL.out.keep.size;refine((by rw[←HUC.out];exact Jm w2 uv u HUV.out:Calls _ _ _ w2 (Bw w2 u))).mono ?_;rintro e w3 ⟨v,rfl,ho,hk⟩;rw[HMY.out];rw[HPK.out,hpl] at ho;obtain⟨va,vc,rfl,-,-⟩:=(Rd.of_owns ho).form;have HRV:=O (Rd.of_owns ho);have HOV:Hid (∀i,(Value.slice va 256 vc).ownBlock=some i->w.heap.size≤i/\i<w3.heap.size):=O (fun i hi=>⟨Nat.le_trans HW0.out (aS ho hi),by obtain⟨cur,hc⟩:=aL ho hi;exact lt_of_block hc⟩);clear ho;replace HL:=kL HL hk;replace HB:=O (HB.out.keep0 hk);replace HUV:=O (HUV.out.keep hk fun _ _=>id);clear hk
 go_wp2_with ((with_reducible show WL _ _);refine al 109 (.slice none 0 0) (#[.slice none 0 0]) Nm ?_)
 intro b6 w4 hbs hk0 hb0_
 go_wp2_with ((with_reducible show WL _ _);refine sta 109 (.tmp 6) (.tmp 13) b6 0 ([.slice va 256 vc]) hb0_ (by first|decide|(rw[List.size_toArray,rfl];exact Nat.le_refl _)|simp[]) (by kernel_rfl) (one9) ?_)
 intro w5 hk hb;replace hb:w5.heap[b6]?=some (.cells #[.slice va 256 vc] 109 (0,0)):=hb;replace hk:=tX hk0 hk (fun i hi e=>by omega);have HNb6:=O (show w3.heap.size≤b6 from Nat.le_of_eq hbs);replace HL:=lW HL hbs hk hb;replace HB:=O (HB.out.keep0 hk);replace HUV:=O (HUV.out.keep hk fun _ _=>id);replace HRV:=O (HRV.out.keep hk fun _ _=>id);clear hbs hk hb hk0 hb0_;have c1:w5.cell? ⟨b3,0,none⟩=some (.int .i64 tx):=(aC (i:=0) (HL.out.b 1) (by rw[←HUC.out,←HTXE.out];rfl))
 go_wp2_with fail;clear c1;refine((by rw[←HTXE.out];exact Lj w5 u.txg (by have h1:=HTX.out;omega) (by have h1:=HTX.out;omega):Calls _ _ _ w5 (xV w5 u.txg))).mono ?_;rintro e w6 ⟨rfl,hk⟩;replace HL:=kL HL hk;replace HB:=O (HB.out.keep0 hk);replace HUV:=O (HUV.out.keep hk fun _ _=>id);replace HRV:=O (HRV.out.keep hk fun _ _=>id);clear hk;rw[HSL.out];obtain⟨sb,hsb⟩:∃b,lV u.txg=b:=⟨_,rfl⟩
 rw[hsb];clear hsb
 go_wp2_with ((with_reducible show WL _ _);refine al 3 (.int .i64 0) (#[.int .i64 0]) NX ?_)
 intro b8 w7 hbs hk0 hb0_
 go_wp2_with ((with_reducible show WL _ _);refine sta 3 (.tmp 8) (.tmp 19) b8 0 ([.int .i64 (s:Int)]) hb0_ (by first|decide|(rw[List.size_toArray,rfl];exact Nat.le_refl _)|simp[]) (by kernel_rfl) (one9) ?_)
 intro w8 hk hb;replace hb:w8.heap[b8]?=some (.cells #[.int .i64 (s:Int)] 3 (0,0)):=hb;replace hk:=tX hk0 hk (fun i hi e=>by omega);replace HL:=lW HL hbs hk hb;replace HB:=O (HB.out.keep0 hk);replace HUV:=O (HUV.out.keep hk fun _ _=>id);replace HRV:=O (HRV.out.keep hk fun _ _=>id);clear hbs hk hb hk0 hb0_;have c1:w8.cell? ⟨b2,0,none⟩=some (.pointer (some ⟨c,0,none⟩)):=(aC (i:=0) (HL.out.b 3) rfl)
 go_wp2_with fail;clear c1;have HWC:Hid (WrC w8 B c b2 b8 b6 s (.slice va 256 vc) bs):=O ⟨HL.out.b 3,HL.out.b 0,HL.out.b 1,HRV.out,⟨fun e=>by have h1:=HBLT.out _ e;have h2:=HL.out.lt 3;omega,fun e=>by have h1:=HBLT.out _ e;have h2:=HL.out.lt 0;omega,fun e=>by have h1:=HBLT.out _ e;have h2:=HL.out.lt 1;omega,fun i hi e=>by have h1:=HBLT.out _ e;have h2:=HOV.out i hi;omega⟩,(HL.out.lt 3).2,(HL.out.lt 0).2,(HL.out.lt 1).2,fun i hi=>by have h1:=(HOV.out i hi).2;have h2:=HNb6.out;have h3:=(HL.out.lt 1).2;omega⟩;refine((GJ HB.out HTP.out HWC.out ⟨hs1,by have h1:=HZ.out;omega⟩ HPL.out HNW.out)).mono ?_;rintro e w9 hm;have HP:=O (hm.from HL.out.keep);obtain⟨rfl,-⟩:=hm;clear HL HB HUV HRV HWC;go_wp2
 go_ret2
 exact HP.out
theorem BR{fn:Func}{p:Tmp}{tp:TypeId}(h:fn.results=#[.cell p tp])(tmps:Array Value)(P:Program)(w:World)(a:Addr)(x:Value)(h1:tmps.getD p undef=.pointer (some a))(hx:(loadVar tp a).run P w=.ok x w) :
 (results fn tmps).run P w=.ok x w:=by
 simp only[results,h];simp only[Array.getD_eq_getD_getElem?] at h1;simp[asAddr,h1,hx]
theorem GL(w:World)(v:Value)(D:Nat)(hD:0<D)(hr:Rd w 1 v D (kB D)):Calls Tryz.prog 96 #[v,.bool true] w (aK w (.int .i64 0)):=by
 obtain⟨g,o,dc,rfl,hc⟩:=oW hr (show (kB D)[0]?=some (.bool true) by unfold kB;rw[List.getElem?_replicate];exact if_pos hD);have HC:=O hc;have hd:(0:Int)<(D:Int):=by omega
 clear hr hc;go_in;go_wp2_with fail
 go_loopw [5,8] (fun _ i wr=>i=.int .i64 0/\wr=w) (fun _ _ _=>0)
 case atStart=>exact⟨rfl,rfl⟩
 case round =>
  obtain⟨rfl,rfl⟩:=hrel;have c1:wr.cell? ⟨g,o,none⟩=some (.bool true):=HC.out;go_wp2;go_ret;exact aK.of (aA.refl _ _)
theorem BS(w:World)(v:Value)(D:Nat)(hD:0<D)(hr:Rd w 1 v D (kB D)):Calls Tryz.prog 52 #[v,.bool true] w (aK w (.bool true)):=by
 have HC:=O (GL w v D hD hr);clear hr;go_in;go_wp2_with fail;refine HC.out.mono ?_;rintro e w1 ⟨rfl,hk⟩;have HK:=O hk;clear hk;go_wp2;go_ret;exact aK.of HK.out
def GM(w:World)(v:Value):Prop:=∀i,v.ownBlock=some i->∃cs T,w.heap[i]?=some (.cells cs T (0,0))
theorem GM.keep{T:Nat->Prop}{w w':World}{v:Value}(h:GM w v)(k:aA T w w')(hT:∀i,v.ownBlock=some i->¬T i):GM w' v:=fun i hi=>by
 obtain⟨cs,U,e⟩:=h i hi;exact⟨cs,U,k.blk e (hT i hi)⟩
def GN:List Value:=dP (.slice none 0 0) ⟨0,zPt,0,List.replicate 32 0⟩
theorem DN:GN.length=69:=rfl
theorem Ov:Hid (∀w,(zeroValue 45).run Tryz.prog w=.ok (.agg GN.toArray) w):=O fun w=>by kernel_rfl
theorem Lk(f g:Nat->Value)(x n:Int):Tryz.prog.built 45 [(0,.int .i64 x),(1,.agg ((List.range 35).map f).toArray),(2,.int .i64 n),(3,.agg ((List.range 32).map g).toArray)]=some (Value.int .i64 x::((List.range 35).map f++(.int .i64 n::(List.range 32).map g))).toArray:=by kernel_rfl
theorem Ll(uc:List Value)(h:uc.length=35):uc=(List.range 35).map fun i=>uc.getD i undef:=by
 apply List.ext_getElem?;intro i;rw[List.getElem?_map]
 by_cases hi:i<35
 ·rw[List.getElem?_range hi,List.getElem?_eq_getElem (by omega)]
  simp[List.getD,List.getElem?_eq_getElem (show i<uc.length by omega)]
 ·rw[List.getElem?_eq_none (by omega),List.getElem?_eq_none (by simp;omega)];rfl
theorem Lm(v:Value)(u:Ub)(hs:u.root.sum.length=32)(hp:u.pool.length=32)(w:World):(Instr.build 45 #[(0,.int .i64 u.txg),(1,.agg (aE v u.root).toArray),(2,.int .i64 u.len),(3,.agg (u.pool.map vb).toArray)]).run Tryz.prog w=.ok (.agg (dP v u).toArray) w:=by
 refine run_build w 45 _ _ ?_;unfold dP;rw[Ll (aE v u.root) (aJ hs),Av (u.pool.map vb) (by rw[List.length_map,hp])];exact Lk _ _ _ _
theorem NJ(a m:Nat)(pid:List UInt8)(hp:pid.length=32)(cp:Nat)(lv gv:Value)(t:Lst)(rv:Value)(u:Ub)(h1:(dP t.rv t.u).length=69)(h2:(dP rv u).length=69):spl (eU a m pid cp lv gv t).toArray 39 (dP rv u)=(eU a m pid cp lv gv ⟨rv,u,t.ov,t.ol,t.vv,t.vl⟩).toArray:=by
 have h:=lE (.pointer (some ⟨a,0,none⟩)::.pointer (some ⟨m,0,none⟩)::(pid.map vb++[.int .i64 (cp:Int),lv,gv,t.ov,t.vv])) (dP t.rv t.u) (dP rv u) [.bool false] (by rw[h1,h2]);have hl:(.pointer (some ⟨a,0,none⟩)::.pointer (some ⟨m,0,none⟩)::(pid.map vb++[.int .i64 (cp:Int),lv,gv,t.ov,t.vv])).length=39:=by simp[hp]
 rw[hl] at h;unfold eU gC
 simpa [List.append_assoc] using h
def DO(w:World)(c a m lb:Nat)(pid:List UInt8)(cp:Nat)(gv:Value)(t:Lst)(B:Nat->Prop)(D Z:Nat)(Mm:Nat->Nat->List UInt8)(nw k:Nat)(w':World):Prop:=
 ∃B' nw' M',gE w' c a m lb pid cp gv t B' D Z M' nw'/\nw'≤nw+D*(k / 2)/\(∀d s,5≤s->M' d s=Mm d s)/\(∀i,B' i->B i\/w.heap.size≤i)/\aA B w w'
def wP(w:World)(c a m lb g b2:Nat)(lc:Nat->Option Nat)(pid:List UInt8)(cp:Nat)(t:Lst)(B:Nat->Prop)(D Z:Nat)(Mm:Nat->Nat->List UInt8)(Ls:List Ad)(p:Pt)(n:Int)(e:Ending)(w':World):Prop:=
 e=.returned (.int .i64 0)/\∃B' nw' rv M',(∀d s,5≤s->M' d s=Mm d s)/\gM w' c a m lb g b2 lc pid cp ⟨rv,⟨t.u.txg+1,p,n,pid⟩,t.ov,t.ol,t.vv,t.vl⟩ B' D Z M' nw' Ls/\(∀i,B' i->B i\/w.heap.size≤i)/\eN w rv/\aA (fun k=>B k\/k=c) w w'
theorem Ez{w:World}{c a m lb g b2:Nat}{lc:Nat->Option Nat}{pid:List UInt8}{cp:Nat}{t:Lst}{D Z nw:Nat}{B:Nat->Prop}{Mm:Nat->Nat->List UInt8}{Ls:List Ad}(h:gM w c a m lb g b2 lc pid cp t B D Z Mm nw Ls)(ht:0≤t.u.txg/\t.u.txg+1<2147483648)(pv:Value)(p:Pt)(hp:PtV w pv p)(hpl:p.addrs.length≤65536)(n:Int)(hm:Ub.may ⟨t.u.txg+1,p,n,pid⟩=true):Calls Tryz.prog 21 #[.pointer (some ⟨c,0,none⟩),.agg (aE pv p).toArray,.int .i64 n] w (wP w c a m lb g b2 lc pid cp t B D Z Mm Ls p n):=by
 have hbd:=h.led.bd;have HI:=O h;have HIW:=O h;have HPT:=O hp;have HPL:=O hpl;have HMY:=O hm;have HT:=O ht;have HMN:=O h.many;have HPID:=O h.cor.cor.idl;have HADS:=O hp.ads;have HSUM:=O hp.sum;have HTOP:=O h.top;have HFAR:=O h.far;have HBLT:=O (fun i (e:B i)=>h.lt (.inl e));have HLT:=O (show c<w.heap.size/\m<w.heap.size/\lb<w.heap.size/\(∀i,t.Own i->i<w.heap.size)/\∀i,Own g b2 lc D i->i<w.heap.size from⟨lt_of_block h.cor.cor.top,lt_of_block h.cor.mir,lt_of_block h.cor.liv,fun i hi=>h.cor.cor.lst.lt hi,fun i hi=>h.lt (.inr hi)⟩);have hpc:=aJ (v:=pv) hp.sum;have HOP0:=aU hp;obtain⟨pc,hpce⟩:∃l,aE pv p=l:=⟨_,rfl⟩
 have HOP:Hid (∀u∈pc,u.oneCell'=true):=O (by rw[←hpce];exact HOP0);have HPC:=O hpce;have HPS:Hid (∃r,pc=pv::r):=O ⟨_,hpce.symm⟩;rw[hpce] at hpc ⊢;have HL:=lN w;clear h hp hpl ht hm HOP0 hpce
 go_enter_defers Tryz.func21,Tryz.ntmps21
 go_wp2_with ((with_reducible show WL _ _);refine bxL HL 27 (.tmp 1) (pc.toArray) ?_)
 intro b4 w1 hk HL;replace HI:=O (HI.out.keep0 hk);replace HPT:=O (HPT.out.keep hk fun _ _=>id);clear hk
 go_wp2_with ((with_reducible show WL _ _);refine alL HL 49 (.int .i64 0) (#[.int .i64 0]) jZ ?_)
 intro b6 w2 hk HL;replace HI:=O (HI.out.keep0 hk);replace HPT:=O (HPT.out.keep hk fun _ _=>id);clear hk;go_wp2_with fail;refine(qI HI.out.cor.cor HI.out.cor.arr).mono ?_;rintro e w3 ⟨rfl,hk⟩;replace HL:=kL HL hk;replace HI:=O (HI.out.keep0 hk);replace HPT:=O (HPT.out.keep hk fun _ _=>id);clear hk;have c1:w3.cell? ⟨b4,0,none⟩=some (pv):=(by obtain⟨r,e⟩:=HPS.out;exact aC (i:=0) (HL.out.b 1) (by rw[e];rfl))
 go_wp2_with fail;clear c1;have HSZ:=O HL.out.keep.size;refine((nG w3 pv p.addrs HPT.out.rd HPL.out)).mono ?_;rintro e w4 ⟨v1,rfl,ho,hk⟩;obtain⟨va,vc,rfl,-,-⟩:=(Rd.of_owns ho).form;have HPV:Hid (PtV w4 (.slice va p.addrs.length vc) p):=O ⟨Rd.of_owns ho,HADS.out,HSUM.out⟩
 have HNW:Hid (∀i,(Value.slice va p.addrs.length vc).ownBlock=some i->w.heap.size≤i/\w3.heap.size≤i/\i<w4.heap.size/\∃cs T,w4.heap[i]?=some (.cells cs T (0,0))):=O (fun i hi=>by
  obtain⟨cur,hc⟩:=aL ho hi;exact⟨Nat.le_trans HSZ.out (aS ho hi),aS ho hi,lt_of_block hc,_,_,hc⟩)
 have HB46:=O (And.intro (HL.out.lt 0).2 (HL.out.lt 1).2);have HVC:Hid (GM w4 (.slice va p.addrs.length vc)):=O fun i hi=>(HNW.out i hi).2.2.2
 clear ho;replace HL:=kL HL hk;replace HI:=O (HI.out.keep0 hk);replace HPT:=O (HPT.out.keep hk fun _ _=>id);clear hk;clear HPT
 go_wp2_with ((with_reducible show WL _ _);refine sta 23 (.tmp 22) (.tmp 21) b4 0 [.slice va p.addrs.length vc] (HL.out.b 1) (by rw[List.size_toArray,hpc];simp) (by kernel_rfl) (one9) ?_)
 intro w5 hk hb;rw[←HPC.out,Dl] at hb;have hF:∀i,i=b4->i≠c/\i≠m/\i≠lb/\¬B i/\¬Own g b2 lc D i/\¬t.Own i:=HIW.out.fresh (HL.out.lt 1).1;replace HI:=O (HI.out.keepT hk hF);have hne:∀i,(Value.slice va p.addrs.length vc).ownBlock=some i->i≠b4:=fun i hi e=>by have h1:=(HNW.out i hi).2.1;have h2:=HB46.out;omega
 replace HPV:=O (HPV.out.keep hk hne);replace HVC:=O (HVC.out.keep hk hne);replace HL:=O (HL.out.set 1 hk hb);obtain⟨v1,hv1⟩:∃v,Value.slice va p.addrs.length vc=v:=⟨_,rfl⟩
 rw[hv1] at HPV HNW HVC;have hqc:=aJ (v:=v1) HSUM.out;obtain⟨qc,hqce⟩:∃l,aE v1 p=l:=⟨_,rfl⟩
 have HOQ:Hid (∀u∈qc,u.oneCell'=true):=O (by rw[←hqce];exact aU HPV.out);have HQC:=O hqce;rw[hv1,hqce] at HL;rw[hqce] at hqc;obtain⟨u,hu⟩:∃u:Ub,⟨t.u.txg+1,p,n,pid⟩=u:=⟨_,rfl⟩
 have HUE:=O hu;have HMU:Hid (u.may=true):=O (by rw[←hu];exact HMY.out);have huc:=kS (v:=v1) (u:=u) (by rw[←hu];exact HSUM.out) (by rw[←hu];exact HPID.out);have hbu:=Lm v1 u (by rw[←hu];exact HSUM.out) (by rw[←hu];exact HPID.out);have HUV:=O (UbV.mk (w:=w5) (v:=v1) (u:=u) (by rw[←hu];exact HPV.out) (by rw[←hu];exact HPID.out));have HOU0:=wO HUV.out;obtain⟨uc,huce⟩:∃l,dP v1 u=l:=⟨_,rfl⟩
 have HUC:=O huce;have HOU:Hid (∀y∈uc,y.oneCell'=true):=O (by rw[←huce];exact HOU0);rw[huce] at huc hbu;rw[←hu] at hbu;rw[hqce] at hbu;have HBU:=O hbu;have htx:0≤t.u.txg/\t.u.txg+1<2147483648:=HT.out;clear hk hb hF hne hv1 hqce hu hbu HOU0 huce HPV;go_wp2_with fail;refine dwB aB (by kernel_rfl) ?_;intro w6 S HSE HSI hS hkd;replace HL:=kL HL hkd;replace HI:=O (HI.out.keep0 hkd);replace HUV:=O (HUV.out.keep hkd fun _ _=>id);replace HVC:=O (HVC.out.keep hkd fun _ _=>id);clear hkd;have HLs:=HL;have HIs:=HI;have HUVs:=HUV;have HVCs:=HVC;refine tna 0 (.pointer (some ⟨c,0,none⟩)) rfl hS ?_;refine tnb 1 (.pointer (some ⟨c,0,none⟩)) rfl hS ?_;refine tnb 2 (.pointer (some ⟨c,39,none⟩)) rfl hS ?_;refine tnb 3 (.pointer (some ⟨c,39,none⟩)) rfl hS ?_;refine tnd 4 (.int .i64 t.u.txg) rfl (.inl ⟨by rfl,fun w' hw'=>by have c:World.cell? w' ⟨c,39,none⟩=some (.int .i64 t.u.txg):=(HSE.out w' hw').cell (aZ.txg_ HIs.out.cor.cor) id;go_simp⟩) hS ?_;refine tnd 5 (.int .i64 (t.u.txg+1)) rfl (.inl ⟨by rfl,fun _ _=>by go_simp;exact IntWalk.i64_in _ (by omega)⟩) hS ?_;refine tnd 6 (.agg qc.toArray) rfl (yieldsIf_load_mid (by rfl) 27 (.tmp 4) rfl b4 0 rfl qc _ (fun w' h=>aD ((HSE.out w' h).blk (HLs.out.b 1) id)) aF rfl (szP9 hqc)) hS ?_;refine tna 7 (.int .i64 n) rfl hS ?_;refine tna 8 (.pointer (some ⟨c,0,none⟩)) rfl hS ?_;refine tnb 9 (.pointer (some ⟨c,0,none⟩)) rfl hS ?_;refine tnb 10 (.pointer (some ⟨c,2,none⟩)) rfl hS ?_;refine tnd 11 (.agg (pid.map vb).toArray) rfl (yieldsIf_load_mid (by rfl) 25 (.tmp 33) rfl c 2 rfl (pid.map vb) _ (fun w' h=>(HSE.out w' h).rangeAt (aZ.id_ HIs.out.cor.cor)) Tryz.underlying25 rfl (by rw[List.length_map,HPID.out];exact uH)) hS ?_;refine tnd 12 (.agg uc.toArray) rfl (fA 45 #[(0,.tmp 28),(1,.tmp 29),(2,.tmp 30),(3,.tmp 34)] [(0,.int .i64 (t.u.txg+1)),(1,.agg qc.toArray),(2,.int .i64 n),(3,.agg (pid.map vb).toArray)] (.agg uc.toArray) HBU.out) hS ?_;refine wA9 13 ?_;refine al 45 (.agg GN.toArray) (GN.toArray) Ov ?_;intro b8 w7 hbs hk hb;have HNb8:=O (show w6.heap.size≤b8 from by have:=(HSE.out _ hS).size;omega);have hS1:=HSI.out _ ((HSE.out _ hS).trans hk);clear hS;replace HL:=lW HL hbs hk hb;replace HI:=O (HI.out.keep0 hk);replace HUV:=O (HUV.out.keep hk fun _ _=>id);replace HVC:=O (HVC.out.keep hk fun _ _=>id);clear hbs hk hb;refine wpList_nil ?_;refine⟨hS1,?_⟩;refine wA9 14 ?_;refine sta 45 (.tmp 8) (.tmp 35) b8 0 uc (HL.out.b 0) (by first|decide|(rw[huc];exact Nat.le_refl _)|simp[huc,DN]) (by rw[huc];exact nX) HOU.out ?_;intro w8 hk hb;rw[aI _ _ (by first|rfl|simp[huc,DN])] at hb;have hS2:=HSI.out _ ((HSE.out _ hS1).trans' hk (fun _ _ h=>h) (fun i hi e=>by have:=HNb8.out;omega));clear hS1;replace HL:=O (HL.out.set 0 hk hb);replace HI:=O (HI.out.keepT hk (HIW.out.fresh (by have h1:=HNb8.out;have h2:=HLs.out.keep.size;omega)));replace HUV:=O (HUV.out.keep hk fun i hi e=>by obtain⟨cs_,T_,h_⟩:=HVCs.out i hi;have h1:=lt_of_block h_;have h2:=HNb8.out;omega);replace HVC:=O (HVC.out.keep hk fun i hi e=>by obtain⟨cs_,T_,h_⟩:=HVCs.out i hi;have h1:=lt_of_block h_;have h2:=HNb8.out;omega);clear hk hb;refine wpList_nil ?_;refine⟨hS2,?_⟩;refine wpAnyH_done (by kernel_rfl) ?_ _;clear hS2 HSE HSI HLs HIs HUVs HVCs;refine noP ?_
 go_wp2_with ((with_reducible show WL _ _);refine wpList_load_mid rfl 45 (.tmp 8) rfl b8 0 rfl uc _ (aD (HL.out.b 0)) lC rfl (by rw[huc];exact nX) ?_)
 refine((by rw[←HUC.out];exact sH w8 v1 u HUV.out:Calls _ _ _ w8 (lL w8 u.may))).mono ?_;rintro e w9 ⟨rfl,hk⟩;replace HL:=kL HL hk;replace HI:=O (HI.out.keep0 hk);replace HUV:=O (HUV.out.keep hk fun _ _=>id);replace HVC:=O (HVC.out.keep hk fun _ _=>id);clear hk;rw[HMU.out];go_wp2_with fail;refine(As HI.out.cor).mono ?_;rintro e wa ⟨v2,rfl,ho,hk⟩;obtain⟨xa,xc,rfl,-,-⟩:=(Rd.of_owns ho).form;have HO:=O (Rd.of_owns ho);clear ho;replace HL:=kL HL hk;replace HI:=O (HI.out.keep0 hk);replace HUV:=O (HUV.out.keep hk fun _ _=>id);replace HVC:=O (HVC.out.keep hk fun _ _=>id);clear hk;go_wp2_with fail;refine((BS wa (.slice xa D xc) D (by omega) HO.out)).mono ?_;rintro e wb ⟨rfl,hk⟩;replace HL:=kL HL hk;replace HI:=O (HI.out.keep0 hk);replace HUV:=O (HUV.out.keep hk fun _ _=>id);replace HVC:=O (HVC.out.keep hk fun _ _=>id);replace HO:=O (HO.out.keep hk fun _ _=>id);clear hk;clear HO;obtain⟨wc,hw_wc,hk,hb,-⟩:=aT wb #[.func (.func 54) #[] #[],.func (.func 55) #[] #[],.func (.func 54) #[] #[]] 118;obtain⟨b45,hbs⟩:∃b,wb.heap.size=b:=⟨_,rfl⟩
 rw[hbs] at hb;replace HL:=lW HL hbs hk hb;have HBSb45:=O hbs;replace HI:=O (HI.out.keep0 hk);replace HUV:=O (HUV.out.keep hk fun _ _=>id);replace HVC:=O (HVC.out.keep hk fun _ _=>id);clear hk hb hbs;go_wp2_with fail;clear hw_wc;rw[HBSb45.out];have HKW:=O HL.out.keep;have HB6:=O (HL.out.b 2);have HB8:=O (HL.out.b 1);have HB45:=O (HL.out.b 0);have HB6L:=O (HL.out.lt 2).2;have HCM:Hid (m≠c/\lb≠c):=O ⟨fun e=>by (have h1:=HI.out.cor.mir;rw[eL,e,HI.out.cor.cor.top] at h1;cases h1),fun e=>by (have h1:=HI.out.cor.liv;rw[e,HI.out.cor.cor.top] at h1;have h2:=Option.some.inj h1;injection h2 with h3 h4;exact absurd h4 (by decide))⟩;have HG:=O (And.intro (HL.out.lt 2).1 (And.intro (HL.out.lt 1).1 (HL.out.lt 0).1));have HIL:=HI;have HUVL:=HUV;have HVN:Hid (∀i,v1.ownBlock=some i->¬B i/\i≠b6/\w.heap.size≤i/\i<wc.heap.size):=O (fun i hi=>⟨fun e=>by have h1:=HBLT.out i e;have h2:=(HNW.out i hi).1;omega,fun e=>by have h1:=(HNW.out i hi).2.1;have h2:=HB46.out;omega,(HNW.out i hi).1,by (obtain⟨cs,T,h⟩:=HVC.out i hi;exact lt_of_block h)⟩);have HNW0:Hid (nw≤40000000000/\D*2≤16):=O (by have h1:=HMN.out;have h2:=HT.out;omega);have HST:Hid (DO wc c a m lb pid cp (.pointer (some ⟨g,0,none⟩)) t B D Z Mm nw 0 wc):=O ⟨B,nw,Mm,HI.out.cor,by omega,fun _ _ _=>rfl,fun i h=>.inl h,aA.refl _ _⟩;have HLT2:Hid (wc.heap.size ≥ w.heap.size):=O HKW.out.size;clear HL HI HUV
 go_loopw [9,10,11,12,47] (fun _ _ _ _ i wr=>∃k:Nat,k≤3/\i=.int .i64 (k:Int)/\Hid (DO wc c a m lb pid cp (.pointer (some ⟨g,0,none⟩)) t B D Z Mm nw k wr)) (fun _ _ _ _ i _=>3-(intOf i).toNat)
 case atStart=>exact⟨0,by omega,rfl,HST⟩
 case round =>
  obtain⟨k,hk,rfl,HC⟩:=hrel;obtain⟨B1,nw1,M1,hcb,hn1,hM1,hb1,hkw⟩:=HC.out;have hD:2≤D/\D≤8:=⟨hbd.1,hbd.2.1⟩
  have HN1:Hid (nw1≤50000000000):=O (by
   have h1:=HNW0.out;have h2:D*(k / 2)≤8*2:=Nat.mul_le_mul hD.2 (by omega);omega)
  have HN2:=O hn1;have HCB:=O hcb;have HM1:=O hM1;have HB1:=O hb1;have HK1:=O hkw;have HUV:=O (HUVL.out.keep hkw fun i hi=>(HVN.out i hi).1);have hnb:∀i,w.heap.size≤i->i<wc.heap.size->¬B i:=fun i hi _ e=>by have h1:=HBLT.out i e;omega
  have hR8:wr.heap[b8]?=some (.cells uc.toArray 45 (0,0)):=hkw.blk HB8.out fun e=>by have h1:=HBLT.out _ e;have h2:=HG.out;omega
  have hR45:wr.heap[b45]?=some (.cells #[.func (.func 54) #[] #[],.func (.func 55) #[] #[],.func (.func 54) #[] #[]] 118 (0,0)):=hkw.blk HB45.out fun e=>by have h1:=HBLT.out _ e;have h2:=HG.out;omega
  have hR6:wr.heap[b6]?=some (.cells #[.int .i64 0] 49 (0,0)):=hkw.blk HB6.out fun e=>by have h1:=HBLT.out _ e;have h2:=HG.out;omega
  have HR8:=O hR8;have HR45:=O hR45;have HR6:=O hR6;have HTP:Hid (¬B1 c/\¬B1 m/\¬B1 lb/\∀i,t.Own i->¬B1 i):=O ⟨fun e=>(hb1 c e).elim HTOP.out.1 fun e=>by have h1:=HLT.out.1;have h2:=HLT2.out;omega,fun e=>(hb1 m e).elim HTOP.out.2.1 fun e=>by have h1:=HLT.out.2.1;have h2:=HLT2.out;omega,fun e=>(hb1 lb e).elim HTOP.out.2.2.1 fun e=>by have h1:=HLT.out.2.2.1;have h2:=HLT2.out;omega,fun i hi e=>(hb1 i e).elim (HTOP.out.2.2.2 i hi).1 fun e=>by have h1:=HLT.out.2.2.2.1 i hi;have h2:=HLT2.out;omega⟩;have hD0:¬(D:Int)=0:=by omega
  have dD0:((D:Int) == 0)=false:=by rw[beq_eq_false_iff_ne];exact hD0
  have dD1:decide ((D:Int)=0)=false:=decide_eq_false hD0;clear hcb hn1 hM1 hb1 hkw hR8 hR45 hR6 HC;have hk4:k=0\/k=1\/k=2\/k=3:=by omega
  rcases hk4 with rfl|rfl|rfl|rfl
  ·have HL:=lN wr
   have c1:wr.cell? ⟨b45,0,none⟩=some (.func (.func 54) #[] #[]):=(aC (i:=0) HR45.out rfl)
   go_wp2_with ((with_reducible show WL _ _);refine wpList_load_mid rfl 45 (.tmp 8) rfl b8 0 rfl uc _ (aD HR8.out) lC rfl (by rw[huc];exact nX) ?_)
   clear c1;have HLK:=O HL.out.keep;refine((by rw[←HUC.out];exact zQ HCB.out HTP.out HN1.out v1 u HUV.out:Calls _ _ _ wr (gG wr c a m lb pid cp (.pointer (some ⟨g,0,none⟩)) t B1 D Z (fun _=>M1) nw1 0))).mono ?_;rintro e wd ⟨rfl,B2,nw2,hc2,hn2,hb2,hk2⟩;have HNX:Hid (DO wc c a m lb pid cp (.pointer (some ⟨g,0,none⟩)) t B D Z Mm nw 1 wd):=O ⟨B2,nw2,_,hc2,(by have h1:nw1≤nw+D*0:=HN2.out;have h2:nw2≤nw1+0*D:=hn2;show nw2≤nw+D*0;omega),fun d s hs=>HM1.out d s hs,fun i hi=>(hb2 i hi).elim (HB1.out i) (fun e=>.inr (by have h1:=HK1.out.size;have h2:=HLK.out.size;omega)),HK1.out.trans' (HLK.out.trans' hk2 (fun _ _ h=>h.elim) (fun _ _ h=>h)) (fun _ _ h=>h) (fun i hi e=>(HB1.out i e).elim id (fun e=>by omega))⟩;clear HL HCB HUV hc2 hn2 hb2 hk2;go_wp2
   go_roundw
   case rel=>exact⟨1,by omega,by go_num,HNX⟩
   case measure=>simp[intOf]
  ·have HL:=lN wr
   have HSLT:Hid ((iK u.txg).toNat≤4):=O (by unfold iK;split<;>omega);have c1:wr.cell? ⟨b45,1,none⟩=some (.func (.func 55) #[] #[]):=(aC (i:=1) HR45.out rfl)
   go_wp2_with ((with_reducible show WL _ _);refine wpList_load_mid rfl 45 (.tmp 8) rfl b8 0 rfl uc _ (aD HR8.out) lC rfl (by rw[huc];exact nX) ?_)
   clear c1;have HLK:=O HL.out.keep;refine((by rw[←HUC.out];exact GK HCB.out HTP.out HN1.out v1 u HUV.out HMU.out:Calls _ _ _ wr (gG wr c a m lb pid cp (.pointer (some ⟨g,0,none⟩)) t B1 D Z (wrM M1 (iK u.txg).toNat (iJ u)) nw1 1))).mono ?_;rintro e wd ⟨rfl,B2,nw2,hc2,hn2,hb2,hk2⟩;have HNX:Hid (DO wc c a m lb pid cp (.pointer (some ⟨g,0,none⟩)) t B D Z Mm nw 2 wd):=O ⟨B2,nw2,_,hc2,(by have h1:nw1≤nw+D*0:=HN2.out;have h2:nw2≤nw1+1*D:=hn2;show nw2≤nw+D*1;omega),fun d s hs=>by rw[show _=M1 d s from Bx M1 _ _ D d s (fun e=>by have h1:=HSLT.out;omega)];exact HM1.out d s hs,fun i hi=>(hb2 i hi).elim (HB1.out i) (fun e=>.inr (by have h1:=HK1.out.size;have h2:=HLK.out.size;omega)),HK1.out.trans' (HLK.out.trans' hk2 (fun _ _ h=>h.elim) (fun _ _ h=>h)) (fun _ _ h=>h) (fun i hi e=>(HB1.out i e).elim id (fun e=>by omega))⟩;clear HL HCB HUV hc2 hn2 hb2 hk2;go_wp2
   go_roundw
   case rel=>exact⟨2,by omega,by go_num,HNX⟩
   case measure=>simp[intOf]
  ·have HL:=lN wr
   have c1:wr.cell? ⟨b45,2,none⟩=some (.func (.func 54) #[] #[]):=(aC (i:=2) HR45.out rfl)
   go_wp2_with ((with_reducible show WL _ _);refine wpList_load_mid rfl 45 (.tmp 8) rfl b8 0 rfl uc _ (aD HR8.out) lC rfl (by rw[huc];exact nX) ?_)
   clear c1;have HLK:=O HL.out.keep;refine((by rw[←HUC.out];exact zQ HCB.out HTP.out HN1.out v1 u HUV.out:Calls _ _ _ wr (gG wr c a m lb pid cp (.pointer (some ⟨g,0,none⟩)) t B1 D Z (fun _=>M1) nw1 0))).mono ?_;rintro e wd ⟨rfl,B2,nw2,hc2,hn2,hb2,hk2⟩;have HNX:Hid (DO wc c a m lb pid cp (.pointer (some ⟨g,0,none⟩)) t B D Z Mm nw 3 wd):=O ⟨B2,nw2,_,hc2,(by have h1:nw1≤nw+D*1:=HN2.out;have h2:nw2≤nw1+0*D:=hn2;show nw2≤nw+D*1;omega),fun d s hs=>HM1.out d s hs,fun i hi=>(hb2 i hi).elim (HB1.out i) (fun e=>.inr (by have h1:=HK1.out.size;have h2:=HLK.out.size;omega)),HK1.out.trans' (HLK.out.trans' hk2 (fun _ _ h=>h.elim) (fun _ _ h=>h)) (fun _ _ h=>h) (fun i hi e=>(HB1.out i e).elim id (fun e=>by omega))⟩;clear HL HCB HUV hc2 hn2 hb2 hk2;go_wp2
   go_roundw
   case rel=>exact⟨3,by omega,by go_num,HNX⟩
   case measure=>simp[intOf]
  ·have HL:=lN wr
   go_wp2_with ((with_reducible show WL _ _);first
    | refine wpList_load_mid rfl 45 (.tmp 8) rfl b8 0 rfl uc _ (aD HR8.out) lC rfl (by rw[huc];exact nX) ?_
    | refine sta 45 (.tmp 77) (.tmp 75) c 39 uc HCB.out.cor.top (by rw[List.size_toArray,sP HPID.out (Di HCB.out.cor.lst),huc];decide) (by rw[huc];exact nX) HOU.out ?_)
   intro w9 hk hb;have HLED:Hid (dM wr 0 g b2 lc D Z Ls):=O (HIL.out.led.keep HK1.out fun i e h=>(HFAR.out i h).1 e);rw[←HUC.out,NJ a m pid HPID.out cp _ _ t v1 u (kS HCB.out.cor.lst.ub.root.sum HCB.out.cor.lst.ub.pool) (by rw[HUC.out,huc])] at hb;have hvi:∀i,v1.ownBlock=some i->i≠c:=fun i hi e=>by have h1:=(HVN.out i hi).2.2.1;have h2:=HLT.out.1;omega
   have HVB:Hid (∀i,v1.ownBlock=some i->¬B1 i):=O (fun i hi e=>(HB1.out i e).elim (HVN.out i hi).1 fun e=>by have h1:=(HVN.out i hi).2.2.2;omega);have hown:∀i,(⟨v1,u,t.ov,t.ol,t.vv,t.vl⟩:Lst).Own i->v1.ownBlock=some i\/t.Own i:=fun i h=>h.imp id fun h=>.inr h
   have hisc:∀i,v1.ownBlock=some i->∃cs T,wr.heap[i]?=some (.cells cs T (0,0)):=fun i hi=>by
    obtain⟨cs,T,h⟩:=HVC.out i hi;exact⟨cs,T,HK1.out.blk h (HVN.out i hi).1⟩
   have HLV:Hid (lQ w9 ⟨v1,u,t.ov,t.ol,t.vv,t.vl⟩):=O ⟨HUV.out.keep hk hvi,HCB.out.cor.lst.old.keep hk fun i hi e=>(HTOP.out.2.2.2 i (.inr (.inl hi))).2.1 e,HCB.out.cor.lst.live.keep hk fun i hi e=>(HTOP.out.2.2.2 i (.inr (.inr hi))).2.1 e,HCB.out.cor.lst.oads,HCB.out.cor.lst.lads,fun i hi=>by
    rcases hown i hi with h|h
    ·obtain⟨cs,T,h2⟩:=hisc i h
     exact⟨cs,T,hk.blk h2 (hvi i h)⟩
    ·obtain⟨cs,T,h2⟩:=HCB.out.cor.lst.isc i h
     exact⟨cs,T,hk.blk h2 (HTOP.out.2.2.2 i h).2.1⟩,by rw[←HUE.out];exact HPL.out,HCB.out.cor.lst.few.2⟩
   have HOW:Hid (∀i,(⟨v1,u,t.ov,t.ol,t.vv,t.vl⟩:Lst).Own i->¬B1 i/\i≠c/\i≠m/\i≠lb):=O (fun i hi=>by
    rcases hown i hi with h|h
    ·have h1:=(HVN.out i h).2.2.1;have h2:=HLT.out
     exact⟨HVB.out i h,by omega,by omega,by omega⟩
    ·exact⟨HTP.out.2.2.2 i h,(HTOP.out.2.2.2 i h).2⟩)
   have HCO:Hid (gM w9 c a m lb g b2 lc pid cp ⟨v1,u,t.ov,t.ol,t.vv,t.vl⟩ B1 D Z M1 nw1 Ls):=O ⟨⟨⟨hb,HPID.out,HLV.out⟩,HCB.out.arr.keep hk fun i e h=>HTP.out.1 (e▸h),hk.blk HCB.out.mir HCM.out.1,hk.blk HCB.out.liv HCM.out.2,HCB.out.cpb,HCB.out.lab⟩,HLED.out.keep hk fun i e h=>(HFAR.out i h).2.1 e,fun i h=>⟨fun e=>(HB1.out i e).elim (HFAR.out i h).1 fun e=>by have h1:=HLT.out.2.2.2.2 i h;have h2:=HLT2.out;omega,(HFAR.out i h).2.1,(HFAR.out i h).2.2.1,(HFAR.out i h).2.2.2.1,fun e=>(hown i e).elim (fun e=>by have h1:=(HVN.out i e).2.2.1;have h2:=HLT.out.2.2.2.2 i h;omega) (HFAR.out i h).2.2.2.2⟩,⟨HTP.out.1,HTP.out.2.1,HTP.out.2.2.1,HOW.out⟩,by
    have h1:nw1≤nw+D*1:=HN2.out;have h2:=HMN.out;have h3:=HT.out;have h4:=hD;have h5:u.txg=t.u.txg+1:=by rw[←HUE.out]
    show nw1+_≤40000+8*u.txg.toNat;omega⟩
   have HKC:Hid (aA (fun k=>B k\/k=c) w w9):=O (HKW.out.trans' (HK1.out.trans' hk (U:=fun k=>B k\/k=c) (fun _ _ h=>.inl h) fun _ _ h=>.inr h) (fun _ _ h=>h.elim) fun _ _ h=>h);have HR69:Hid (w9.heap[b6]?=some (.cells #[.int .i64 0] 49 (0,0))):=O (hk.blk HR6.out fun e=>by have h1:=HG.out;have h2:=HLT.out;omega);clear hk hb hvi hown hisc HCB HUV HLED HLV HL HR8 HR45 HR6
   go_wp2_with ((with_reducible show WL _ (.store 49 _ _));refine sta 49 (.tmp 6) (.const (.int .i64 0)) b6 0 [.int .i64 0] HR69.out (by simp) (by kernel_rfl) (one9) ?_)
   intro wa hk hb;replace hb:wa.heap[b6]?=some (.cells #[.int .i64 0] 49 (0,0)):=hb;have HBK:=O hb
   have HP:Hid (wP w c a m lb g b2 lc pid cp t B D Z Mm Ls p n (.returned (.int .i64 0)) wa):=O (by
    have hg6:=HG.out.1;have hl:=HLT.out;have hl2:=HLT2.out;refine⟨rfl,B1,nw1,v1,M1,HM1.out,?_,fun i hi=>(HB1.out i hi).imp id fun h=>by omega,fun i hi=>(HVN.out i hi).2.2.1,HKC.out.trans' hk (fun _ _ h=>h) fun i hi e=>by omega⟩;rw[HUE.out];refine HCO.out.keepT hk ?_;rintro i rfl;have h6:=HB6L.out;refine⟨by omega,by omega,by omega,fun e=>(HB1.out _ e).elim (fun e=>by have h1:=HBLT.out _ e;omega) (fun e=>by omega),fun e=>by have h1:=hl.2.2.2.2 _ e;omega,fun e=>?_⟩;rcases e with e|e
    ·exact(HVN.out _ e).2.1 rfl
    ·have h1:=hl.2.2.2.1 _ (.inr e)
     omega)
   clear hk hb HR69 HCO HKC;go_wp2_with fail;refine leaves_cons (f:=48) (args:=#[.pointer (some ⟨c,0,none⟩),.pointer (some ⟨b6,0,none⟩)]) (by simp) (by simp[go_sem]) ?_;refine(nH wa c b6 0 _ HBK.out (by decide)).mono ?_;rintro e u' w'' ⟨rfl,rfl,hk⟩;have c7:w''.cell? ⟨b6,0,none⟩=some (.int .i64 0):=aC (i:=0) (hk.blk HBK.out id) rfl;refine⟨_,BR rfl _ _ _ ⟨b6,0,none⟩ (.int .i64 0) rfl (by go_simp),?_⟩;obtain⟨-,B3,nw3,rv,M3,g1,g2,g3,g4,g5⟩:=HP.out;exact⟨rfl,B3,nw3,rv,M3,g1,g2.keep0 hk,g3,g4,g5.trans hk.any⟩
def DP(w:World)(c:Nat)(S:Kor)(B:Nat->Prop)(e:Ending)(w':World):Prop:=
 e=.returned (.int .i64 0)/\∃M' B',(∀d s,5≤s->M' d s=S.M d s)/\KI w' c ⟨S.D,S.Z,S.cp,S.L,M',S.txg+1⟩ B'/\(∀k,B' k->B k\/w.heap.size≤k)/\Cl w w' B B'/\aA B w w'
theorem KI.commit{w:World}{c:Nat}{S:Kor}{B:Nat->Prop}(hK:KI w c S B)(ht:S.txg+1<2147483648)(pv:Value)(p:Pt)(hp:PtV w pv p)(hpl:p.addrs.length≤65536)(n:Int)(hn:0≤n/\n≤16384)(hr:p.hole=true\/(p.may=true/\p.level=3/\p.birth≤S.txg+1)):Calls Tryz.prog 21 #[.pointer (some ⟨c,0,none⟩),.agg (aE pv p).toArray,.int .i64 n] w (DP w c S B):=by
 obtain⟨hb,a,m,lb,g,b2,lc,pid,BA,nw,t,htx,h1,rfl⟩:=hK
 have hm:Ub.may ⟨t.u.txg+1,p,n,pid⟩=true:=by
  have h0:=hb.t0;unfold Ub.may;rw[htx];simp only[Bool.and_eq_true,Bool.or_eq_true,decide_eq_true_eq,beq_iff_eq];refine⟨⟨⟨⟨by omega,by omega⟩,hn.1⟩,hn.2⟩,hr.imp id fun h=>⟨⟨h.1,h.2.1⟩,h.2.2⟩⟩
 refine(Ez h1 (by rw[htx];exact⟨hb.t0,ht⟩) pv p hp hpl n hm).mono ?_;rintro e w' ⟨rfl,B',nw',rv,M',g1,g2,g3,g4,g5⟩;have hvi:∀i,rv.ownBlock=some i->w.heap.size≤i:=g4;refine⟨rfl,M',fun k=>k=c\/k=m\/k=lb\/B' k\/Own g b2 lc S.D k\/(⟨rv,⟨t.u.txg+1,p,n,pid⟩,t.ov,t.ol,t.vv,t.vl⟩:Lst).Own k,g1,⟨⟨hb.d2,hb.d8,hb.z8,hb.z4,hb.c1,hb.c3,hb.cD,by show 0≤S.txg+1;have:=hb.t0;omega,ht⟩,a,m,lb,g,b2,lc,pid,B',nw',_,by show t.u.txg+1=S.txg+1;rw[htx],g2,rfl⟩,?_,?_,g5.mono fun k _ e=>?_⟩
 ·rintro k (e|e|e|e|e|e)
  ·exact .inl (.inl e)
  ·exact .inl (.inr (.inl e))
  ·exact .inl (.inr (.inr (.inl e)))
  ·exact(g3 k e).imp (fun h=>.inr (.inr (.inr (.inl h)))) id
  ·exact .inl (.inr (.inr (.inr (.inr (.inl e)))))
  ·rcases e with e|e
   ·exact .inr (hvi k e)
   ·exact .inl (.inr (.inr (.inr (.inr (.inr (.inr e))))))
 ·rintro k (rfl|rfl|rfl|e|e|e)
  ·exact .inl ⟨_,_,g2.cor.cor.top⟩
  ·exact .inl ⟨_,_,g2.cor.mir⟩
  ·exact .inl ⟨_,_,g2.cor.liv⟩
  ·exact .inl (g2.cor.arr.isC e)
  ·exact(h1.led.isC g2.led e).imp id fun h=>⟨.inr (.inr (.inr (.inr (.inl e)))),h⟩
  ·exact .inl (g2.cor.cor.lst.isc k e)
 ·rcases e with e|rfl
  ·exact .inr (.inr (.inr (.inl e)))
  ·exact .inl rfl
section
variable {B0:Nat->Prop}{w0 w w':World}{c:Nat}{S T:Kor}{B B':Nat->Prop}{rs:List (Value×Pt)}{l:List (Nat×Array Value×TypeId)}
theorem Cs.turned(h:Cs B0 w0 c S B rs w l)(hk:KI w' c T B')(hb:∀k,B' k->B k\/w.heap.size≤k)(k:aA B w w'):Cs B0 w0 c T B' rs w' l:=by
 refine⟨h.loc.turn2 k (fun _ e=>.inl e) (fun i hi e=>(h.bb i e).elim id fun e=>by omega) ?_,hk,fun r hr=>(h.pv r hr).keep k hb,fun i e=>(hb i e).elim (h.bb i) fun e=>.inr (Nat.le_trans h.keep.size e)⟩;rintro i hi (e|⟨r,hr,e⟩)
 ·exact(hb i e).elim .inl fun e=>by omega
 ·exact .inr ⟨r,hr,e⟩
theorem Cs.begin(h:Loc aB aB w0 w l)(hk:KI w' c S B)(hB:∀k,B k->w.heap.size≤k)(k:aA aB w w'):Cs aB w0 c S B [] w' l:=by
 refine⟨⟨h.keep.trans k,h.ge,h.nd,fun x hx=>k.blk (h.at_ x hx) id,fun x hx e=>?_⟩,hk,(fun r hr=>by cases hr),fun i e=>.inr (Nat.le_trans h.keep.size (hB i e))⟩;rcases e with e|⟨r,hr,-⟩
 ·have h1:=hB _ e;have h2:=lt_of_block (h.at_ x hx);omega
 ·cases hr
end
theorem Kor.com_ext{S:Kor}{M':Nat->Nat->List UInt8}(h:∀d s,5≤s->M' d s=S.M d s):Ext S ⟨S.D,S.Z,S.cp,S.L,M',S.txg+1⟩:=
 ⟨rfl,rfl,rfl,by show S.txg≤S.txg+1;omega,fun _ h=>h,fun a _ hp=>by
  obtain⟨-,-,h1,-⟩:=hp;exact h _ _ (by omega)⟩
theorem Kor.com_room{S:Kor}{M':Nat->Nat->List UInt8}{N:Nat}(h:S.room N)(x:Int):Kor.room ⟨S.D,S.Z,S.cp,S.L,M',x⟩ N:=h
theorem Tr.Ok.comm{S:Kor}{t:Tr}(h:Tr.Ok S 3 t):t.ptr.hole=true\/(t.ptr.may=true/\t.ptr.level=3/\t.ptr.birth≤S.txg+1):=by
 cases hh:t.isHole with
 | true=>left;rw[h.hole_eq];exact hh
 | false=>right;have:=h.top hh;exact⟨h.may3,this.1,this.2.2⟩
theorem DQ{P:Program}{fn:Func}{p q u v:Tmp}{ty uy:TypeId}(h:fn.results=#[.tmp u,.cell p ty,.cell q uy,.tmp v])(tmps:Array Value)(w:World)(g g2:Nat)(t t2:TypeId)(cs cs2:Array Value)(fr fr2:Nat×Nat)(d d2:TypeDesc)
 (hp:tmps.getD p undef=.pointer (some ⟨g,0,none⟩)) (hq:tmps.getD q undef=.pointer (some ⟨g2,0,none⟩)) (hg:w.heap[g]?=some (.cells cs t fr)) (hg2:w.heap[g2]?=some (.cells cs2 t2 fr2)) (hu:P.underlying ty=some d) (hd:(match d with|.struct _|.array _ _=>true|_=>false)=true) (hi:(P.info? ty).map (·.size)=some cs.size)
 (hu2:P.underlying uy=some d2) (hd2:(match d2 with|.struct _|.array _ _=>true|_=>false)=true) (hi2:(P.info? uy).map (·.size)=some cs2.size):(results fn tmps).run P w=.ok (.tuple #[tmps.getD u undef,.agg cs,.agg cs2,tmps.getD v undef]) w:=by
 simp only[Array.getD_eq_getD_getElem?] at hp hq ⊢;simp[results,h,hp,hq,asAddr,Sem.run_bind,Result.andThen,run_loadVar_row w g t ty cs fr d hg hu hd hi,run_loadVar_row w g2 t2 uy cs2 fr2 d2 hg2 hu2 hd2 hi2]
def E9(w:World)(e:Ending)(w':World):Prop:=∃c v1 v2 u1 u2 S B,e=.returned (.tuple #[.pointer (some ⟨c,0,none⟩),.agg (aE v1 u1.ptr).toArray,.agg (aE v2 u2.ptr).toArray,.bool true])/\KI w' c S B/\Tr.Ok S 3 u1/\Tr.Ok S 3 u2/\(eH 3 u1).Nodup/\bA w' B v1 u1.ptr/\bA w' B v2 u2.ptr/\Lg u1 u2/\(∀k,B k->w.heap.size≤k)/\aA aB w w'
theorem Jn(w:World):Calls Tryz.prog 28 #[] w (E9 w):=by
 have hzp:(aE (.slice none 0 0) zPt).length=35:=rfl;have hzb:=pW;obtain⟨zp,hzpe⟩:∃l,aE (.slice none 0 0) zPt=l:=⟨_,rfl⟩
 have HOZP:Hid (∀u∈zp,u.oneCell'=true):=O (by rw[←hzpe];exact cS zPt);have HZPE:=O hzpe;rw[hzpe] at hzp hzb;have HZB:=O hzb;clear hzpe hzb;have HL:=lN w;go_in
 go_wp2_with ((with_reducible show WL _ _);refine alL HL 27 (.agg aH.toArray) (aH.toArray) bG ?_)
 intro b1 w1 hk HL;clear hk
 go_wp2_with ((with_reducible show WL _ _);refine alL HL 27 (.agg aH.toArray) (aH.toArray) bG ?_)
 intro b2 w2 hk HL;clear hk
 go_wp2_with ((with_reducible show WL _ _);first
  | refine bld 27 #[] [] (.agg zp.toArray) HZB.out ?_
  | refine al 27 (.agg aH.toArray) (aH.toArray) bG ?_)
 intro b4 w3 hbs hk0 hb0_
 go_wp2_with ((with_reducible show WL _ _);first
  | refine bld 27 #[] [] (.agg zp.toArray) HZB.out ?_
  | refine sta 27 (.tmp 4) (.tmp 11) b4 0 zp hb0_ (by first|decide|(rw[List.size_toArray,hzp];exact Nat.le_refl _)|simp[hzp,aG]) (szP9 hzp) HOZP.out ?_)
 intro w4 hk hb;rw[aI _ _ (by first|rfl|(rw[List.size_toArray,hzp];rfl)|simp[hzp,aG])] at hb;replace hk:=tX hk0 hk (fun i hi e=>by omega);replace HL:=lW HL hbs hk hb;clear hbs hk hb hk0 hb0_;go_wp2_with fail;refine((Gy w4 40 (by omega))).mono ?_;rintro e w5 ⟨c,M,B,rfl,hki,hB,hk⟩;replace HL:=O (Cs.begin HL.out hki hB hk);clear hki hB hk;obtain⟨u1,S1,hset,hr1,hu1⟩:=zF (t:=.hole) (n:=5) (b:=sec 1) (N:=31) (Kor.room_new 40 M 0) (oC (b:=0) (by decide)) (by rw[Tr.blk_hole];exact oC (a:=0) (by decide));have hb0:=HL.out.ki.bd;have hso:=E2 hb0 (Tr.ok_hole _ 3) (by omega) (iS 1) hset;have huo:=(hso.2 u1 rfl).1;have hub:=xO.set xO.hole (hso.2 u1 rfl).2;have HUO:=O huo;have HSET:=O hset;have HUB:=O hub;have HB0:=O hb0;have HSO:=O hso.1;have HR1:=O hr1;clear hset hr1 hu1 hso huo hub hb0;go_wp2_with fail;apply uZ (R:=fun(b6:Nat) (roa:Option Addr) (roc:Nat) (rc:List Value) w'=>Hid (∃vrc B1,aE vrc u1.ptr=rc/\Cs aB w c S1 B1 [(vrc,u1.ptr)] w' ((b6,rc.toArray,27)::[(b4,zp.toArray,27),(b2,aH.toArray,27),(b1,aH.toArray,27)])))
 case h =>
  refine Gz B HL (by kernel_rfl) ?_;intro w6 SW HSE HSI hkd HL;clear hkd;have HLs:=HL;refine tna 0 (.pointer (some ⟨c,0,none⟩)) rfl (sD9 HSI HL) ?_;refine tnd 1 (.agg zp.toArray) rfl (ldD 27 (.tmp 4) b4 0 zp _ (fun w' h=>aD (HLs.out.own (HSE.out w' h) 0)) aF (szP9 hzp)) (sD9 HSI HL) ?_;refine gH (k:=2) (l:=7) rfl rfl (by kernel_rfl) ?_ ?_
  ·go_wp2_with fail
   refine(sY w6 1).mono ?_;rintro e w7 ⟨v_,rfl,ho,hk⟩;obtain⟨roa,roc,rfl,-,-⟩:=(Rd.of_owns ho).form;have Hro:=O ho;have HroO:=O (vM ho (fun i e=>HL.out.ki.lt e));replace HL:=O (HL.out.keeps hk);clear ho hk;go_wp2_with fail;refine⟨HSI.out _ HL.out.dr,?_⟩;refine gH (k:=3) (l:=7) rfl rfl (by kernel_rfl) ?_ ?_
   ·go_wp2_with fail
    have hsz:=HL.out.keep.size;refine((by rw[←HZPE.out];have h:=mS HL.out.ki (.slice none 0 0) .hole (Tr.ok_hole _ 3) (bA.hole _ _) 5 (by omega) (.slice roa 256 roc) (sec 1) (iS 1) (Rd.of_owns Hro.out) HroO.out;rw[HSET.out] at h;exact h:Calls _ _ _ w7 (cK w7 c B (.slice none 0 0) (some u1) S1))).mono ?_;rintro e w8 ⟨vrc,B1,rfl,hpv,hki,hbb,-,hnw,hk⟩;replace hpv:bA w8 B1 vrc u1.ptr:=hpv;rw[show gD (some u1)=u1.ptr from rfl,show kZ (some u1)=0 from rfl];replace HL:=O (HL.out.laid (fun _ _ e=>e) hpv hki hbb (vO hnw) hk);obtain⟨rc,HRC,hrc,HORC⟩:=nmP hpv;rw[HRC.out];clear hsz hpv hki hbb hnw hk Hro HroO;go_wp2_with fail;refine⟨HSI.out _ HL.out.dr,?_⟩;refine tna 4 (.tuple #[.agg rc.toArray,.int .i64 0]) rfl (sD9 HSI HL) ?_;refine tnb 5 (.agg rc.toArray) rfl (sD9 HSI HL) ?_;refine tnb 6 (.int .i64 0) rfl (sD9 HSI HL) ?_;refine wA9 7 ?_;refine alD HL HSI 27 (.agg aH.toArray) (aH.toArray) bG ?_;intro b6 w9 hb6 hk HL;clear hk;refine wA9 8 ?_;refine stD HL HSI 0 rfl 27 (.tmp 6) (.tmp 22) rc (.inl hb6) (by first|rfl|simp[hrc,aG]) (szP9 hrc) HORC.out ?_;intro wa HL;refine tna 9 (.int .i64 0) rfl (sD9 HSI HL) ?_;refine wpAnyH_done (by kernel_rfl) ?_ _;refine noP ?_;exact⟨rfl,b6,roa,roc,rc,rfl,O ⟨vrc,B1,HRC.out,HL.out.toCs⟩⟩
   ·refine alD HL HSI 27 (.agg aH.toArray) (aH.toArray) bG ?_
    intro b6 w8 hb6 hk HL;replace Hro:=O (hk.owns Hro.out fun _ _=>id);replace HroO:=O (fun i hi=>And.intro (HroO.out i hi).1 (Nat.lt_of_lt_of_le (HroO.out i hi).2 (hk).size));clear hk;refine wA9 3 ?_;go_wp2_with fail;have hsz:=HL.out.keep.size;refine((by rw[←HZPE.out];have h:=mS HL.out.ki (.slice none 0 0) .hole (Tr.ok_hole _ 3) (bA.hole _ _) 5 (by omega) (.slice roa 256 roc) (sec 1) (iS 1) (Rd.of_owns Hro.out) HroO.out;rw[HSET.out] at h;exact h:Calls _ _ _ w8 (cK w8 c B (.slice none 0 0) (some u1) S1))).mono ?_;rintro e w9 ⟨vrc,B1,rfl,hpv,hki,hbb,-,hnw,hk⟩;replace hpv:bA w9 B1 vrc u1.ptr:=hpv;rw[show gD (some u1)=u1.ptr from rfl,show kZ (some u1)=0 from rfl];replace HL:=O (HL.out.laid (fun _ _ e=>e) hpv hki hbb (vO hnw) hk);obtain⟨rc,HRC,hrc,HORC⟩:=nmP hpv;rw[HRC.out];clear hsz hpv hki hbb hnw hk Hro HroO;go_wp2_with fail;refine⟨HSI.out _ HL.out.dr,?_⟩;refine tna 4 (.tuple #[.agg rc.toArray,.int .i64 0]) rfl (sD9 HSI HL) ?_;refine tnb 5 (.agg rc.toArray) rfl (sD9 HSI HL) ?_;refine tnb 6 (.int .i64 0) rfl (sD9 HSI HL) ?_;refine wA9 8 ?_;refine stD HL HSI 0 rfl 27 (.tmp 6) (.tmp 22) rc (.inl hb6) (by first|rfl|simp[hrc,aG]) (szP9 hrc) HORC.out ?_;intro wa HL;refine tna 9 (.int .i64 0) rfl (sD9 HSI HL) ?_;refine wpAnyH_done (by kernel_rfl) ?_ _;refine noP ?_;exact⟨rfl,b6,roa,roc,rc,rfl,O ⟨vrc,B1,HRC.out,HL.out.toCs⟩⟩
  ·refine alD HL HSI 27 (.agg aH.toArray) (aH.toArray) bG ?_
   intro b6 w7 hb6 hk HL;clear hk;refine wA9 2 ?_;go_wp2_with fail;refine(sY w7 1).mono ?_;rintro e w8 ⟨v_,rfl,ho,hk⟩;obtain⟨roa,roc,rfl,-,-⟩:=(Rd.of_owns ho).form;have Hro:=O ho;have HroO:=O (vM ho (fun i e=>HL.out.ki.lt e));replace HL:=O (HL.out.keeps hk);clear ho hk;go_wp2_with fail;refine⟨HSI.out _ HL.out.dr,?_⟩;refine wA9 3 ?_;go_wp2_with fail;have hsz:=HL.out.keep.size;refine((by rw[←HZPE.out];have h:=mS HL.out.ki (.slice none 0 0) .hole (Tr.ok_hole _ 3) (bA.hole _ _) 5 (by omega) (.slice roa 256 roc) (sec 1) (iS 1) (Rd.of_owns Hro.out) HroO.out;rw[HSET.out] at h;exact h:Calls _ _ _ w8 (cK w8 c B (.slice none 0 0) (some u1) S1))).mono ?_;rintro e w9 ⟨vrc,B1,rfl,hpv,hki,hbb,-,hnw,hk⟩;replace hpv:bA w9 B1 vrc u1.ptr:=hpv;rw[show gD (some u1)=u1.ptr from rfl,show kZ (some u1)=0 from rfl];replace HL:=O (HL.out.laid (fun _ _ e=>e) hpv hki hbb (vO hnw) hk);obtain⟨rc,HRC,hrc,HORC⟩:=nmP hpv;rw[HRC.out];clear hsz hpv hki hbb hnw hk Hro HroO;go_wp2_with fail;refine⟨HSI.out _ HL.out.dr,?_⟩;refine tna 4 (.tuple #[.agg rc.toArray,.int .i64 0]) rfl (sD9 HSI HL) ?_;refine tnb 5 (.agg rc.toArray) rfl (sD9 HSI HL) ?_;refine tnb 6 (.int .i64 0) rfl (sD9 HSI HL) ?_;refine wA9 8 ?_;refine stD HL HSI 0 rfl 27 (.tmp 6) (.tmp 22) rc (.inl hb6) (by first|rfl|simp[hrc,aG]) (szP9 hrc) HORC.out ?_;intro wa HL;refine tna 9 (.int .i64 0) rfl (sD9 HSI HL) ?_;refine wpAnyH_done (by kernel_rfl) ?_ _;refine noP ?_;exact⟨rfl,b6,roa,roc,rc,rfl,O ⟨vrc,B1,HRC.out,HL.out.toCs⟩⟩
 case hR =>
  rintro b6 roa roc rc wb HF;obtain⟨vrc,B1,hcs,hl⟩:=HF.out;have HL:=O hl;have HRC:=O hcs;have hrc:rc.length=35:=by rw[←hcs];exact aJ (HL.out.pv0 0).pt.sum
  have HORC:Hid (∀u∈rc,u.oneCell'=true):=O (by rw[←hcs];exact aU (HL.out.pv0 0).pt);clear hcs hl HF
  go_wp2_with ((with_reducible show WL _ _);refine wpList_load_mid rfl 27 (.tmp 6) rfl b6 0 rfl rc _ (aD (HL.out.b 0)) aF rfl (szP9 hrc) ?_)
  refine((by rw[←HRC.out];exact KI.commit HL.out.ki (by rw[HSO.out.txg];show (0:Int)+1<2147483648;decide) vrc u1.ptr (HL.out.pv0 0).pt HUO.out.few 0 (by decide) HUO.out.comm:Calls _ _ _ wb (DP wb c S1 B1))).mono ?_;rintro e wc ⟨rfl,M2,B2,hM2,hki2,hbb2,-,hk⟩;have hx2:=Kor.com_ext hM2;have hr2:=Kor.com_room (M':=M2) HR1.out (S1.txg+1);have htx2:(⟨S1.D,S1.Z,S1.cp,S1.L,M2,S1.txg+1⟩:Kor).txg=1:=by show S1.txg+1=1;rw[HSO.out.txg];rfl
  obtain⟨S2,hS2⟩:∃T,(⟨S1.D,S1.Z,S1.cp,S1.L,M2,S1.txg+1⟩:Kor)=T:=⟨_,rfl⟩
  rw[hS2] at hki2 hx2 hr2 htx2;replace HL:=O (HL.out.turned hki2 hbb2 hk);have huo2:=HUO.out.ext hx2;obtain⟨u2,S3,hset2,hr3,hu2⟩:=zF (t:=u1) (n:=6) (b:=sec 1) (N:=27) hr2 (oC (b:=0) (by decide)) (by rw[HUB.out 6 (by omega)];exact oC (a:=0) (by decide));have hso2:=E2 hki2.bd huo2 (by omega) (iS 1) hset2;have HUO2:=O huo2;have HSET2:=O hset2;have HVO:=O (hso2.2 u2 rfl).1;have HUO3:=O (huo2.ext hso2.1.ext)
  have HTT:Hid (Lg u1 u2):=O (by
   have h1:=HSET.out;have h2:=HSET2.out;unfold sV at h1 h2;rw[if_neg (by rw[Tr.blk_hole];exact oC (a:=0) (by decide))] at h1;rw[if_neg (by rw[HUB.out 6 (by omega)];exact oC (a:=0) (by decide))] at h2;exact Ou HB0.out hki2.bd rfl htx2 rfl (iS 1) (oC (b:=0) (by decide)) h1 huo2 h2)
  have HND:Hid ((eH 3 u1).Nodup):=O (by
   have h1:=HSET.out;unfold sV at h1;rw[if_neg (by rw[Tr.blk_hole];exact oC (a:=0) (by decide))] at h1;exact(Bt (iS 1) 5 (by omega) HB0.out (jQ.hole _ 3) h1).1.apart)
  clear hx2 hr2 htx2 hS2 huo2 hset2 hr3 hu2 hso2 hki2 hbb2 hM2 hk;go_wp2_with fail;apply uZ (R:=fun(b9:Nat) (rpa:Option Addr) (rpc:Nat) (sc:List Value) w'=>Hid (∃vsc B3,aE vsc u2.ptr=sc/\Cs aB w c S3 B3 [(vsc,u2.ptr),(vrc,u1.ptr)] w' ((b9,sc.toArray,27)::[(b6,rc.toArray,27),(b4,zp.toArray,27),(b2,aH.toArray,27),(b1,aH.toArray,27)])))
  case h =>
   refine Gz B2 HL (by kernel_rfl) ?_;intro wd SW HSE HSI hkd HL;clear hkd;have HLs:=HL;refine tna 0 (.pointer (some ⟨c,0,none⟩)) rfl (sD9 HSI HL) ?_;refine tnd 1 (.agg rc.toArray) rfl (ldD 27 (.tmp 6) b6 0 rc _ (fun w' h=>aD (HLs.out.own (HSE.out w' h) 0)) aF (szP9 hrc)) (sD9 HSI HL) ?_;refine gH (k:=2) (l:=7) rfl rfl (by kernel_rfl) ?_ ?_
   ·go_wp2_with fail
    refine(sY wd 1).mono ?_;rintro e we ⟨v_,rfl,ho,hk⟩;obtain⟨rpa,rpc,rfl,-,-⟩:=(Rd.of_owns ho).form;have Hrp:=O ho;have HrpO:=O (vM ho (fun i e=>HL.out.ki.lt e));replace HL:=O (HL.out.keeps hk);clear ho hk;go_wp2_with fail;refine⟨HSI.out _ HL.out.dr,?_⟩;refine gH (k:=3) (l:=7) rfl rfl (by kernel_rfl) ?_ ?_
    ·go_wp2_with fail
     have hsz:=HL.out.keep.size;refine((by rw[←HRC.out];have h:=mS HL.out.ki vrc u1 HUO2.out (HL.out.pv0 0) 6 (by omega) (.slice rpa 256 rpc) (sec 1) (iS 1) (Rd.of_owns Hrp.out) HrpO.out;rw[HSET2.out] at h;exact h:Calls _ _ _ we (cK we c B2 (.slice none 0 0) (some u2) S3))).mono ?_;rintro e wf ⟨vsc,B3,rfl,hpv,hki,hbb,-,hnw,hk⟩;replace hpv:bA wf B3 vsc u2.ptr:=hpv;rw[show gD (some u2)=u2.ptr from rfl,show kZ (some u2)=0 from rfl];replace HL:=O (HL.out.laid (fun _ _ e=>e) hpv hki hbb (vO hnw) hk);obtain⟨sc,HSC,hsc,HOSC⟩:=nmP hpv;rw[HSC.out];clear hsz hpv hki hbb hnw hk Hrp HrpO;go_wp2_with fail;refine⟨HSI.out _ HL.out.dr,?_⟩;refine tna 4 (.tuple #[.agg sc.toArray,.int .i64 0]) rfl (sD9 HSI HL) ?_;refine tnb 5 (.agg sc.toArray) rfl (sD9 HSI HL) ?_;refine tnb 6 (.int .i64 0) rfl (sD9 HSI HL) ?_;refine wA9 7 ?_;refine alD HL HSI 27 (.agg aH.toArray) (aH.toArray) bG ?_;intro b9 wg hb9 hk HL;clear hk;refine wA9 8 ?_;refine stD HL HSI 0 rfl 27 (.tmp 9) (.tmp 32) sc (.inl hb9) (by first|rfl|simp[hsc,aG]) (szP9 hsc) HOSC.out ?_;intro wh HL;refine tna 9 (.int .i64 0) rfl (sD9 HSI HL) ?_;refine wpAnyH_done (by kernel_rfl) ?_ _;refine noP ?_;exact⟨rfl,b9,rpa,rpc,sc,rfl,O ⟨vsc,B3,HSC.out,HL.out.toCs⟩⟩
    ·refine alD HL HSI 27 (.agg aH.toArray) (aH.toArray) bG ?_
     intro b9 wf hb9 hk HL;replace Hrp:=O (hk.owns Hrp.out fun _ _=>id);replace HrpO:=O (fun i hi=>And.intro (HrpO.out i hi).1 (Nat.lt_of_lt_of_le (HrpO.out i hi).2 (hk).size));clear hk;refine wA9 3 ?_;go_wp2_with fail;have hsz:=HL.out.keep.size;refine((by rw[←HRC.out];have h:=mS HL.out.ki vrc u1 HUO2.out (HL.out.pv0 0) 6 (by omega) (.slice rpa 256 rpc) (sec 1) (iS 1) (Rd.of_owns Hrp.out) HrpO.out;rw[HSET2.out] at h;exact h:Calls _ _ _ wf (cK wf c B2 (.slice none 0 0) (some u2) S3))).mono ?_;rintro e wg ⟨vsc,B3,rfl,hpv,hki,hbb,-,hnw,hk⟩;replace hpv:bA wg B3 vsc u2.ptr:=hpv;rw[show gD (some u2)=u2.ptr from rfl,show kZ (some u2)=0 from rfl];replace HL:=O (HL.out.laid (fun _ _ e=>e) hpv hki hbb (vO hnw) hk);obtain⟨sc,HSC,hsc,HOSC⟩:=nmP hpv;rw[HSC.out];clear hsz hpv hki hbb hnw hk Hrp HrpO;go_wp2_with fail;refine⟨HSI.out _ HL.out.dr,?_⟩;refine tna 4 (.tuple #[.agg sc.toArray,.int .i64 0]) rfl (sD9 HSI HL) ?_;refine tnb 5 (.agg sc.toArray) rfl (sD9 HSI HL) ?_;refine tnb 6 (.int .i64 0) rfl (sD9 HSI HL) ?_;refine wA9 8 ?_;refine stD HL HSI 0 rfl 27 (.tmp 9) (.tmp 32) sc (.inl hb9) (by first|rfl|simp[hsc,aG]) (szP9 hsc) HOSC.out ?_;intro wh HL;refine tna 9 (.int .i64 0) rfl (sD9 HSI HL) ?_;refine wpAnyH_done (by kernel_rfl) ?_ _;refine noP ?_;exact⟨rfl,b9,rpa,rpc,sc,rfl,O ⟨vsc,B3,HSC.out,HL.out.toCs⟩⟩
   ·refine alD HL HSI 27 (.agg aH.toArray) (aH.toArray) bG ?_
    intro b9 we hb9 hk HL;clear hk;refine wA9 2 ?_;go_wp2_with fail;refine(sY we 1).mono ?_;rintro e wf ⟨v_,rfl,ho,hk⟩;obtain⟨rpa,rpc,rfl,-,-⟩:=(Rd.of_owns ho).form;have Hrp:=O ho;have HrpO:=O (vM ho (fun i e=>HL.out.ki.lt e));replace HL:=O (HL.out.keeps hk);clear ho hk;go_wp2_with fail;refine⟨HSI.out _ HL.out.dr,?_⟩;refine wA9 3 ?_;go_wp2_with fail;have hsz:=HL.out.keep.size;refine((by rw[←HRC.out];have h:=mS HL.out.ki vrc u1 HUO2.out (HL.out.pv0 0) 6 (by omega) (.slice rpa 256 rpc) (sec 1) (iS 1) (Rd.of_owns Hrp.out) HrpO.out;rw[HSET2.out] at h;exact h:Calls _ _ _ wf (cK wf c B2 (.slice none 0 0) (some u2) S3))).mono ?_;rintro e wg ⟨vsc,B3,rfl,hpv,hki,hbb,-,hnw,hk⟩;replace hpv:bA wg B3 vsc u2.ptr:=hpv;rw[show gD (some u2)=u2.ptr from rfl,show kZ (some u2)=0 from rfl];replace HL:=O (HL.out.laid (fun _ _ e=>e) hpv hki hbb (vO hnw) hk);obtain⟨sc,HSC,hsc,HOSC⟩:=nmP hpv;rw[HSC.out];clear hsz hpv hki hbb hnw hk Hrp HrpO;go_wp2_with fail;refine⟨HSI.out _ HL.out.dr,?_⟩;refine tna 4 (.tuple #[.agg sc.toArray,.int .i64 0]) rfl (sD9 HSI HL) ?_;refine tnb 5 (.agg sc.toArray) rfl (sD9 HSI HL) ?_;refine tnb 6 (.int .i64 0) rfl (sD9 HSI HL) ?_;refine wA9 8 ?_;refine stD HL HSI 0 rfl 27 (.tmp 9) (.tmp 32) sc (.inl hb9) (by first|rfl|simp[hsc,aG]) (szP9 hsc) HOSC.out ?_;intro wh HL;refine tna 9 (.int .i64 0) rfl (sD9 HSI HL) ?_;refine wpAnyH_done (by kernel_rfl) ?_ _;refine noP ?_;exact⟨rfl,b9,rpa,rpc,sc,rfl,O ⟨vsc,B3,HSC.out,HL.out.toCs⟩⟩
  case hR =>
   rintro b9 rpa rpc sc wi HF;obtain⟨vsc,B3,hcs,hl⟩:=HF.out;have HL:=O hl;have HSC:=O hcs;have hsc:sc.length=35:=by rw[←hcs];exact aJ (HL.out.pv0 0).pt.sum
   have HOSC:Hid (∀u∈sc,u.oneCell'=true):=O (by rw[←hcs];exact aU (HL.out.pv0 0).pt);clear hcs hl HF;go_wp2_with fail;refine Gz (fun k=>k=b1\/k=b2) HL (by kernel_rfl) ?_;intro wj SW HSE HSI hkd HL;clear hkd;have HLs:=HL;refine tna 0 (.pointer (some ⟨c,0,none⟩)) rfl (sD9 HSI HL) ?_;refine tnd 1 (.agg rc.toArray) rfl (ldD 27 (.tmp 6) b6 0 rc _ (fun w' h=>aD ((HSE.out w' h).blk (HLs.out.b 1) (by rintro (e|e);exact(HLs.out.toCs.ne 4 1) e;exact(HLs.out.toCs.ne 3 1) e))) aF (szP9 hrc)) (sD9 HSI HL) ?_;refine tnd 2 (.agg sc.toArray) rfl (ldD 27 (.tmp 9) b9 0 sc _ (fun w' h=>aD ((HSE.out w' h).blk (HLs.out.b 0) (by rintro (e|e);exact(HLs.out.toCs.ne 4 0) e;exact(HLs.out.toCs.ne 3 0) e))) aF (szP9 hsc)) (sD9 HSI HL) ?_;refine tna 3 (.int .i64 0) rfl (sD9 HSI HL) ?_;refine tnb 4 (.bool true) rfl (sD9 HSI HL) ?_;refine tna 5 (.bool true) rfl (sD9 HSI HL) ?_;refine tna 6 (.int .i64 0) rfl (sD9 HSI HL) ?_;refine tnb 7 (.bool true) rfl (sD9 HSI HL) ?_;refine tna 8 (.bool true) rfl (sD9 HSI HL) ?_;refine tna 9 (.bool true) rfl (sD9 HSI HL) ?_;refine tna 10 (.int .i64 0) rfl (sD9 HSI HL) ?_;refine tnb 11 (.bool true) rfl (sD9 HSI HL) ?_;refine tna 12 (.bool true) rfl (sD9 HSI HL) ?_;refine tna 13 (.pointer (some ⟨c,0,none⟩)) rfl (sD9 HSI HL) ?_;refine wA9 14 ?_;refine stD HL HSI 4 rfl 27 (.tmp 1) (.tmp 35) rc (.inr (.inl rfl)) (by first|rfl|simp[hrc,aG]) (szP9 hrc) HORC.out ?_;intro wk HL;refine wA9 15 ?_;refine stD HL HSI 3 rfl 27 (.tmp 2) (.tmp 36) sc (.inr (.inr rfl)) (by first|rfl|simp[hsc,aG]) (szP9 hsc) HOSC.out ?_;intro wl HL;refine tna 16 (.bool true) rfl (sD9 HSI HL) ?_;refine wpAnyH_done (by kernel_rfl) ?_ _;refine noP ?_;have HB1_:=O (HL.out.b 4);have HB2_:=O (HL.out.b 3);have HP:Hid (E9 w (.returned (.tuple #[.pointer (some ⟨c,0,none⟩),.agg rc.toArray,.agg sc.toArray,.bool true])) wl):=O ⟨c,vrc,vsc,u1,u2,S3,B3,by rw[HRC.out,HSC.out],HL.out.ki,HUO3.out,HVO.out,HND.out,HL.out.pv0 1,HL.out.pv0 0,HTT.out,fun k e=>(HL.out.bb k e).elim False.elim id,HL.out.keep⟩;clear HL HLs HSE HSI;go_wp2_with fail;refine bodyPost_ret (DQ rfl _ _ b1 b2 _ _ _ _ _ _ _ _ rfl rfl HB1_.out HB2_.out aF rfl (by rw[List.size_toArray,hrc];exact dF) aF rfl (by rw[List.size_toArray,hsc];exact dF)) rfl ?_;exact HP.out
theorem MU{w:World}{base:Nat}{v:Value}{ns:List Nat}{m:List Int}(h:w.ownsRow base 3 1 v ns.length (xS ns))(hm:ns.map (fun(i:Nat)=>(i:Int))=m):Rd w 1 v m.length (m.map fun x=>.int .i64 x):=by
 subst hm;rw[List.length_map,List.map_map];exact Rd.of_owns h
theorem MV{w:World}{base:Nat}{v:Value}{qs:List (Value×Pt)}{m:List Int}(h:w.ownsRow base 3 1 v qs.length (vB qs))(hm:qs.map (fun x=>x.2.level)=m):Rd w 1 v m.length (m.map fun x=>.int .i64 x):=by
 subst hm;rw[List.length_map,List.map_map];exact Rd.of_owns h
theorem Fa{w:World}{b n:Nat}{m:List Int}{T:TypeId}{cs:List Value}(h:w.heap[b]?=some (.cells cs.toArray T (0,0)))(he:cs=m.map fun x=>.int .i64 x)(hn:m.length=n)(h8:n≤100):Rd w 1 (.slice (some ⟨b,0,none⟩) n n) m.length (m.map fun x=>.int .i64 x):=by
 rw[hn,←he];exact eE (n:=n) (size:=1) h (by rw[he,List.length_map,hn,Nat.mul_one]) (by unfold maxLen;omega)
theorem lG.row{w w':World}{ps:List Pt}{v:Value}{qs:List (Value×Pt)}(hq:qs.map (·.2)=ps)(ho:w'.ownsRow w.heap.size 27 35 v ps.length (qs.flatMap fun x=>aE x.1 x.2))(hat:∀x∈qs,PtV w' x.1 x.2/\∀i,x.1.ownBlock=some i->w.heap.size≤i/\v.ownBlock≠some i/\IsC w' i):vA w' v qs/\qs.length=ps.length:=by
 have hl:qs.length=ps.length:=by rw[←hq,List.length_map]
 exact⟨⟨by rw[hl];exact Rd.of_owns ho,fun x hx=>(hat x hx).1⟩,hl⟩
theorem Cs.start2{w:World}{c:Nat}{S:Kor}{B:Nat->Prop}(h:KI w c S B){v u:Value}{p q:Pt}(hp:bA w B v p)(hq:bA w B u q):Cs B w c S B [(v,p),(u,q)] w []:=⟨Loc.nil _ _ w,h,(fun r hr=>by
 simp only[List.mem_cons,List.not_mem_nil,or_false] at hr;rcases hr with rfl|rfl
 ·exact hp
 ·exact hq),fun _ e=>.inl e⟩
theorem wQ(w:World):Calls Tryz.prog 7 #[] w (LB w):=by
 go_in;go_wp2_with fail;refine((Jn w)).mono ?_;rintro e w1 ⟨c,vrc,vsc,u1,u2,S,B,rfl,hki,huo,hvo,hnd,hp1,hp2,htt,hB,hk⟩;have HBN:=O hB;have HKW:=O hk;have HUO:=O huo;have HVO:=O hvo;have HND:=O hnd;have HTT:=O htt;have HL:=O (Cs.start2 hki hp1 hp2);obtain⟨rc,HRC,hrc,HORC⟩:=nmP hp1;obtain⟨sc,HSC,hsc,HOSC⟩:=nmP hp2;rw[HRC.out,HSC.out];clear hki huo hvo hnd hp1 hp2 htt hB hk
 go_wp2_with ((with_reducible show WL _ _);refine al 27 (.agg aH.toArray) (aH.toArray) bG ?_)
 intro b2 w2 hbs hk hb;replace HL:=O (HL.out.new (trivial) hbs hk hb);clear hbs hk hb
 go_wp2_with ((with_reducible show WL _ _);refine al 27 (.agg aH.toArray) (aH.toArray) bG ?_)
 intro b3 w3 hbs hk hb;replace HL:=O (HL.out.new (trivial) hbs hk hb);clear hbs hk hb
 go_wp2_with ((with_reducible show WL _ _);refine sta 27 (.tmp 2) (.tmp 12) b2 0 rc (HL.out.b 1) (by first|decide|(rw[hrc];exact Nat.le_refl _)|simp[hrc,aG]) (szP9 hrc) HORC.out ?_)
 intro w4 hk hb;rw[aI _ _ (by first|rfl|simp[hrc,aG])] at hb;replace HL:=O (HL.out.set 1 hk hb);clear hk hb
 go_wp2_with ((with_reducible show WL _ _);refine sta 27 (.tmp 3) (.tmp 13) b3 0 sc (HL.out.b 0) (by first|decide|(rw[hsc];exact Nat.le_refl _)|simp[hsc,aG]) (szP9 hsc) HOSC.out ?_)
 intro w5 hk hb;rw[aI _ _ (by first|rfl|simp[hsc,aG])] at hb;replace HL:=O (HL.out.set 0 hk hb);clear hk hb
 go_wp2_with ((with_reducible show WL _ _);refine wpList_load_mid rfl 27 (.tmp 2) rfl b2 0 rfl rc _ (aD (HL.out.b 1)) aF rfl (szP9 hrc) ?_)
 refine((by rw[←HRC.out];exact DF HL.out.ki vrc u1 HUO.out (HL.out.pv0 0):Calls _ _ _ w5 (lG w5 (fR 3 u1)))).mono ?_;rintro e w6 ⟨tp,tpq,rfl,hq,ho,hat,hk⟩;have htp:=lG.row hq ho hat;have HTP:=O htp.1;have HTPQ:=O hq;obtain⟨tpa,tpc,rfl,-,-⟩:=(Rd.of_owns ho).form;have HTPL:Hid (tpq.length=4):=O (htp.2.trans (by have h:=congrArg List.length HTT.out.lv1;rw[List.length_map] at h;exact h));rw[←htp.2,HTPL.out];rw[←htp.2,HTPL.out] at HTP;clear hq ho hat htp;replace HL:=O (HL.out.keeps hk);clear hk
 go_wp2_with ((with_reducible show WL _ _);refine wpList_load_mid rfl 27 (.tmp 3) rfl b3 0 rfl sc _ (aD (HL.out.b 0)) aF rfl (szP9 hsc) ?_)
 refine((by rw[←HSC.out];exact GE HL.out.ki vsc u2 HVO.out (HL.out.pv0 1) 1:Calls _ _ _ w6 (mW w6 (bks (bD 1) 3 u2 0)))).mono ?_;rintro e w7 ⟨tb,rfl,ho,hk⟩;rw[HTT.out.b1] at ho;obtain⟨tba,tbc,rfl,-,-⟩:=(Rd.of_owns ho).form;have HTB:Hid (Rd w7 1 (.slice tba 1 tbc) ([6]:List Int).length (([6]:List Int).map fun x=>.int .i64 x)):=O (MU ho rfl);clear ho;replace HL:=O (HL.out.keeps hk);replace HTP:=O (HTP.out.keep0 hk);clear hk;go_wp2_with fail;refine((GG w7 (.slice tpa 4 tpc) tpq HTP.out (by rw[HTPL.out];decide))).mono ?_;rintro e w8 ⟨lv,rfl,ho,hk⟩;rw[HTPL.out] at ho;obtain⟨la,lc,rfl,-,-⟩:=(Rd.of_owns ho).form;have HLV:Hid (Rd w8 1 (.slice la 4 lc) ([3,2,1,0]:List Int).length (([3,2,1,0]:List Int).map fun x=>.int .i64 x)):=O (MV (qs:=tpq) (by rw[HTPL.out];exact ho) (by have h:=HTT.out.lv1;rw[←HTPQ.out,List.map_map] at h;exact h));clear ho;replace HL:=O (HL.out.keeps hk);replace HTP:=O (HTP.out.keep0 hk);replace HTB:=O (HTB.out.keep hk fun _ _=>id);clear hk;obtain⟨w9,hw_w9,hk,hb,-⟩:=aT w8 #[.int .i64 3,.int .i64 2,.int .i64 1,.int .i64 0] 3;obtain⟨b34,hbs⟩:∃b,w8.heap.size=b:=⟨_,rfl⟩
 rw[hbs] at hb;have HL4:Hid (Rd w9 1 (.slice (some ⟨b34,0,none⟩) 4 4) ([3,2,1,0]:List Int).length (([3,2,1,0]:List Int).map fun x=>.int .i64 x)):=O (Fa hb rfl rfl (by decide));replace HL:=O (HL.out.keeps hk);have HBSb34:=O hbs;replace HTP:=O (HTP.out.keep0 hk);replace HTB:=O (HTB.out.keep hk fun _ _=>id);replace HLV:=O (HLV.out.keep hk fun _ _=>id);clear hk hb hbs;go_wp2_with fail;clear hw_w9;rw[HBSb34.out];go_wp2_with fail;refine((by have h:=vD w9 (.slice la 4 lc) (.slice (some ⟨b34,0,none⟩) 4 4) [3,2,1,0] [3,2,1,0] HLV.out HL4.out;rw[decide_eq_true rfl] at h;exact h:Calls _ _ _ w9 (aX w9 true))).mono ?_;rintro e wa ⟨rfl,hk⟩;replace HL:=O (HL.out.keeps hk);replace HTP:=O (HTP.out.keep0 hk);replace HTB:=O (HTB.out.keep hk fun _ _=>id);replace HLV:=O (HLV.out.keep hk fun _ _=>id);replace HL4:=O (HL4.out.keep hk fun _ _=>id);clear hk;go_wp2_with fail;refine((GF wa (.slice tpa 4 tpc) tpq HTP.out (by rw[HTPL.out];decide) (fun y hy=>by have h1:=HTT.out.len1 y.2 (by rw[←HTPQ.out];exact List.mem_map.2 ⟨y,hy,rfl⟩);omega))).mono ?_;rintro e wb ⟨xv,rfl,ho,hk⟩
 have h8:(iY (gT tpq)).length=8:=by
  rw[DK HTPQ.out,Ex HND.out,←DK HTPQ.out];unfold gT;rw[show (tpq.flatMap fun x=>x.2.addrs)=(tpq.map (·.2)).flatMap fun p=>p.addrs by rw[List.flatMap_map],DL (by rw[HTPQ.out];exact HTT.out.len1),List.length_map,HTPL.out]
 rw[h8] at ho;obtain⟨xa,xc,rfl,-,-⟩:=(Rd.of_owns ho).form;clear ho h8;replace HL:=O (HL.out.keeps hk);replace HTP:=O (HTP.out.keep0 hk);replace HTB:=O (HTB.out.keep hk fun _ _=>id);replace HLV:=O (HLV.out.keep hk fun _ _=>id);replace HL4:=O (HL4.out.keep hk fun _ _=>id);clear hk;obtain⟨wc,hw_wc,hk,hb,-⟩:=aT wb #[.int .i64 6] 3;obtain⟨b49,hbs⟩:∃b,wb.heap.size=b:=⟨_,rfl⟩
 rw[hbs] at hb;have HL6:Hid (Rd wc 1 (.slice (some ⟨b49,0,none⟩) 1 1) ([6]:List Int).length (([6]:List Int).map fun x=>.int .i64 x)):=O (Fa hb rfl rfl (by decide));replace HL:=O (HL.out.keeps hk);have HBSb49:=O hbs;replace HTP:=O (HTP.out.keep0 hk);replace HTB:=O (HTB.out.keep hk fun _ _=>id);replace HLV:=O (HLV.out.keep hk fun _ _=>id);replace HL4:=O (HL4.out.keep hk fun _ _=>id);clear hk hb hbs;go_wp2_with fail;clear hw_wc;rw[HBSb49.out];go_wp2_with fail;refine((by have h:=vD wc (.slice tba 1 tbc) (.slice (some ⟨b49,0,none⟩) 1 1) [6] [6] HTB.out HL6.out;rw[decide_eq_true rfl] at h;exact h:Calls _ _ _ wc (aX wc true))).mono ?_;rintro e wd ⟨rfl,hk⟩;replace HL:=O (HL.out.keeps hk);replace HTP:=O (HTP.out.keep0 hk);replace HTB:=O (HTB.out.keep hk fun _ _=>id);replace HLV:=O (HLV.out.keep hk fun _ _=>id);replace HL4:=O (HL4.out.keep hk fun _ _=>id);replace HL6:=O (HL6.out.keep hk fun _ _=>id);clear hk;have HP:=O (HL.out.fin HBN.out HKW.out);clear HL;go_wp2;go_ret;exact⟨rfl,HP.out⟩
end
end Go.Proofs.YtiinnfhjpaeffaaGreat
