/- A part of the proof. Conditions: those told. -/
import Derived.Test.YthihofpfonfjfaaGreatDoorB1
import Derived.Test.YthihofpfonfjfaaGreatDoorB28
namespace Go.Proofs.YthihofpfonfjfaaGreatDoor
set_option maxHeartbeats 64000000
set_option maxRecDepth 100000
set_option linter.unusedVariables false
section
open Go.RowKit Go.Maps Go.ChangeMaps
theorem mkD(w:World)(D:Nat)(h:D≤8):(Instr.makeSlice 60 (.int .i64 (D:Int)) (.int .i64 (D:Int))).run Tryz.prog w=.ok (.slice (some ⟨w.heap.size,0,none⟩) D D) (w.alloc (.cells (Array.replicate D (Value.int .i64 0)) 3)):=by
 rcases D with _|_|_|_|_|_|_|_|_|D
 ·kernel_rfl
 ·kernel_rfl
 ·kernel_rfl
 ·kernel_rfl
 ·kernel_rfl
 ·kernel_rfl
 ·kernel_rfl
 ·kernel_rfl
 ·kernel_rfl
 ·omega
theorem mkd{w:World}{ops:Array Oper}{rest:List Oper}{o:Oper}{a:Act}{Q:Exit->Act->World->Prop}(x y:Operand)(D:Nat)(h8:D≤8)(h:∀b w',w.heap.size=b->aA aB w w'->w'.heap[b]?=some (.cells (Array.replicate D (Value.int .i64 0)) 3 (0,0))->wpList Tryz.prog ops Q rest (a.put o.dst (.slice (some ⟨b,0,none⟩) D D)) w')(hx:a.eval x=.int .i64 (D:Int):=by rfl)(hy:a.eval y=.int .i64 (D:Int):=by rfl)(hg:o.guard=none:=by rfl)(ho:o.op=.makeSlice 60 x y:=by rfl):wpList Tryz.prog ops Q (o::rest) a w:=by
 refine wpList_plain hg fun K hK=>?_
 unfold Oper.wp execOp;simp only[ho,hx,hy,Sem.run_bind,mkD w D h8,Result.andThen_ok];exact hK _ _ (h _ _ rfl ((aA.refl _ _).alloc _) (heap_alloc_new _ _))
def Df(P:Nat->List UInt8)(Mm:Nat->Nat->List UInt8):Nat->Nat->Nat->List UInt8
 | 0=>Mm
 | k+1=>gU (P k) (Df P Mm k) k 5
theorem Ba(P:Nat->List UInt8)(Mm:Nat->Nat->List UInt8):∀(k d:Nat),d<k->Df P Mm k d 0=P d
 | 0,d,h=>by omega
 | k+1,d,h=>by
   show gU (P k) (Df P Mm k) k 5 d 0=P d
   by_cases e:d=k
   ·subst e;exact yX _ _ _ 5 (by decide)
   ·rw[vS _ _ _ e];exact Ba P Mm k d (by omega)
def DvI(w:World)(a:Nat)(B:Nat->Prop)(D Z:Nat)(P:Nat->List UInt8)(Mm:Nat->Nat->List UInt8)(nw k:Nat)(w':World):Prop:=
 ∃B' nw',bI w' a B' D Z (Df P Mm k) nw'/\nw'≤nw+5*k/\(∀i,B' i->B i\/w.heap.size≤i)/\aA B w w'
def qF(w:World)(B:Nat->Prop)(D Z cp:Nat)(e:Ending)(w':World):Prop:=
 ∃c M B',e=.returned (.tuple #[.pointer (some ⟨c,0,none⟩),.int .i64 0])/\KI w' c ⟨D,Z,cp,[],M,0⟩ B'/\(∀k,B' k->B k\/w.heap.size≤k)/\aA B w w'
theorem DY{w:World}{a:Nat}{D Z nw:Nat}{B:Nat->Prop}{Mm:Nat->Nat->List UInt8}(ha:bI w a B D Z Mm nw)(pid:List UInt8)(hpid:pid.length=32)(cp:Nat)(hcp:1≤cp/\cp≤3/\cp≤D)(hn:nw≤1000):Calls Tryz.prog 19 #[.pointer (some ⟨a,0,none⟩),.agg (pid.map vb).toArray,.int .i64 (cp:Int)] w (qF w B D Z cp):=by
 have hbd:=ha.bd;have HBD:=O hbd;have hpl:(pid.map vb).length=32:=by rw[List.length_map];exact hpid
 have HPID:=O hpid;have HCP:=O hcp;have HLT:=O (fun i (e:B i)=>ha.lt e);have HA:=O ha;have HL:=O (Loc.nil aB aB w);have hD0:¬((D:Int)=0):=by omega
 have hc0:¬((cp:Int)<1):=by omega
 have hc3:¬((3:Int)<(cp:Int)):=by omega
 have hcD:¬((D:Int)<(cp:Int)):=by omega
 clear ha hpid;go_enter Tryz.func19,Tryz.ntmps19
 go_wp2_with ((with_reducible show WL _ _);refine bxL HL 51 (.tmp 0) (#[.pointer (some ⟨a,0,none⟩)]) ?_)
 intro b3 w1 hk HL;replace HA:=O (HA.out.keep0 hk);clear hk
 go_wp2_with ((with_reducible show WL _ _);refine bxL HL 33 (.tmp 1) ((pid.map vb).toArray) ?_)
 intro b4 w2 hk HL;replace HA:=O (HA.out.keep0 hk);clear hk;have c1:w2.cell? ⟨b3,0,none⟩=some (.pointer (some ⟨a,0,none⟩)):=(aC (i:=0) (HL.out.b 1) rfl)
 go_wp2_with fail;clear c1;refine(kD HA.out).mono ?_;rintro e w3 ⟨rfl,hk⟩;replace HL:=O (HL.out.keeps hk);replace HA:=O (HA.out.keep0 hk);clear hk;have c1:w3.cell? ⟨b3,0,none⟩=some (.pointer (some ⟨a,0,none⟩)):=(aC (i:=0) (HL.out.b 1) rfl)
 go_wp2_with fail;clear c1;refine(kD HA.out).mono ?_;rintro e w4 ⟨rfl,hk⟩;replace HL:=O (HL.out.keeps hk);replace HA:=O (HA.out.keep0 hk);clear hk;have c1:w4.cell? ⟨b3,0,none⟩=some (.pointer (some ⟨a,0,none⟩)):=(aC (i:=0) (HL.out.b 1) rfl)
 go_wp2_with fail;clear c1;refine(A2 HA.out).mono ?_;rintro e w5 ⟨rfl,hk⟩;replace HL:=O (HL.out.keeps hk);replace HA:=O (HA.out.keep0 hk);clear hk;have c1:w5.cell? ⟨b3,0,none⟩=some (.pointer (some ⟨a,0,none⟩)):=(aC (i:=0) (HL.out.b 1) rfl)
 go_wp2_with ((with_reducible show WL _ _);refine wpList_load_mid rfl 33 (.tmp 4) rfl b4 0 rfl (pid.map vb) _ (aD (HL.out.b 0)) Tryz.underlying33 rfl (by rw[hpl];exact wH) ?_)
 clear c1;have HSZ:=O HL.out.keep.size;refine(Ki HA.out pid HPID.out cp).mono ?_;rintro e w6 ⟨c,m,rfl,hc,hm,hcg,hmg,hmc,hk⟩;have HC:=O hc;have HM:=O hm;have HCG:=O (And.intro (Nat.le_trans HSZ.out hcg) (Nat.le_trans HSZ.out hmg));have HMC:=O hmc;clear hc hm hcg hmg hmc;replace HL:=O (HL.out.keeps hk);replace HA:=O (HA.out.keep0 hk);clear hk;go_wp2_with fail;have HS38:=O HL.out.keep.size;refine(A3 HC.out HA.out).mono ?_;rintro e w7 ⟨v1,rfl,ho,hk⟩;obtain⟨va,vc,rfl,-,-⟩:=(Rd.of_owns ho).form;have HO:=O ho;clear ho;replace HL:=O (HL.out.keeps hk);replace HA:=O (HA.out.keep0 hk);replace HC:=O (HC.out.keep0 hk);replace HM:=O (hk.blk HM.out id);clear hk;go_wp2_with fail;refine(DU w7 (.slice va D vc) ((List.range D).map fun(i:Nat)=>(i:Int)) (by rw[List.length_map,List.length_range,List.map_map];exact Rd.of_owns HO.out) (by rw[List.length_map,List.length_range];omega) 42 b3 (enters_of Tryz.func42 (by kernel_rfl) rfl) (fun x hx w' k=>by obtain⟨i,hi,rfl⟩:=List.mem_map.1 hx;have hi:=List.mem_range.1 hi;exact DT (HA.out.keep0 k) (k.blk (HL.out.b 1) id) (i:Int) (by omega) (by omega))).mono ?_;rintro e w8 ⟨rfl,hk⟩;replace HL:=O (HL.out.keeps hk);replace HA:=O (HA.out.keep0 hk);replace HC:=O (HC.out.keep0 hk);replace HM:=O (hk.blk HM.out id);replace HO:=O (hk.owns HO.out fun _ _=>id);clear hk;have HNV:Hid (∀i,(Value.slice va D vc).ownBlock=some i->w.heap.size≤i):=O (fun i hi=>by have:=aR HO.out hi;have:=HS38.out;omega);go_wp2_with fail;have HNB:=O (fun i (h:w.heap.size≤i) (e:B i)=>show False from by have:=HLT.out i e;omega);have HB3:=O (HL.out.b 1);have H3G:=O (HL.out.lt 1).1;have HKW:=O HL.out.keep;have HCLT:=O (lt_of_block HC.out.top);have HMLT:=O (lt_of_block HM.out);obtain⟨W0,hW0⟩:∃W0,w8=W0:=⟨_,rfl⟩
 rw[hW0] at HC HM HA HO HB3 HKW HCLT HMLT ⊢;clear HL hW0;have hx0:=HLT
 go_loopw [46] (fun i wr=>∃k:Nat,k≤D/\i=.int .i64 k/\Hid (DvI W0 a B D Z (fun d=>dQ (cZ pid d D cp Z)) Mm nw k wr)) (fun i _=>D-(intOf i).toNat)
 case atStart=>exact⟨0,by omega,rfl,O ⟨B,nw,HA.out,by omega,fun i h=>.inl h,aA.refl _ _⟩⟩
 case round =>
  obtain⟨k,hk,rfl,HI⟩:=hrel;obtain⟨B2,nw2,ha2,hn2,hB2,hkw⟩:=HI.out;have HA2:=O ha2;have HN2:=O hn2;have HB2:=O hB2;have HK2:=O hkw;have HC2:=O (HC.out.keep hkw (HNB.out _ HCG.out.1) (fun _ _=>pE));have HM2:Hid (eM wr m a):=O (hkw.blk HM.out (HNB.out _ HCG.out.2));have HO2:=O (hkw.owns HO.out fun i hi=>HNB.out _ (HNV.out i hi));have HB32:=O (hkw.blk HB3.out (HNB.out _ H3G.out));have HCB2:Hid (¬B2 c/\¬B2 m):=O ⟨fun e=>(hB2 c e).elim (HNB.out _ HCG.out.1) fun h=>by have:=HCLT.out;omega,fun e=>(hB2 m e).elim (HNB.out _ HCG.out.2) fun h=>by have:=HMLT.out;omega⟩;clear ha2 hn2 hB2 hkw HI
  by_cases hk8:k<D
  ·have hk0:(0:Int)≤(k:Int):=by omega
   have hk1:(k:Int)<(D:Int):=by omega
   obtain⟨g,o,cap',hv,hat⟩:=BV (Rd.of_owns HO2.out) (wU hk8)
   have hvc:(k:Int)<(vc:Int):=by
    obtain⟨_,a',c',h1,h2,h3,-⟩:=Rd.of_owns HO2.out;cases h1;omega
   have HV9:=O hv;obtain rfl:va=some ⟨g,o,none⟩:=by cases hv;rfl
   have HX:=O hat;clear hv hat;have c1:wr.cell? ⟨g,o+k,none⟩=some (.int .i64 (k:Int)):=HX.out;go_wp2_with fail;clear c1;refine(Kn HC2.out HA2.out hk8 HCB2.out.1 (fun _ _=>pE) HCP.out (by have:=HN2.out;omega)).mono ?_;rintro e w5 ⟨rfl,B3,nw3,ha3,hn3,hB3,hk3⟩;have HE:Hid (DvI W0 a B D Z (fun d=>dQ (cZ pid d D cp Z)) Mm nw (k+1) w5):=O ⟨B3,nw3,ha3,by have:=HN2.out;omega,fun i hi=>(hB3 i hi).elim (HB2.out i) (fun h=>.inr (Nat.le_trans HK2.out.size h)),HK2.out.trans' hk3 (fun _ _ h=>h) (fun i hi e=>(HB2.out i e).elim id fun h=>by omega)⟩;clear ha3 hn3 hB3 hk3 HC2 HM2 HO2 HB32 HA2 HB2 HK2 HX;go_wp2_with fail
   go_roundw
   case rel=>exact⟨k+1,by omega,by go_num,HE⟩
   case measure=>simp[intOf];omega
  ·obtain rfl:D=k:=by omega
   have HL:=O (Loc.nil aB aB wr);have HAL:=O (fun i (e:B2 i)=>HA2.out.lt e);have hD8:D≤8:=HBD.out.2.1;have c1:wr.cell? ⟨b3,0,none⟩=some (.pointer (some ⟨a,0,none⟩)):=(aC (i:=0) HB32.out rfl)
   go_wp2_with fail;clear c1;refine(kD HA2.out).mono ?_;rintro e we ⟨rfl,hk⟩;replace HL:=O (HL.out.keeps hk);replace HA2:=O (HA2.out.keep0 hk);replace HC2:=O (HC2.out.keep0 hk);replace HM2:=O (hk.blk HM2.out id);replace HB32:=O (hk.blk HB32.out id);clear hk
   go_wp2_with ((with_reducible show WL _ _);refine mkd (.tmp 59) (.tmp 59) D hD8 ?_)
   intro b60 wf hbs hk hb;replace HL:=O (HL.out.new (fun _ h=>h.elim) hbs hk hb);replace HA2:=O (HA2.out.keep0 hk);replace HC2:=O (HC2.out.keep0 hk);replace HM2:=O (hk.blk HM2.out id);replace HB32:=O (hk.blk HB32.out id);clear hbs hk hb;have HKA:=O HL.out.keep;have HBL:=O (HL.out.b 0);have HLG:=O (HL.out.lt 0).1
   go_wp2_with ((with_reducible show WL _ _);refine sta 60 (.tmp 62) (.tmp 60) c 35 [.slice (some ⟨b60,0,none⟩) D D] HC2.out.top (by rw[List.size_toArray,yR HPID.out rfl];simp) (by kernel_rfl) (one9) ?_)
   intro w8 hk hb;rw[MS _ _ _ HPID.out] at hb;have HC4:Hid (aW w8 c a m pid cp (.slice (some ⟨b60,0,none⟩) D D) (.pointer none) nL):=O ⟨hb,HPID.out,nM.zero _⟩;have HCW:=O (And.intro HCLT.out HK2.out.size);have HL8:=O (hk.blk HBL.out (fun e=>by have:=HLG.out;have:=HCW.out;omega));replace HA2:=O (HA2.out.keep hk (by rintro i rfl;exact HCB2.out.1));replace HM2:Hid (eM w8 m a):=O (hk.blk HM2.out (fun e=>by have:=HMC.out;omega));have HK8:Hid (aA (fun i=>i=c) wr w8):=O (HKA.out.any.trans hk);clear hk hb HL HC2 HB32 HKA HBL;go_wp2_with fail;refine(IF HC4.out HA2.out HCB2.out.1).mono ?_;rintro e w9 ⟨rfl,g,b2,lc,hc5,hled,hlo,hk⟩
   have HP:Hid (qF w B D Z cp (.returned (.tuple #[.pointer (some ⟨c,0,none⟩),.int .i64 0])) w9):=by
    refine O ⟨c,Df (fun d=>dQ (cZ pid d D cp Z)) Mm D,_,rfl,⟨⟨HBD.out.1,HBD.out.2.1,HBD.out.2.2.1,HBD.out.2.2.2,HCP.out.1,HCP.out.2.1,HCP.out.2.2,(by show (0:Int)≤0;decide),(by show (0:Int)<2147483648;decide)⟩,a,m,b60,g,b2,lc,pid,B2,nw2,nL,rfl,⟨⟨hc5,HA2.out.keep hk (by rintro i rfl;exact HCB2.out.1),hk.blk HM2.out (fun e=>by have:=HMC.out;omega),hk.blk HL8.out (fun e=>by have:=HLG.out;have:=HCW.out;omega),HCP.out,fun d hd=>Ba _ _ _ _ hd⟩,hled,fun k e=>?_,?_,?_⟩,rfl⟩,?_,?_⟩
    ·have h1:=hlo k e
     have h2:=HK8.out.size;have h3:=HCW.out;have h4:=HMC.out;have h5:=lt_of_block HL8.out;refine⟨fun e2=>?_,by omega,by omega,by omega,pE⟩;have:=HA2.out.lt e2;omega
    ·exact⟨HCB2.out.1,HCB2.out.2,fun e=>by have:=HAL.out _ e;have:=HLG.out;omega,fun i h=>(pE h).elim⟩
    ·have h1:=He [] D Z
     have h2:D*Z≤8*4096:=Nat.mul_le_mul hD8 HBD.out.2.2.2;have:=HN2.out;show nw2+jX (bU [] D Z)≤40000+8*0;omega
    ·rintro k (rfl|rfl|rfl|e|e|e)
     ·exact .inr HCG.out.1
     ·exact .inr HCG.out.2
     ·exact .inr (by have:=HLG.out;have:=HK2.out.size;have:=HKW.out.size;omega)
     ·exact(HB2.out k e).imp id fun h=>Nat.le_trans HKW.out.size h
     ·exact .inr (by have:=hlo k e;have:=HK8.out.size;have:=HK2.out.size;have:=HKW.out.size;omega)
     ·exact(pE e).elim
    ·have k1:aA B w wr:=HKW.out.any.trans HK2.out
     have k2:aA (fun i=>i=c) wr w9:=HK8.out.trans hk;exact k1.trans' k2 (fun _ _ h=>h) (fun i hi e=>by have:=HCG.out.1;omega)
   clear hc5 hled hlo hk HC4 HA2 HM2 HL8;go_wp2_with fail
   go_ret2
   exact HP.out
def xD(w:World)(Z:Nat)(e:Ending)(w':World):Prop:=∃c M B,e=.returned (.pointer (some ⟨c,0,none⟩))/\KI w' c ⟨2,Z,2,[],M,0⟩ B/\(∀k,B k->w.heap.size≤k)/\aA aB w w'
theorem xE{w:World}{c:Nat}{S:Kor}{B:Nat->Prop}(h:KI w c S B){N:Nat}(hN:S.room N)(n:Int)(hn:n=(N:Int)):Calls Tryz.prog 8 #[.pointer (some ⟨c,0,none⟩)] w (aF w (.tuple #[.int .i64 n,.int .i64 0])):=
 h.rooms.mono fun e w' h=>by obtain⟨M,h1,rfl,h2⟩:=h;rw[hn,hN.unique h1];exact⟨rfl,h2⟩
theorem Loc.turn2{S B L L':Nat->Prop}{w0 w w':World}{l:List (Nat×Array Value×TypeId)}(h:Loc S L w0 w l)(k:aA B w w')(hL:∀k,B k->L k)(hS:∀k,k<w0.heap.size->B k->S k)(hB:∀k,k<w.heap.size->L' k->L k):Loc S L' w0 w' l:=
 ⟨h.keep.trans' k (fun _ _ h=>h) hS,h.ge,h.nd,fun x hx=>k.blk (h.at_ x hx) (fun e=>h.ap x hx (hL _ e)),fun x hx hb=>h.ap x hx (hB _ (lt_of_block (h.at_ x hx)) hb)⟩
theorem bsA{P:Program}{ops:Array Oper}{rest:List Oper}{o:Oper}{a:Act}{w:World}{Q:Exit->Act->World->Prop}(t e:TypeId)(x:Operand)(hu:P.underlying t=some (.slice e)){z:Value}{size bytes:Nat}(hinf:(P.info? e).map (fun i=>(i.zero,i.size,i.bytes))=some (some z,size,bytes))(hsz:0<size)
 (vs:List Value) (hvs:vs.length=size) (hsmall:size≤2 ^ 24) (h:∀b w',w.heap.size=b->aA aB w w'->w'.heap[b]?=some (.cells vs.toArray e (0,0))->wpList P ops Q rest (a.put o.dst (.slice (some ⟨b,0,none⟩) 1 1)) w')
 (hx:a.eval x=.agg vs.toArray:=by rfl) (hg:o.guard=none:=by rfl) (ho:o.op=.buildSlice t 1 #[(0,x)]:=by rfl):wpList P ops Q (o::rest) a w:=
 bN hg t e x ho hu hinf hsz vs hvs hsmall hx (h _ _ rfl ((aA.refl _ _).alloc _) (heap_alloc_new _ _))
def p05:Pt:=⟨[⟨0,5⟩],1,2,eD⟩
theorem Kr:p05.hole=false:=by decide
theorem L7:p05.may=true:=by decide
theorem L8(w:World):(Instr.build 49 #[(0,.int .i64 0),(1,.int .i64 5)]).run Tryz.prog w=.ok (.agg (aN ⟨0,5⟩).toArray) w:=by kernel_rfl
theorem Ks(b:Nat)(w:World):(Instr.build 35 #[(0,.slice (some ⟨b,0,none⟩) 1 1),(1,.int .i64 1),(2,.int .i64 2)]).run Tryz.prog w=.ok (.agg (aE (.slice (some ⟨b,0,none⟩) 1 1) p05).toArray) w:=by kernel_rfl
theorem Nf{w:World}{b:Nat}(hb:w.heap[b]?=some (.cells (aN ⟨0,5⟩).toArray 49 (0,0))):PtV w (.slice (some ⟨b,0,none⟩) 1 1) p05:=
 ⟨cG (n:=1) (size:=2) hb rfl (by unfold maxLen;omega),fun x hx=>by rw[show p05.addrs=[⟨0,5⟩] from rfl,List.mem_singleton] at hx;subst hx;exact⟨⟨by decide,by decide⟩,by decide,by decide⟩,rfl⟩
def F2(w:World)(e:Ending)(w':World):Prop:=e=.returned (.bool true)/\aA aB w w'
def LR(B:Nat->Prop)(rs:List (Value×Pt))(k:Nat):Prop:=B k\/∃r∈rs,r.1.ownBlock=some k
structure Cs(B0:Nat->Prop)(w0:World)(c:Nat)(S:Kor)(B:Nat->Prop)(rs:List (Value×Pt))(w:World)(l:List (Nat×Array Value×TypeId)):Prop where
 loc:Loc B0 (LR B rs) w0 w l
 ki:KI w c S B
 pv:∀r∈rs,aQ w B r.1 r.2
 bb:∀i,B i->B0 i\/w0.heap.size≤i
section
variable {B0:Nat->Prop}{w0 w w':World}{c:Nat}{S T:Kor}{B B':Nat->Prop}{rs rs':List (Value×Pt)}{l:List (Nat×Array Value×TypeId)}
theorem Cs.lt_(h:Cs B0 w0 c S B rs w l){k:Nat}(hk:LR B rs k):k<w.heap.size:=by
 rcases hk with hk|⟨r,hr,hk⟩
 ·exact h.ki.lt hk
 ·exact((h.pv r hr).off k hk).2.lt
theorem Cs.keep(h:Cs B0 w0 c S B rs w l):aA B0 w0 w:=h.loc.keep
theorem Cs.b(h:Cs B0 w0 c S B rs w l)(i:Nat){b:Nat}{cs:Array Value}{t:TypeId}(hi:l[i]?=some (b,cs,t):=by rfl):w.heap[b]?=some (.cells cs t (0,0)):=h.loc.b i hi
theorem Cs.ne(h:Cs B0 w0 c S B rs w l)(i j:Nat){b b':Nat}{cs cs':Array Value}{t t':TypeId}(hij:j≠i:=by decide)(hi:l[i]?=some (b,cs,t):=by rfl)(hj:l[j]?=some (b',cs',t'):=by rfl):b'≠b:=cH h.loc.nd hi j hij hj
theorem Cs.keeps(h:Cs B0 w0 c S B rs w l)(k:aA aB w w'):Cs B0 w0 c S B rs w' l:=⟨h.loc.keeps k,h.ki.keep0 k,fun r hr=>(h.pv r hr).keep0 k,h.bb⟩
theorem Cs.new(h:Cs B0 w0 c S B rs w l){b:Nat}{cs:Array Value}{t:TypeId}(_:True)(hb:w.heap.size=b)(k:aA aB w w')(hn:w'.heap[b]?=some (.cells cs t (0,0))):Cs B0 w0 c S B rs w' ((b,cs,t)::l):=
 ⟨h.loc.new (fun _ e=>h.lt_ e) hb k hn,h.ki.keep0 k,fun r hr=>(h.pv r hr).keep0 k,h.bb⟩
theorem Cs.set(h:Cs B0 w0 c S B rs w l)(i:Nat){b:Nat}{cs cs':Array Value}{t:TypeId}(k:aA (fun k=>k=b) w w')(hn:w'.heap[b]?=some (.cells cs' t (0,0)))(hi:l[i]?=some (b,cs,t):=by rfl):Cs B0 w0 c S B rs w' (l.set i (b,cs',t)):=by
 have ha:=h.loc.ap _ (List.mem_of_getElem? hi);exact⟨h.loc.set i k hn hi,h.ki.keepT k (fun i e hq=>by subst e;exact ha (.inl hq)),fun r hr=>(h.pv r hr).keepT k (fun i hq e=>by subst e;exact ha (.inr ⟨r,hr,hq⟩)),h.bb⟩
theorem Cs.laid(h:Cs B0 w0 c S B rs w l){v:Value}{p:Pt}(hp:aQ w' B' v p)(hk:KI w' c T B')(hb:∀k,B' k->B k\/w.heap.size≤k)(hn:dR w v)(k:aA B w w'):Cs B0 w0 c T B' ((v,p)::rs) w' l:=by
 refine⟨h.loc.turn2 k (fun _ e=>.inl e) (fun i hi e=>(h.bb i e).elim id fun e=>by omega) ?_,hk,?_,fun i e=>(hb i e).elim (h.bb i) fun e=>.inr (Nat.le_trans h.keep.size e)⟩
 ·rintro i hi (e|⟨r,hr,e⟩)
  ·exact(hb i e).elim .inl fun e=>by omega
  ·rcases List.mem_cons.1 hr with rfl|hr
   ·have:=hn i e;omega
   ·exact .inr ⟨r,hr,e⟩
 ·intro r hr
  rcases List.mem_cons.1 hr with rfl|hr
  ·exact hp
  ·exact(h.pv r hr).keep k hb
theorem Cs.start(h:KI w c S B):Cs B w c S B [] w []:=⟨Loc.nil _ _ w,h,(fun r hr=>by cases hr),fun _ e=>.inl e⟩
theorem Cs.pv0{v:Value}{p:Pt}(h:Cs B0 w0 c S B rs w l)(i:Nat)(hi:rs[i]?=some (v,p):=by rfl):aQ w B v p:=h.pv _ (List.mem_of_getElem? hi)
theorem Cs.fin{w2:World}(h:Cs B0 w0 c S B rs w l)(hB:∀k,B0 k->w2.heap.size≤k)(k:aA aB w2 w0):aA aB w2 w:=
 k.trans' h.keep (fun _ _ h=>h.elim) (fun i hi e=>by have:=hB i e;omega)
end
theorem nmP{w:World}{B:Nat->Prop}{v:Value}{p:Pt}(h:aQ w B v p):∃c,Hid (aE v p=c)/\c.length=35/\Hid (∀u∈c,u.oneCell'=true):=⟨_,O rfl,aO h.pt.sum,O (bM h.pt)⟩
theorem uU{w:World}{v:Value}(h:v=.slice none 0 0\/dR w v):dR w v:=h.elim (fun e=>by rw[e];exact dR.nil w) id
structure Ds(SP:Nat->Prop)(wd:World)(B0:Nat->Prop)(w0:World)(c:Nat)(S:Kor)(B:Nat->Prop)(rs:List (Value×Pt))(w:World)(l:List (Nat×Array Value×TypeId)):Prop extends Cs B0 w0 c S B rs w l where
 dr:aA SP wd w
section
variable {SP:Nat->Prop}{wd:World}{B0:Nat->Prop}{w0 w w':World}{c:Nat}{Sk T:Kor}{B B':Nat->Prop}{rs rs':List (Value×Pt)}{l:List (Nat×Array Value×TypeId)}{P:Program}{ops:Array Oper}{o:Oper}{a:Act}{Q:Exit->Act->World->Prop}{md:Region.Mode}{S:World->Prop}{fuel:Nat}{L:Array Bool}
theorem Ds.keeps(h:Ds SP wd B0 w0 c Sk B rs w l)(k:aA aB w w'):Ds SP wd B0 w0 c Sk B rs w' l:=⟨h.toCs.keeps k,h.dr.trans k.any⟩
theorem Ds.laid(h:Ds SP wd B0 w0 c Sk B rs w l)(hSP:∀i,i<wd.heap.size->B i->SP i){v:Value}{p:Pt}(hp:aQ w' B' v p)(hk:KI w' c T B')(hb:∀k,B' k->B k\/w.heap.size≤k)(hn:dR w v)(k:aA B w w'):Ds SP wd B0 w0 c T B' ((v,p)::rs) w' l:=
 ⟨h.toCs.laid hp hk hb hn k,h.dr.trans' k (fun _ _ e=>e) hSP⟩
theorem Ds.own(h:Ds B wd B0 w0 c Sk B rs wd l)(k:aA B wd w')(i:Nat){b:Nat}{cs:Array Value}{t:TypeId}(hi:l[i]?=some (b,cs,t):=by rfl):w'.heap[b]?=some (.cells cs t (0,0)):=k.blk (h.b i hi) fun e=>h.loc.ap _ (List.mem_of_getElem? hi) (.inl e)
end
theorem F3{P:Program}{ops:Array Oper}{Q:Exit->Act->World->Prop}{id:Nat}{a:Act}{B0:Nat->Prop}{w0 w:World}{c:Nat}{Sk:Kor}{B:Nat->Prop}{rs:List (Value×Pt)}{l:List (Nat×Array Value×TypeId)}(SP:Nat->Prop)(HL:Hid (Cs B0 w0 c Sk B rs w l))(hm:P.follows .mixedOrders=true)
 (h:∀wd (S:World->Prop),Hid (∀w',S w'->aA SP wd w')->Hid (∀w',aA SP wd w'->S w')->aA aB w wd->Hid (Ds SP wd B0 w0 c Sk B rs wd l)->wpAnyH P .any ops (Af Q) S ops.size (Array.replicate ops.size false) a wd):(Code.region id ops true).wp P Q a w:=by
 have hd:=(aA.refl aB w).drew;exact fF (S:=fun w'=>aA SP w.drew w') hm (h w.drew (fun w'=>aA SP w.drew w') (O fun _ h=>h) (O fun _ h=>h) hd (O ⟨HL.out.keeps hd,aA.refl _ _⟩))
theorem ldD{P:Program}{ops:Array Oper}{S:World->Prop}{o:Oper}{a:Act}(ty:TypeId)(x:Operand)(b k:Nat)(cs:List Value)(d:TypeDesc)(hc:∀w,S w->w.rangeAt b k cs)(hu:P.underlying ty=some d)(hi:(P.info? ty).map (·.size)=some cs.length)(hw:Region.wanted o (yielded ops a.tmps)=true:=by rfl)
 (ho:o.op=.load ty x:=by rfl) (hx:a.eval x=.pointer (some ⟨b,k,none⟩):=by rfl) (hd:d.isRow=true:=by rfl):YieldsIf P ops S o (.agg cs.toArray) a:=
 yieldsIf_load_mid hw ty x ho b k hx cs d hc hu hd hi
theorem sD9 {SP:Nat->Prop}{wd:World}{B0:Nat->Prop}{w0 w:World}{c:Nat}{Sk:Kor}{B:Nat->Prop}{rs:List (Value×Pt)}{l:List (Nat×Array Value×TypeId)}{S:World->Prop}(h:Hid (∀w',aA SP wd w'->S w'))(k:Hid (Ds SP wd B0 w0 c Sk B rs w l)):S w:=h.out _ k.out.dr
def gC(e:Int):List PanicEntry:=[{ v:=.iface 100 (.agg #[.int .i64 e]),recovered:=false }]
theorem Kt(e:Int)(w:World):(Instr.build 100 #[(0,.int .i64 e)]).run Tryz.prog w=.ok (.agg #[.int .i64 e]) w:=by kernel_rfl
def jH(w:World)(c:Nat)(B:Nat->Prop)(r:Option Tr)(T:Kor)(e:Ending)(w':World):Prop:=
 match r with
 | some t=>∃v B',e=.returned (.agg (aE v t.ptr).toArray)/\aQ w' B' v t.ptr/\KI w' c T B'/\(∀k,B' k->B k\/w.heap.size≤k)/\Cl w w' B B'/\dR w v/\aA B w w'
 | none=>e=.panicked (gC 15)/\aA B w w'
def Dg(w:World)(c:Nat)(B:Nat->Prop)(r:Option (Pt×Kor))(e:Ending)(w':World):Prop:=
 match r with
 | some (p,T)=>∃v B',e=.returned (.agg (aE v p).toArray)/\aQ w' B' v p/\KI w' c T B'/\(∀k,B' k->B k\/w.heap.size≤k)/\Cl w w' B B'/\dR w v/\aA B w w'
 | none=>e=.panicked (gC 15)/\aA B w w'
theorem Bb{w:World}{c:Nat}{S:Kor}{B:Nat->Prop}(hK:KI w c S B){lv:Nat}(hlv:lv≤3){vv:Value}{bs:List UInt8}(hbl:bs.length=256)(hr:Rd w 1 vv 256 (bs.map vb))(hvb:∀i,vv.ownBlock=some i->¬B i):Calls Tryz.prog 55 #[.pointer (some ⟨c,0,none⟩),.int .i64 (lv:Int),vv] w (Dg w c B (S.put lv bs)):=by
 have HL:=O (Cs.start hK);have HCL:=O (Cl.refl w w B (aA.refl _ _));obtain⟨va,vc,rfl,-,-⟩:=hr.form;have HR:=O hr;have HBL:=O hbl;have HVB:=O hvb;obtain⟨r,hpr⟩:∃r,S.put lv bs=r:=⟨_,rfl⟩
 have HPR:=O hpr;rw[hpr];have hzp:(aE (.slice none 0 0) zPt).length=35:=rfl;have hzb:=iJ;obtain⟨zp,hzpe⟩:∃l,aE (.slice none 0 0) zPt=l:=⟨_,rfl⟩
 have HOZP:Hid (∀u∈zp,u.oneCell'=true):=O (by rw[←hzpe];exact bR zPt);have HZPE:=O hzpe;rw[hzpe] at hzp hzb;have HZB:=O hzb;clear hzpe hzb;clear hr hbl hvb hpr hK;go_enter Tryz.func55,Tryz.ntmps55
 go_wp2_with ((with_reducible show WL _ _);refine al 35 (.agg aK.toArray) (aK.toArray) bJ ?_)
 intro b6 w1 hbs hk hb;replace HL:=O (HL.out.new (trivial) hbs hk hb);replace HR:=O (HR.out.keep hk fun _ _=>id);replace HCL:=O (HCL.out.trans (Cl.refl _ _ _ hk));clear hbs hk hb;go_wp2_with fail;have HW1:=O HL.out.keep;refine((by have h:=KI.put HL.out.ki (lv:=lv) hlv HBL.out HR.out HVB.out;rw[HPR.out] at h;exact h:Calls _ _ _ w1 (sB w1 c B r S))).mono ?_;rintro e w2 hm;cases r with
 | none =>
   obtain⟨rfl,-,hk⟩:=hm;replace HL:=O (HL.out.keeps hk);have hbf:=Kt 15;rw[HZPE.out];clear hk HR HCL HW1
   go_wp2_with ((with_reducible show WL _ _);refine al 35 (.agg aK.toArray) (aK.toArray) bJ ?_)
   intro b7 w3 hbs hk0 hb0_
   go_wp2_with ((with_reducible show WL _ _);refine sta 35 (.tmp 7) (.tmp 14) b7 0 zp hb0_ (by first|decide|(rw[List.size_toArray,hzp];exact Nat.le_refl _)|simp[hzp,aH]) (szP9 hzp) HOZP.out ?_)
   intro w4 hk hb;rw[aG _ _ (by first|rfl|(rw[List.size_toArray,hzp];rfl)|simp[hzp,aH])] at hb;replace hk:=hk0.trans' hk (U:=aB) (fun _ _ h=>h) (fun i hi e=>by omega);replace HL:=O (HL.out.new (trivial) hbs hk hb);clear hbs hk hb hk0 hb0_;go_wp2_with fail;have HP:Hid (Dg w c B none (.panicked (gC 15)) w4):=O ⟨rfl,HL.out.keep⟩;go_wp2_with fail;exact⟨rfl,HP.out⟩
 | some x =>
   obtain⟨p,T⟩:=x;obtain⟨v,B',rfl,hpv,hki,hbb,hcl,hnw,hk⟩:=hm;have HNW:=O (hnw.from HW1.out.size);replace HCL:=O (HCL.out.trans hcl);replace HL:=O (HL.out.laid hpv hki hbb hnw hk);obtain⟨qc,HQC,hqc,HOQ⟩:=nmP hpv;rw[HQC.out];clear hpv hki hbb hcl hnw hk HR HW1
   go_wp2_with ((with_reducible show WL _ _);refine al 35 (.agg aK.toArray) (aK.toArray) bJ ?_)
   intro b7 w3 hbs hk0 hb0_
   go_wp2_with ((with_reducible show WL _ _);refine sta 35 (.tmp 7) (.tmp 14) b7 0 qc hb0_ (by first|decide|(rw[List.size_toArray,hqc];exact Nat.le_refl _)|simp[hqc,aH]) (szP9 hqc) HOQ.out ?_)
   intro w4 hk hb;rw[aG _ _ (by first|rfl|(rw[List.size_toArray,hqc];rfl)|simp[hqc,aH])] at hb;replace hk:=hk0.trans' hk (U:=aB) (fun _ _ h=>h) (fun i hi e=>by omega);replace HL:=O (HL.out.new (trivial) hbs hk hb);replace HCL:=O (HCL.out.trans (Cl.refl _ _ _ hk));clear hbs hk hb hk0 hb0_
   go_wp2_with ((with_reducible show WL _ _);first
    | refine wpList_load_mid rfl 35 (.tmp 7) rfl b7 0 rfl qc _ (aD (HL.out.b 0)) aJ rfl (szP9 hqc) ?_
    | refine sta 35 (.tmp 6) (.tmp 21) b6 0 qc (HL.out.b 1) (by first|decide|(rw[hqc];exact Nat.le_refl _)|simp[hqc,aH]) (szP9 hqc) HOQ.out ?_)
   intro w5 hk hb;rw[aG _ _ (by first|rfl|simp[hqc,aH])] at hb;replace HL:=O (HL.out.set 1 hk hb);replace HCL:=O (Cl.onT HCL.out hk fun i hq e=>by rw[e] at hq;first|exact (HL.out.loc.aq 0) (.inl hq)|exact (HL.out.loc.aq 1) (.inl hq)|exact (HL.out.loc.aq 2) (.inl hq)|exact (HL.out.loc.aq 3) (.inl hq));clear hk hb;go_wp2_with fail;have HB6:=O (HL.out.b 1);have HP:Hid (Dg w c B (some (p,T)) (.returned (.agg qc.toArray)) w5):=O ⟨v,B',by rw[HQC.out],HL.out.pv0 0,HL.out.ki,HL.out.bb,HCL.out,HNW.out,HL.out.keep⟩;clear HL HCL;go_wp2_with fail;refine bodyPost_ret (results_cell_row rfl _ _ b6 _ _ _ _ rfl HB6.out aJ rfl (by rw[List.size_toArray,hqc];exact eB)) rfl ?_;exact HP.out
def uV(g o q:Nat)(k:Nat):Array Value:=#[.slice (some ⟨g,o+k*q,none⟩) q q]
theorem vT{w:World}{Res:Nat->Prop}{B1 B2 g o q cap L:Nat}(hL:L=4*q)(hq:1≤q)(hc:L≤cap)(hcap:cap≤maxLen)
 (h1:w.heap[B1]?=some (.cells #[.slice (some ⟨g,o,none⟩) L cap] 22 (0,0))) (h2:w.heap[B2]?=some (.cells #[.int .i64 (q:Int)] 3 (0,0))) (hR1:¬Res B1) (hR2:¬Res B2) :
 ∀(l:Nat) (J:Nat->World->Prop) (Jp:List PanicEntry->World->Prop) (W:World),(∀k W W',J k W->aA aB W W'->J k W')->aA aB w W->J 0 W ->
  (∀k W1,k<4->J k W1->YieldAt Fence.wide (3-1-1) Tryz.prog l (uV g o q k) W1 fun e W'=>(e=.returned (.bool true)/\J (k+1) W'/\KpC Res W1 W')\/(∃ch,e=.panicked ch/\Jp ch W')) ->
  CallsIn Fence.wide (3-1) Tryz.prog 142 (#[.func (.yield l) #[] #[]]++#[.pointer (some ⟨B1,0,none⟩),.pointer (some ⟨B2,0,none⟩)]) W fun e W'=>((∃v,e=.returned v)/\J 4 W')\/(∃ch,e=.panicked ch/\Jp ch W'):=by
 intro l J Jp W hJK hkW hJ0 hY;have HJK:=O hJK;clear hJK;have HS:=O (And.intro (hkW.blk h1 id) (hkW.blk h2 id));have HYY:=O hY;have HLQ:=O hL;unfold maxLen at hcap;clear h1 h2 hY hkW hL;refine callsIn_of_wp Tryz.func142 rfl trivial ?_ rfl;simp only[Tryz.ntmps142,List.size_toArray,List.length_cons,List.length_nil,Nat.reduceAdd,Nat.reduceSub,Array.replicate_succ,Array.replicate_zero,List.push_toArray,List.append_toArray,List.nil_append,List.cons_append]
 gi_wp2
 gi_loopw [4] (fun v wr=>∃k i:Nat,k≤4/\v=.int .i64 (i:Int)/\Hid (i=k*q)/\J k wr/\Hid (wr.heap[B1]?=some (.cells #[.slice (some ⟨g,o,none⟩) L cap] 22 (0,0))/\wr.heap[B2]?=some (.cells #[.int .i64 (q:Int)] 3 (0,0)))) (fun v _=>L-(intOf v).toNat)
 case atStart=>exact⟨0,0,by omega,rfl,O (by rw[Nat.zero_mul]),hJ0,HS⟩
 case round =>
  obtain⟨k,i,hk,rfl,HI,hJ,hH⟩:=hrel;have c1:=cell_of_one hH.out.1;have c2:=cell_of_one hH.out.2
  by_cases hlt:k<4
  ·have hle:i+q≤L:=by
    have h:=Nat.mul_le_mul_right q (show k+1≤4 by omega);rw[Nat.succ_mul] at h;have:=HI.out;have:=HLQ.out;omega
   have hil:(i:Int)<(L:Int):=by omega
   have hb0:(0:Int)≤(i:Int):=by omega
   have hmin:min (q:Int) ((L-i:Nat):Int)=(q:Int):=by omega
   have hmin2:min (q:Int) ((L:Int)-(i:Int))=(q:Int):=by omega
   have hne:¬i=cap:=by omega
   gi_wp2
   refine wpIn_wide.2 ?_
   go_quiet (fail)
   obtain⟨w1,hw1,hJ1,hH1⟩:∃w1,wr.drewN nq=w1/\J k w1/\Hid (w1.heap[B1]?=some (.cells #[.slice (some ⟨g,o,none⟩) L cap] 22 (0,0))/\w1.heap[B2]?=some (.cells #[.int .i64 (q:Int)] 3 (0,0))):=
    ⟨_,rfl,HJK.out k _ _ hJ ((aA.refl _ _).drewN _),hH⟩
   rw[hw1];clear hw1 hJ hH c1 c2;have c1:=cell_of_one hH1.out.1;have c2:=cell_of_one hH1.out.2;have hYk:=HYY.out k w1 hlt hJ1;unfold uV at hYk;rw[show o+k*q=o+i by rw[HI.out]] at hYk;obtain⟨fn,tmps,assign,body,hy,hR⟩:=hYk;have hwr:IntKind.i64.wrap ((i:Int)+(q:Int))=(i:Int)+(q:Int):=IntWalk.i64_in _ (by omega);have hi0:(0:Int)≤(i:Int)+(q:Int):=by omega
   have hi1:(i:Int)+(q:Int)≤(cap:Int):=by omega
   have hi2:(i:Int)≤(i:Int)+(q:Int):=by omega
   have hic:i+q≤cap:=by omega
   have hw64:(i:Int)+(q:Int)≤9223372036854775807:=by omega
   gi_wp2
   refine hR.mono ?_;rintro e W3 (⟨rfl,hJ3,hk3⟩|⟨ch,rfl,hJp⟩)
   ·have hH3:Hid (W3.heap[B1]?=some (.cells #[.slice (some ⟨g,o,none⟩) L cap] 22 (0,0))/\W3.heap[B2]?=some (.cells #[.int .i64 (q:Int)] 3 (0,0))):=O ⟨hk3 _ _ _ _ hR1 hH1.out.1,hk3 _ _ _ _ hR2 hH1.out.2⟩
    have c1':=cell_of_one hH3.out.1;have c2':=cell_of_one hH3.out.2;have hJ4:=O hJ3;clear hJ3 hk3 hJ1 hR hy hH1 c1 c2
    gi_wp2
    go_roundw
    case rel=>exact⟨k+1,i+q,by omega,by first|rfl|go_num|(congr 1;omega),O (by rw[Nat.succ_mul,HI.out]),hJ4.out,hH3⟩
    case measure=>simp[intOf];omega
   ·have HJP:=O hJp
    clear hJp;exact⟨rfl,.inr ⟨ch,rfl,HJP.out⟩⟩
  ·obtain rfl:k=4:=by omega
   have hil:¬(i:Int)<(L:Int):=by have:=HI.out;have:=HLQ.out;omega
   gi_wp2
   go_end0
   exact .inl ⟨⟨_,rfl⟩,hJ⟩
def xF(l:Nat):Prop:=∀{w:World}{c:Nat}{S:Kor}{B:Nat->Prop}(_:KI w c S B) (vv:Value) (bs:List UInt8) (_:bs.length=256*4 ^ l) (_:Rd w 1 vv bs.length (bs.map vb)) (_:∀i,vv.ownBlock=some i->¬B i) (r:Option Tr) (T:Kor) (_:dD l S bs=(r,T)),
 Calls Tryz.prog 27 #[.pointer (some ⟨c,0,none⟩),vv,.int .i64 (l:Int)] w (jH w c B r T)
theorem Dh{l:Nat}(H:xF l){w:World}{c:Nat}{S:Kor}{B:Nat->Prop}(hK:KI w c S B)(vv:Value)(bs:List UInt8)(hbl:bs.length=256*4 ^ l)(hr:Rd w 1 vv bs.length (bs.map vb))(hvb:∀i,vv.ownBlock=some i->¬B i)(r:Option Tr)(T:Kor)(hm:dD l S bs=(r,T))(hl:l≤3)
 {b1 b2:Nat}(hb1:w.heap[b1]?=some (.cells #[.pointer (some ⟨c,0,none⟩)] 25 (0,0))) (hb2:w.heap[b2]?=some (.cells #[.int .i64 ((l+1:Nat):Int)] 3 (0,0))):Calls Tryz.prog 57 #[vv,.pointer (some ⟨b1,0,none⟩),.pointer (some ⟨b2,0,none⟩)] w (jH w c B r T):=by
 have HL:=O (Cs.start hK);have HCL:=O (Cl.refl w w B (aA.refl _ _));have HH:Hid (xF l):=O H;have HBL:=O hbl;have HVB:=O hvb;have HM:=O hm;have HR:=O hr;have HB1:=O hb1;have HB2:=O hb2;have hw64:IntKind.i64.wrap ((l:Int)+1-1)=(l:Int):=by rw[Int.add_sub_cancel];exact IntWalk.i64_in _ (by omega)
 obtain⟨va,vc,rfl,-,-⟩:=hr.form;obtain⟨m,hmm⟩:∃m,bs.length=m:=⟨_,rfl⟩
 have HMM:=O hmm;rw[hmm] at HR HVB ⊢;clear hr hbl hvb hm hK hb1 hb2 hmm H;go_enter Tryz.func57,Tryz.ntmps57
 go_wp2_with ((with_reducible show WL _ _);refine al 35 (.agg aK.toArray) (aK.toArray) bJ ?_)
 intro b4 w1 hbs hk hb;replace HL:=O (HL.out.new (trivial) hbs hk hb);replace HR:=O (HR.out.keep hk fun _ _=>id);replace HCL:=O (HCL.out.trans (Cl.refl _ _ _ hk));replace HB1:=O (hk.blk HB1.out id);replace HB2:=O (hk.blk HB2.out id);clear hbs hk hb;have c1:w1.cell? ⟨b1,0,none⟩=some (.pointer (some ⟨c,0,none⟩)):=(cell_of_one HB1.out)
 have c2:w1.cell? ⟨b2,0,none⟩=some (.int .i64 ((l+1:Nat):Int)):=(cell_of_one HB2.out)
 go_wp2_with fail;clear c1 c2;have HW1:=O HL.out.keep;refine((HH.out HL.out.ki (.slice va m vc) bs HBL.out (by rw[HMM.out];exact HR.out) HVB.out r T HM.out:Calls _ _ _ w1 (jH w1 c B r T))).mono ?_;rintro e w2 hm;cases r with
 | none =>
   obtain⟨rfl,hk⟩:=hm;have HP:Hid (jH w c B none T (.panicked (gC 15)) w2):=O ⟨rfl,HW1.out.trans' hk (fun _ _ h=>h) (fun _ _ h=>h)⟩;go_wp2_with fail;exact⟨rfl,HP.out⟩
 | some t =>
   obtain⟨v,B',rfl,hpv,hki,hbb,hcl,hnw,hk⟩:=hm;have HNW:=O (hnw.from HW1.out.size);replace HCL:=O (HCL.out.trans hcl);replace HL:=O (HL.out.laid hpv hki hbb hnw hk);obtain⟨qc,HQC,hqc,HOQ⟩:=nmP hpv;rw[HQC.out];clear hpv hki hbb hcl hnw hk HR HW1 HB1 HB2
   go_wp2_with ((with_reducible show WL _ _);refine sta 35 (.tmp 4) (.tmp 9) b4 0 qc (HL.out.b 0) (by first|decide|(rw[hqc];exact Nat.le_refl _)|simp[hqc,aH]) (szP9 hqc) HOQ.out ?_)
   intro w3 hk hb;rw[aG _ _ (by first|rfl|simp[hqc,aH])] at hb;replace HL:=O (HL.out.set 0 hk hb);replace HCL:=O (Cl.onT HCL.out hk fun i hq e=>by rw[e] at hq;first|exact (HL.out.loc.aq 0) (.inl hq)|exact (HL.out.loc.aq 1) (.inl hq)|exact (HL.out.loc.aq 2) (.inl hq)|exact (HL.out.loc.aq 3) (.inl hq));clear hk hb;have HB6:=O (HL.out.b 0);have HP:Hid (jH w c B (some t) T (.returned (.agg qc.toArray)) w3):=O ⟨v,B',by rw[HQC.out],HL.out.pv0 0,HL.out.ki,HL.out.bb,HCL.out,HNW.out,HL.out.keep⟩;clear HL HCL;go_wp2_with fail;refine bodyPost_ret (results_cell_row rfl _ _ b4 _ _ _ _ rfl HB6.out aJ rfl (by rw[List.size_toArray,hqc];exact eB)) rfl ?_;exact HP.out
theorem zC(v:Value)(w:World)(q:Nat)(hq:1≤q)(hv:∃a n c,v=.slice a n c) :
 Calls Tryz.prog 84 #[v,.int .i64 (q:Int)] w fun e w'=>∃B1 B2,e=.returned (.func (.func 142) #[] #[.pointer (some ⟨B1,0,none⟩),.pointer (some ⟨B2,0,none⟩)])/\w'.heap[B1]?=some (.cells #[v] 22 (0,0))/\w'.heap[B2]?=some (.cells #[.int .i64 (q:Int)] 3 (0,0))/\w.heap.size≤B1/\w.heap.size≤B2/\aA aB w w':=by
 obtain⟨a,n,c,rfl⟩:=hv;have hq1:¬((q:Int)<1):=by omega
 have HL:=O (Loc.nil aB aB w);go_enter Tryz.func84,Tryz.ntmps84
 go_wp2_with ((with_reducible show WL _ _);refine bxL HL 22 (.tmp 0) (#[.slice a n c]) ?_)
 intro b2 w1 hk HL;clear hk
 go_wp2_with ((with_reducible show WL _ _);refine bxL HL 3 (.tmp 1) (#[.int .i64 (q:Int)]) ?_)
 intro b3 w2 hk HL;clear hk;have HP:=O (And.intro (HL.out.b 1) (And.intro (HL.out.b 0) (And.intro (HL.out.lt 1).1 (And.intro (HL.out.lt 0).1 HL.out.keep))));have c1:w2.cell? ⟨b3,0,none⟩=some (.int .i64 (q:Int)):=(aC (i:=0) (HL.out.b 0) rfl)
 go_wp2_with fail;clear c1;go_ret;exact⟨_,_,rfl,HP.out.1,HP.out.2.1,HP.out.2.2.1,HP.out.2.2.2.1,HP.out.2.2.2.2⟩
def eQ(vs:Nat->Value)(ks:Nat->Pt)(k:Nat):List Value:=(List.range k).flatMap fun i=>aE (vs i) (ks i)
theorem F4(vs:Nat->Value)(ks:Nat->Pt)(k:Nat):eQ vs ks (k+1)=eQ vs ks k++aE (vs k) (ks k):=by
 unfold eQ;rw[List.range_succ,List.flatMap_append,List.flatMap_singleton]
theorem DZ{vs vs':Nat->Value}{ks ks':Nat->Pt}{k:Nat}(h:∀i,i<k->vs i=vs' i/\ks i=ks' i):eQ vs ks k=eQ vs' ks' k:=by
 unfold eQ
 induction k with
 | zero=>rfl
 | succ k ih =>
   rw[List.range_succ,List.flatMap_append,List.flatMap_append,List.flatMap_singleton,List.flatMap_singleton,ih fun i hi=>h i (by omega),(h k (by omega)).1,(h k (by omega)).2]
theorem zD{lay:Kor->List UInt8->Option Tr×Kor}{l:Nat}{S:Kor}{b:List UInt8}:∀{i j:Nat},(eP lay l S b i).1=none->i≤j->(eP lay l S b j).1=none
 | i,0,h,hij=>by
    obtain rfl:i=0:=by omega
    exact h
 | i,j+1,h,hij=>by
   by_cases e:i=j+1
   ·rw[←e];exact h
   ·have ih:=zD (i:=i) (j:=j) h (by omega)
    unfold eP;cases hm:eP lay l S b j with
    | mk r T =>
      rw[hm] at ih;simp only at ih;subst ih;rfl
def kS(w0:World)(B0:Nat->Prop)(c:Nat)(N0 l:Nat)(bs:List UInt8)(S0:Kor)(bo b3:Nat)(cl:Array Value×TypeId)(k:Nat)(W:World):Prop:=
 (W.heap[b3]?=some (.cells cl.1 cl.2 (0,0))/\b3<N0/\b3≠bo/\¬B0 b3)/\∃kk T vs v B',eP (dD l) l S0 bs k=(some kk,T)/\W.heap[bo]?=some (.cells #[v] 39 (0,0))/\W.ownsRow N0 35 35 v k (eQ vs (fun i=>(kk i).ptr) k) /\
   (∀i,i<k->aQ W B' (vs i) (kk i).ptr/\dR w0 (vs i)/\∀b,(vs i).ownBlock=some b->N0≤b/\¬v.ownBlock=some b) /\
   KI W c T B'/\(∀i,B' i->B0 i\/N0≤i)/\Cl w0 W B0 B'/\(∀i,v.ownBlock=some i->¬B' i)/\(w0.heap.size≤N0/\N0≤W.heap.size)/\aA B0 w0 W
theorem kS.keep0{w0 W W':World}{B0:Nat->Prop}{c N0 l:Nat}{bs:List UInt8}{S0:Kor}{bo b3 k:Nat}{cl:Array Value×TypeId}(h:kS w0 B0 c N0 l bs S0 bo b3 cl k W)(hk:aA aB W W'):kS w0 B0 c N0 l bs S0 bo b3 cl k W':=by
 obtain⟨h0,kk,T,vs,v,B',h1,h2,h3,h4,h5,h6,h7,h8,h9,h10⟩:=h;exact⟨⟨hk.blk h0.1 id,h0.2⟩,kk,T,vs,v,B',h1,hk.blk h2 id,hk.owns h3 fun _ _=>id,fun i hi=>⟨(h4 i hi).1.keep0 hk,(h4 i hi).2⟩,h5.keep0 hk,h6,h7.trans (Cl.refl _ _ _ hk),h8,⟨h9.1,Nat.le_trans h9.2 hk.size⟩,h10.trans hk.any⟩
theorem pG{W:World}{l i:Nat}{o:Obj}(ho:W.heap[l]?=some o)(hc:o.isCells=false)(h:IsC W i):l≠i:=fun e=>by
 obtain⟨cs,t,h⟩:=h;rw[←e,ho] at h;cases h
 cases hc
theorem kS.put{w0 W:World}{B0:Nat->Prop}{c N0 l:Nat}{bs:List UInt8}{S0:Kor}{bo b3 k:Nat}{cl:Array Value×TypeId}(h:kS w0 B0 c N0 l bs S0 bo b3 cl k W)(hB0:∀i,B0 i->i<w0.heap.size){j:Nat}{o:Obj}(hj:N0≤j)(ho:W.heap[j]?=some o)(hc:o.isCells=false)(o':Obj):kS w0 B0 c N0 l bs S0 bo b3 cl k (W.putObj j o'):=by
 obtain⟨h0,kk,T,vs,v,B',h1,h2,h3,h4,h5,h6,h7,h8,h9,h10⟩:=h;have kd:aA (fun i=>some j=some i) W (W.putObj j o'):=aA.of_grown (grownBy_putObj' W j o')
 have nb:∀i,some j=some i->¬B' i:=fun i e hb=>by
  injection e with e
  subst e;rcases h7 j hb with h|h
  ·exact pG ho hc h rfl
  ·have:=hB0 j h.1;omega
 refine⟨⟨kd.blk h0.1 (fun e=>by injection e with e;have:=h0.2.1;omega),h0.2⟩,kk,T,vs,v,B',h1,kd.blk h2 (fun e=>?_),kd.owns h3 fun i hi e=>?_,fun i hi=>⟨(h4 i hi).1.keepT kd fun b hb e=>?_,(h4 i hi).2⟩,h5.keepT kd nb,h6,Cl.onT h7 kd fun i hb e=>nb i e hb,h8,⟨h9.1,Nat.le_trans h9.2 kd.size⟩,h10.trans' kd (fun _ _ h=>h) fun i hi e=>?_⟩
 ·injection e with e
  exact pG ho hc ⟨_,_,h2⟩ e
 ·injection e with e
  obtain⟨cur,hcu⟩:=aL h3 hi;exact pG ho hc ⟨_,_,hcu⟩ e
 ·injection e with e
  exact pG ho hc ((h4 i hi).1.off b hb).2 e
 ·injection e with e
  omega
theorem kS.step{w0 W wd w3 w4 w8 w9:World}{B0 B' B1:Nat->Prop}{c N0 l:Nat}{bs:List UInt8}{S0 T U:Kor}{bo b3 k:Nat}{cl:Array Value×TypeId}{kk:Nat->Tr}{vs:Nat->Value}{v v1 v2:Value}{u:Tr}
 (h0:W.heap[b3]?=some (.cells cl.1 cl.2 (0,0))/\b3<N0/\b3≠bo/\¬B0 b3) (h1:eP (dD l) l S0 bs k=(some kk,T)) (h4:∀i,i<k->aQ W B' (vs i) (kk i).ptr/\dR w0 (vs i)/\∀b,(vs i).ownBlock=some b->N0≤b/\¬v.ownBlock=some b) (h3:W.ownsRow N0 35 35 v k (eQ vs (fun i=>(kk i).ptr) k))
 (h6:∀i,B' i->B0 i\/N0≤i) (h7:Cl w0 W B0 B') (h8:∀i,v.ownBlock=some i->¬B' i) (h9:w0.heap.size≤N0/\N0≤W.heap.size) (h10:aA B0 w0 W) (hbo:bo<N0/\w0.heap.size≤bo) (hB0:∀i,B0 i->i<w0.heap.size)
 (kd:aA aB W wd) (hm:dD l T (bG l bs k)=(some u,U)) (hp:aQ w3 B1 v1 u.ptr) (hki:KI w3 c U B1) (hb1:∀i,B1 i->B' i\/wd.heap.size≤i) (hcl:Cl wd w3 B' B1) (hnw:dR wd v1) (k3:aA B' wd w3)
 (k4:aA aB w3 w4) (k8:aA (fun i=>v.ownBlock=some i) w4 w8) (ho8:w8.ownsRow N0 35 35 v2 (k+1) (eQ vs (fun i=>(kk i).ptr) k++aE v1 u.ptr)) (hv2:v2.ownBlock=v.ownBlock\/v2.ownBlock=some w4.heap.size)
 (k9:aA (fun i=>i=bo) w8 w9) (h99:w9.heap[bo]?=some (.cells #[v2] 39 (0,0))) :
 kS w0 B0 c N0 l bs S0 bo b3 cl (k+1) w9/\KpN N0 W w9/\KpC (fun i=>B0 i\/i=bo\/N0≤i) W w9:=by
 have s3:=k3.size;have s4:=k4.size;have s8:=k8.size;have sd:=kd.size;have vlt:∀i,v.ownBlock=some i->N0≤i/\i<W.heap.size:=fun i hi=>⟨aR h3 hi,by obtain⟨cur,hc⟩:=aL h3 hi;exact lt_of_block hc⟩
 have B1lt:∀i,B1 i->B0 i\/N0≤i:=fun i hi=>(hb1 i hi).elim (h6 i) fun e=>.inr (by omega)
 have vB1:∀i,v.ownBlock=some i->¬B1 i:=fun i hi e=>(hb1 i e).elim (h8 i hi) fun e=>by have:=(vlt i hi).2;omega
 have bB1:∀i,i=bo->¬B1 i:=fun i hi e=>by
  rcases B1lt i e with e|e
  ·have:=hB0 i e;omega
  ·omega
 have k38:aA (fun i=>v.ownBlock=some i) w3 w8:=k4.any.trans k8;have k39:aA (fun i=>v.ownBlock=some i\/i=bo) w3 w9:=k38.trans' k9 (fun _ _ h=>.inl h) (fun _ _ h=>.inr h)
 have n1:∀i,v1.ownBlock=some i->¬(v.ownBlock=some i\/i=bo):=fun i hi e=>by
  have:=hnw i hi;rcases e with e|e
  ·have:=(vlt i e).2;omega
  ·omega
 have v2B:∀i,v2.ownBlock=some i->¬B1 i:=fun i hi e=>by
  rcases hv2 with e2|e2
  ·rw[e2] at hi;exact vB1 i hi e
  ·rw[e2] at hi;injection hi with hi
   have:=hki.lt e;omega
 have hn4:dR w0 v1:=hnw.from (by have:=h10.size;omega)
 have hnew:∀b,v1.ownBlock=some b->N0≤b/\¬v2.ownBlock=some b:=fun b hb=>by
  have h:=hnw b hb;refine⟨by omega,fun e=>?_⟩;rcases hv2 with e2|e2
  ·rw[e2] at e;have:=(vlt b e).2;omega
  ·rw[e2] at e;injection e with e;have:=(hp.off b hb).2.lt;omega
 have kW:aA (fun i=>B' i\/v.ownBlock=some i\/i=bo) W w9:=(kd.any.trans (k3.mono fun _ _ h=>.inl h)).trans' k39 (fun _ _ h=>h) fun i _ h=>.inr h
 refine⟨⟨⟨kW.blk h0.1 (fun e=>e.elim (fun e=>(h6 _ e).elim h0.2.2.2 fun e=>by have:=h0.2.1;omega) fun e=>e.elim (fun e=>by have:=(vlt _ e).1;have:=h0.2.1;omega) h0.2.2.1),h0.2⟩,tV kk k u,U,fun i=>if i=k then v1 else vs i,v2,B1,?_,h99,?_,?_,hki.keepT k39 ?_,B1lt,?_,v2B,⟨h9.1,Nat.le_trans h9.2 kW.size⟩,?_⟩,KpN.of kW ?_,KpC.of kW ?_⟩
 ·unfold eP
  rw[h1];simp only[];rw[hm]
 ·rw[F4]
  simp only[if_pos];rw[iQ,DZ (vs':=vs) (ks':=fun i=>(kk i).ptr) fun i hi=>⟨by rw[if_neg (by omega)],by rw[gE _ _ (by omega)]⟩];exact k9.owns ho8 fun i hi e=>by have:=aR ho8 hi;omega
 ·intro i hi
  by_cases e:i=k
  ·subst e
   simp only[if_pos];rw[iQ];exact⟨hp.keepT k39 n1,hn4,hnew⟩
  ·simp only[if_neg e]
   rw[gE _ _ e];obtain⟨a1,a2,a3⟩:=h4 i (by omega);refine⟨(((a1.keep0 kd).keep k3 hb1)).keepT k39 fun b hb e=>?_,a2,fun b hb=>⟨(a3 b hb).1,fun e=>?_⟩⟩
   ·rcases e with e|e
    ·exact(a3 b hb).2 e
    ·have:=(a3 b hb).1;omega
   ·rcases hv2 with e2|e2
    ·rw[e2] at e;exact(a3 b hb).2 e
    ·rw[e2] at e;injection e with e;have:=(a1.off b hb).2.lt;omega
 ·rintro i (e|e) hb
  ·exact vB1 i e hb
  ·exact bB1 i e hb
 ·exact Cl.onT ((h7.trans (Cl.refl _ _ _ kd)).trans hcl) k39 fun i hb e=>e.elim (fun e=>vB1 i e hb) fun e=>bB1 i e hb
 ·exact h10.trans' kW (fun _ _ h=>h) fun i hi e=>by
   rcases e with e|e|e
   ·exact(h6 i e).elim id fun e=>by omega
   ·have:=(vlt i e).1;omega
   ·omega
 ·intro i o e hn ho
  rcases e with e|e|e
  ·rcases h7 i e with⟨cs,t,hc⟩|hc
   ·rw[hc] at ho;cases ho;rfl
   ·have:=hB0 i hc.1;omega
  ·obtain⟨cur,hc⟩:=aL h3 e
   rw[hc] at ho;cases ho;rfl
  ·omega
 ·rintro i (e|e|e)
  ·exact(h6 i e).imp id .inr
  ·exact .inr (.inr (vlt i e).1)
  ·exact .inr (.inl e)
theorem Bc{w:World}{g o l q k:Nat}{bs:List UInt8}(hbl:bs.length=256*4 ^ (l+1))(hq:256*4 ^ l=q)(hk:k<4)(hq2:q≤4096)(h:w.rangeAt g o (bs.map vb)):Rd w 1 (.slice (some ⟨g,o+k*q,none⟩) q q) (bG l bs k).length ((bG l bs k).map vb):=by
 have hp:=gL hbl hk;refine⟨by simp,some ⟨g,o+k*q,none⟩,q,by rw[hp,hq],by rw[hp,hq];exact Nat.le_refl _,by unfold maxLen;omega,(fun e=>by cases e),fun _=>⟨g,o+k*q,rfl,fun j v hj=>?_⟩⟩;rw[List.getElem?_map] at hj;unfold bG at hj;rw[hq,List.getElem?_take] at hj;split at hj
 ·rw[List.getElem?_drop] at hj
  have:=h (k*q+j) v (by rw[List.getElem?_map];exact hj)
  rwa [←Nat.add_assoc] at this
 ·cases hj
theorem Be(T:Array Value)(p:Tmp)(a:Value):((#[p].zip #[a]).foldl (fun(t:Array Value) (x:Tmp×Value)=>match x with|(p,v)=>t.setIfInBounds p v) T)=T.setIfInBounds p a:=by simp
def Ap(w:World)(c:Nat)(B:Nat->Prop)(r:Option (Nat->Tr))(T:Kor)(e:Ending)(w':World):Prop:=
 match r with
 | some kk=>∃v vs B',e=.returned v/\w'.ownsRow w.heap.size 35 35 v 4 (eQ vs (fun i=>(kk i).ptr) 4)/\fI w' B' vs (fun i=>(kk i).ptr)/\(∀i,i<4->dR w (vs i))/\KI w' c T B'/\(∀i,B' i->B i\/w.heap.size≤i)/\Cl w w' B B'/\(∀i,v.ownBlock=some i->¬B' i)/\aA B w w'
 | none=>e=.panicked (gC 15)/\aA B w w'
theorem K5:Hid (∀w,(zeroValue 39).run Tryz.prog w=.ok (.slice none 0 0) w):=O fun w=>by kernel_rfl
theorem F5{l:Nat}(H:xF l)(hl:l≤2){w:World}{c:Nat}{S:Kor}{B:Nat->Prop}(hK:KI w c S B)(vv:Value)(bs:List UInt8)(hbl:bs.length=256*4 ^ (l+1))(hr:Rd w 1 vv bs.length (bs.map vb))(hvb:∀i,vv.ownBlock=some i->¬B i)(r:Option (Nat->Tr))(T:Kor)(hm:eP (dD l) l S bs 4=(r,T))
 {b1 b2:Nat}(hb1:w.heap[b1]?=some (.cells #[.pointer (some ⟨c,0,none⟩)] 25 (0,0))) (hb2:w.heap[b2]?=some (.cells #[.int .i64 ((l+1:Nat):Int)] 3 (0,0))) (hn1:¬B b1) (hn2:¬B b2):Calls Tryz.prog 56 #[vv,.func (.func 57) #[] #[.pointer (some ⟨b1,0,none⟩),.pointer (some ⟨b2,0,none⟩)]] w (Ap w c B r T):=by
 have HH:Hid (xF l):=O H;have HBLT:=O (fun i (e:B i)=>hK.lt e);have HK:=O hK;have HVB:=O hvb;have HM:=O hm;have HB1:=O hb1;have HB2:=O hb2;have HN12:=O (And.intro hn1 hn2);obtain⟨q,hq⟩:∃q,256*4 ^ l=q:=⟨_,rfl⟩
 have hq1:1≤q:=by rw[←hq];exact Nat.mul_pos (by omega) (Nat.pos_of_ne_zero (by simp))
 have hq2:q≤4096:=by rw[←hq];exact Nat.mul_le_mul_left 256 (Nat.pow_le_pow_right (by omega) hl:4 ^ l≤4 ^ 2)
 obtain⟨L,hL⟩:∃L,bs.length=L:=⟨_,rfl⟩
 have hL4:L=4*q:=by rw[←hL,hbl,←hq,Nat.pow_succ];omega
 have HBL:=O hbl;have HQ:=O hq;have HLE:=O hL;have HL4:=O hL4;obtain⟨va,cap,rfl,hcap,hrd⟩:=wQ hr;obtain⟨g,o,rfl,hra⟩:=hrd (by omega);rw[hL] at hcap ⊢;have HCAP:=O hcap;have HRA:=O hra;have HGB:=O (hvb g rfl)
 have HGL:Hid (g<w.heap.size):=O (by
  obtain⟨x,hx⟩:∃x,bs[0]?=some x:=⟨_,List.getElem?_eq_getElem (by omega)⟩
  exact World.block_lt_of_cell? w _ (hra 0 (vb x) (by rw[List.getElem?_map,hx];rfl)))
 have hdiv:(L:Int).tdiv 4=(q:Int):=by rw[hL4,Int.tdiv_eq_ediv_of_nonneg (by omega)];omega
 have hLL:L≤16384:=by omega
 have HL:=O (Loc.nil aB aB w);clear hr hbl hvb hm hK hb1 hb2 hn1 hn2 H hrd hra hL hq hL4;refine sP Tryz.func56 rfl ?_;simp only[Tryz.ntmps56,List.size_toArray,List.length_cons,List.length_nil,Nat.reduceAdd,Nat.reduceSub,Array.replicate_succ,Array.replicate_zero,List.push_toArray,List.append_toArray,List.nil_append,List.cons_append];refine lS ?_
 go_wp2_with ((with_reducible show WL _ _);refine bxL HL 106 (.tmp 1) (#[.func (.func 57) #[] #[.pointer (some ⟨b1,0,none⟩),.pointer (some ⟨b2,0,none⟩)]]) ?_)
 intro b3 w1 hk HL;clear hk;go_wp2_with fail;refine lS ?_
 go_wp2_with ((with_reducible show WL _ _);refine alL HL 39 (.slice none 0 0) (#[.slice none 0 0]) K5 ?_)
 intro b5 w2 hk HL;clear hk;go_wp2_with fail;refine yB ?_;refine lS ?_;have HB5W:=O (HL.out.lt 0).2;go_wp2_with fail;have HLW:=O HL.out.keep;refine(zC (.slice (some ⟨g,o,none⟩) L cap) w2 q hq1 ⟨_,_,_,rfl⟩).mono ?_;rintro e w3 ⟨B1,B2,rfl,hc1,hc2,hn1,hn2,hk⟩;have HC1:=O hc1;have HC2:=O hc2;have HCN:=O (And.intro hn1 hn2);clear hc1 hc2 hn1 hn2;replace HL:=O (HL.out.keeps hk);clear hk;go_wp2_with fail;have hb3l:=HL.out.lt 1;have hb5l:=HL.out.lt 0;have h35:b3≠b5:=cH HL.out.nd (i:=0) rfl 1 (by decide) rfl;obtain⟨N0,hN0⟩:∃N,w3.heap.size=N:=⟨_,rfl⟩
 have HN0:=O hN0;have hlw2:=HLW.out.size;have hcn:=HCN.out;have HG:=O (And.intro (show w.heap.size≤b3/\b3<N0 by omega) (And.intro (show w.heap.size≤b5/\b5<N0 by omega) (show w.heap.size≤N0 by have:=HL.out.keep.size;omega)));have HKW:=O HL.out.keep;have H3:=O (HL.out.b 1)
 have HR12:Hid (¬(B B1\/B1=b5\/N0≤B1)/\¬(B B2\/B2=b5\/N0≤B2)):=O (by
  have a1:=lt_of_block HC1.out;have a2:=lt_of_block HC2.out;have b5l2:=HB5W.out;constructor<;>rintro (e|e|e)<;>first|(have:=HBLT.out _ e;omega)|omega)
 have HCH:=vT (Res:=fun i=>B i\/i=b5\/N0≤i) HL4.out hq1 HCAP.out.1 HCAP.out.2 HC1.out HC2.out HR12.out.1 HR12.out.2;have HI0:Hid (∀W,aA aB w3 W->kS w B c N0 l bs S b5 b3 (#[.func (.func 57) #[] #[.pointer (some ⟨b1,0,none⟩),.pointer (some ⟨b2,0,none⟩)]],106) 0 W):=O fun W hk=>⟨⟨hk.blk H3.out id,by have:=HG.out;omega,h35,fun e=>by have:=HBLT.out _ e;have:=HG.out;omega⟩,fun _=>.hole,S,fun _=>.slice none 0 0,.slice none 0 0,B,rfl,hk.blk (HL.out.b 0) id,World.ownsRow_nil _ _ _ _,(fun i hi=>by omega),(HK.out.keep0 HKW.out).keep0 hk,fun i h=>.inl h,(Cl.refl _ _ _ HKW.out).trans (Cl.refl _ _ _ hk),(fun i hi=>by cases hi),⟨HG.out.2.2,by rw[←HN0.out];exact hk.size⟩,(HKW.out.trans hk).any⟩
 clear hb3l hb5l hlw2 hcn;subst hN0;refine yC ?_;refine oX (Res:=fun i=>B i\/i=b5\/w3.heap.size≤i) Tryz.func56 (gf:=142) rfl (enters_of Tryz.func142 (by kernel_rfl) rfl) (N:=4) (encs:=uV g o q) HCH (fun _=>rfl) (kS w B c w3.heap.size l bs S b5 b3 (#[.func (.func 57) #[] #[.pointer (some ⟨b1,0,none⟩),.pointer (some ⟨b2,0,none⟩)]],106)) (fun ch W=>ch=gC 15/\r=none/\aA B w W) HI0.out (fun k W W' h hk=>h.keep0 hk) (fun k W l o hl h ho hc o'=>h.put HBLT.out hl ho hc o') ?round ?done ?throw
 case throw =>
  rintro D W ch hD ⟨rfl,rfl,hkw⟩ hDd;have kd:=aA.of_grown (grownBy_putObj' W D (.deferred none));have hwd:=HG.out.2.2;show bodyPostM _ _ _ _ _ (.panic _) _ _;exact⟨by simp,.inl ⟨_,_,rfl,run_takeDeferred hDd,⟨rfl,hkw.trans' kd (fun _ _ h=>h) (fun i hi e=>by injection e with e;omega)⟩⟩⟩
 case done =>
  rintro D W hD hI hDd;obtain⟨-,kk,T',vs,v,B',h1,h2,h3,h4,h5,h6,h7,h8,h9,h10⟩:=hI;rw[HM.out] at h1;injection h1 with e1 e2
  subst e1 e2;have hwd:=HG.out.2.2;have kd:=aA.of_grown (grownBy_putObj' W D (.deferred none));have no:=fun {i:Nat}(h:IsC W i)=>KZ hDd rfl h
  have nB:∀i,some D=some i->¬B' i:=fun i e hb=>(h7 i hb).elim (fun h=>no h e) fun h=>by have:=HBLT.out i h.1;injection e with e;omega
  have HP:Hid (Ap w c B (some kk) T (.returned v) (W.putObj D (.deferred none))):=O ⟨v,vs,B',rfl,aP (kd.owns h3 fun i hi e=>(by obtain⟨cur,hc⟩:=aL h3 hi;exact no ⟨_,_,hc⟩ e)) hwd,fun i hi=>(h4 i hi).1.keepT kd fun b hb=>no ((h4 i hi).1.off b hb).2,fun i hi=>(h4 i hi).2.1,h5.keepT kd nB,fun i hi=>(h6 i hi).imp id fun e=>Nat.le_trans hwd e,Cl.onT h7 kd fun i hb e=>nB i e hb,h8,h10.trans' kd (fun _ _ h=>h) fun i hi e=>by injection e with e;omega⟩;have HDD:=O hDd;have c5:=cell_of_one h2;clear kd no nB h2 h3 h4 h5 h6 h7 h8 h9 h10 hDd HCH;go_wp2_with fail;exact⟨by simp,.inl ⟨_,_,rfl,run_takeDeferred HDD.out,⟨v,(results_tmp (t:=4) rfl _ _ _).trans (by rfl),HP.out⟩⟩⟩
 case round =>
  intro l' k W1 hk4 hI hl';have HI:=O hI;have HL':=O hl';clear hI hl' HCH;unfold uV;rw[Be];simp only[List.setIfInBounds_toArray,List.set_cons_zero,List.set_cons_succ];refine eF (by kernel_rfl) (fun ⟨_,_,h⟩=>h) ?_;go_wp2_with fail;refine⟨KpN.of (aA.refl aB _) (fun _ _ h=>h.elim),KpC.of (aA.refl aB _) (fun _ h=>h.elim),fun o9 o' hoo hoc=>?_⟩;have HIV:=O (HI.out.put HBLT.out (Nat.le_of_lt HL'.out) hoo hoc o');clear hoo hoc HI;generalize World.putObj W1 l' o'=V at HIV ⊢;refine wpIn_block ?_;obtain⟨h0,kk,T',vs,v,B',h1,h2,h3,h4,h5,h6,h7,h8,h9,h10⟩:=HIV.out;obtain⟨⟨rr,U⟩,hrr⟩:∃x,dD l T' (bG l bs k)=x:=⟨_,rfl⟩
  have HRR:=O hrr;have H1:=O h1;have H4:=O h4;have H7:=O h7;have H8:=O h8;have H00:=O h0
  have HNO:Hid (rr=none->r=none):=O (fun e=>by
   have h:=zD (lay:=dD l) (l:=l) (S:=S) (b:=bs) (i:=k+1) (j:=4) (by unfold eP;rw[h1];simp only[];rw[hrr,e]) (by omega);rw[HM.out] at h;exact h)
  have H0:=O h0.1;have H2:=O h2;have H3v:=O h3;have H5:=O h5;have H9:=O h9;have H10:=O h10;have HB6:=O h6
  have HBC:Hid (∀i o,B' i->w3.heap.size≤i->V.heap[i]?=some o->o.isCells=true):=O fun i o e hn ho=>by
   rcases h7 i e with⟨cs,t,hc⟩|hc
   ·rw[hc] at ho;cases ho;rfl
   ·have:=HBLT.out i hc.1;have:=HG.out;omega
  have HX1:=O (H10.out.blk HB1.out HN12.out.1);have HX2:=O (H10.out.blk HB2.out HN12.out.2);have HP0:=O (Bc (k:=k) HBL.out HQ.out hk4 hq2 (H10.out.rangeAt2 HRA.out HGB.out))
  have HPO:Hid (∀i,(Value.slice (some ⟨g,o+k*q,none⟩) q q).ownBlock=some i->¬B' i):=O fun i hi e=>by
   have e2:g=i:=by injection hi
   subst e2;rcases HB6.out g e with h|h
   ·exact HGB.out h
   ·have:=HGL.out;have:=HG.out;omega
  clear h0 h1 h2 h3 h4 h5 h6 h7 h8 h9 h10 hrr HIV;obtain⟨pc,hpc⟩:∃x,(Value.slice (some ⟨g,o+k*q,none⟩) q q)=x:=⟨_,rfl⟩
  rw[hpc] at HP0 HPO ⊢;have hkd:=(aA.refl aB V).drew;refine lB (by kernel_rfl) (by kernel_rfl) (fun ⟨_,_,h⟩=>h) (wpAny_of_held (S:=fun w'=>w'.heap[b3]?=some (.cells #[.func (.func 57) #[] #[.pointer (some ⟨b1,0,none⟩),.pointer (some ⟨b2,0,none⟩)]] 106 (0,0))) _ _ _ _ ?_);change wpAnyH _ _ _ _ _ _ _ _ V.drew;have hS:V.drew.heap[b3]?=some (.cells #[.func (.func 57) #[] #[.pointer (some ⟨b1,0,none⟩),.pointer (some ⟨b2,0,none⟩)]] 106 (0,0)):=hkd.blk H0.out id;have HKD:=O hkd;generalize V.drew=wd at hS HKD ⊢;clear hkd;have H2:=O (HKD.out.blk H2.out id);have H3w:=O (HKD.out.owns H3v.out fun _ _=>id);have H5:=O (H5.out.keep0 HKD.out);replace HX1:=O (HKD.out.blk HX1.out id);replace HX2:=O (HKD.out.blk HX2.out id);replace HP0:=O (HP0.out.keep HKD.out fun _ _=>id);have HVW:=O (fun i (hi:v.ownBlock=some i)=>(by obtain⟨cur,hc⟩:=aL H3v.out hi;have:=lt_of_block hc;have:=HKD.out.size;exact⟨aR H3v.out hi,by omega⟩:w3.heap.size≤i/\i<wd.heap.size));have HVS:=O (Nat.le_trans H9.out.2 HKD.out.size);refine tnd 1 (.func (.func 57) #[] #[.pointer (some ⟨b1,0,none⟩),.pointer (some ⟨b2,0,none⟩)]) rfl (.inl ⟨by rfl,fun w' hw'=>by have c:World.cell? w' ⟨b3,0,none⟩=some (.func (.func 57) #[] #[.pointer (some ⟨b1,0,none⟩),.pointer (some ⟨b2,0,none⟩)]):=cell_of_one hw';go_simp⟩) hS ?_;refine tna 2 pc rfl hS ?_;refine fN (k:=0) (l:=3) rfl rfl (by kernel_rfl) ?_ ?_
  ·have c5:wd.cell? ⟨b5,0,none⟩=some v:=cell_of_one H2.out
   go_wp2_with fail;clear c5
   try refine⟨hS,?_⟩
   refine wA9 3 ?_;go_wp2_with fail;refine((Dh HH.out H5.out pc (bG l bs k) (gL HBL.out hk4) HP0.out HPO.out rr U HRR.out (by omega) HX1.out HX2.out:Calls _ _ _ wd (jH wd c B' rr U))).mono ?_;rintro e wc hmm;cases rr with
   | none =>
     obtain⟨rfl,hk⟩:=hmm;have HPN:Hid (Fb (fun i=>B i\/i=b5\/w3.heap.size≤i) w3.heap.size (kS w B c w3.heap.size l bs S b5 b3 (#[.func (.func 57) #[] #[.pointer (some ⟨b1,0,none⟩),.pointer (some ⟨b2,0,none⟩)]],106)) (fun ch W=>ch=gC 15/\r=none/\aA B w W) k V (.panic (gC 15)) ⟨#[],[]⟩ wc):=O ⟨rfl,KpN.of (HKD.out.any.trans hk) (fun i o e hn ho=>HBC.out i o e hn ho),rfl,HNO.out rfl,H10.out.trans' (HKD.out.any.trans hk) (fun _ _ h=>h) (fun i hi e=>(HB6.out i e).elim id fun h=>by have:=HG.out;omega)⟩;go_wp2_with fail;exact HPN.out
   | some u =>
     obtain⟨v1,B1',rfl,hpv,hki,hbb,hcl,hnw,hk⟩:=hmm;have HPV:=O hpv;have HKI:=O hki;have HBB:=O hbb;have HCL:=O hcl;have HNW:=O hnw;have HK3:=O hk;have HBO5:Hid (¬B' b5/\¬B' b3):=O ⟨fun e=>(HB6.out _ e).elim (fun e=>by have:=HBLT.out _ e;have:=HG.out;omega) fun e=>by have:=HG.out;omega,fun e=>(HB6.out _ e).elim (fun e=>by have:=HBLT.out _ e;have:=HG.out;omega) fun e=>by have:=HG.out;omega⟩;have H2c:=O (hk.blk H2.out HBO5.out.1);have hSc:wc.heap[b3]?=some (.cells #[.func (.func 57) #[] #[.pointer (some ⟨b1,0,none⟩),.pointer (some ⟨b2,0,none⟩)]] 106 (0,0)):=hk.blk hS HBO5.out.2;have H3c:=O (hk.owns H3w.out fun i hi=>H8.out i hi);obtain⟨qc,HQC,hqc,HOQ⟩:=nmP hpv;rw[HQC.out];clear hpv hki hbb hcl hnw hk;go_wp2_with fail;refine⟨hSc,?_⟩;refine wA9 4 ?_;obtain⟨we,hwe,hke,hbe,-⟩:=aU wc qc.toArray 35;obtain⟨bx,hbx⟩:∃x,wc.heap.size=x:=⟨_,rfl⟩
     rw[hbx] at hbe;have HRN:Hid (Rd we 35 (.slice (some ⟨bx,0,none⟩) 1 1) 1 qc):=O (cG (n:=1) (size:=35) hbe (by rw[hqc]) (by unfold maxLen;omega));have H3e:=O (hke.owns H3c.out fun _ _=>id);have H2e:=O (hke.blk H2c.out id);have hSe:we.heap[b3]?=some (.cells #[.func (.func 57) #[] #[.pointer (some ⟨b1,0,none⟩),.pointer (some ⟨b2,0,none⟩)]] 106 (0,0)):=hke.blk hSc id;have HKE:=O hke;clear hbe hke;refine bN rfl 39 35 (.tmp 16) rfl Tryz.underlying39 jE (by decide) qc hqc (by decide) rfl ?_;rw[hwe,hbx];refine wpList_nil ?_;refine⟨hSe,?_⟩;clear hwe hbx;refine wA9 5 ?_;refine aI rfl (.tmp 13) (.tmp 17) 39 rfl w3.heap.size 35 (.agg aK.toArray) 35 72 Tryz.underlying39 jE rfl (by decide) v k (eQ vs (fun i=>(kk i).ptr) k) rfl H3e.out (.slice (some ⟨bx,0,none⟩) 1 1) 1 qc rfl HRN.out HOQ.out (by unfold maxLen;omega) (by omega) (by have:=HKE.out.size;have:=HK3.out.size;have:=HVS.out;omega) ?_;intro v2 w8 ho5 hk5 hn5 hb5;obtain⟨g2,c2,rfl,-,-⟩:=(Rd.of_owns ho5).form;have HO5:=O ho5;have HK5:=O hk5;have HB5:=O hb5;have HBO8:=O (hk5.blk H2e.out (fun e=>by have:=HVW.out _ e;have:=HG.out;omega));have hS8:w8.heap[b3]?=some (.cells #[.func (.func 57) #[] #[.pointer (some ⟨b1,0,none⟩),.pointer (some ⟨b2,0,none⟩)]] 106 (0,0)):=hk5.blk hSe (fun e=>by have:=HVW.out _ e;have:=HG.out;omega);clear ho5 hk5 hn5 hb5 HRN;refine wpList_nil ?_;refine⟨hS8,?_⟩;refine wA9 6 ?_;refine sta 39 (.tmp 5) (.tmp 18) b5 0 [.slice g2 (k+1) c2] HBO8.out (by simp) (by kernel_rfl) (one9) ?_;intro w9 hk hb;replace hb:w9.heap[b5]?=some (.cells #[.slice g2 (k+1) c2] 39 (0,0)):=hb;have hS9:w9.heap[b3]?=some (.cells #[.func (.func 57) #[] #[.pointer (some ⟨b1,0,none⟩),.pointer (some ⟨b2,0,none⟩)]] 106 (0,0)):=hk.blk hS8 h35;refine wpList_nil ?_;refine⟨hS9,?_⟩;refine wpAnyH_done (by kernel_rfl) ?_ _;have h:=kS.step (b3:=b3) (cl:=(#[.func (.func 57) #[] #[.pointer (some ⟨b1,0,none⟩),.pointer (some ⟨b2,0,none⟩)]],106)) H00.out H1.out H4.out H3v.out HB6.out H7.out H8.out H9.out H10.out (And.intro HG.out.2.1.2 HG.out.2.1.1) HBLT.out HKD.out HRR.out HPV.out HKI.out HBB.out HCL.out HNW.out HK3.out HKE.out HK5.out (by rw[HQC.out];exact HO5.out) HB5.out hk hb;exact⟨h.2.1,h.2.2,h.1⟩
  ·go_wp2_with fail
   refine((Dh HH.out H5.out pc (bG l bs k) (gL HBL.out hk4) HP0.out HPO.out rr U HRR.out (by omega) HX1.out HX2.out:Calls _ _ _ wd (jH wd c B' rr U))).mono ?_;rintro e wc hmm;cases rr with
   | none =>
     obtain⟨rfl,hk⟩:=hmm;have HPN:Hid (Fb (fun i=>B i\/i=b5\/w3.heap.size≤i) w3.heap.size (kS w B c w3.heap.size l bs S b5 b3 (#[.func (.func 57) #[] #[.pointer (some ⟨b1,0,none⟩),.pointer (some ⟨b2,0,none⟩)]],106)) (fun ch W=>ch=gC 15/\r=none/\aA B w W) k V (.panic (gC 15)) ⟨#[],[]⟩ wc):=O ⟨rfl,KpN.of (HKD.out.any.trans hk) (fun i o e hn ho=>HBC.out i o e hn ho),rfl,HNO.out rfl,H10.out.trans' (HKD.out.any.trans hk) (fun _ _ h=>h) (fun i hi e=>(HB6.out i e).elim id fun h=>by have:=HG.out;omega)⟩;go_wp2_with fail;exact HPN.out
   | some u =>
     obtain⟨v1,B1',rfl,hpv,hki,hbb,hcl,hnw,hk⟩:=hmm;have HPV:=O hpv;have HKI:=O hki;have HBB:=O hbb;have HCL:=O hcl;have HNW:=O hnw;have HK3:=O hk;have HBO5:Hid (¬B' b5/\¬B' b3):=O ⟨fun e=>(HB6.out _ e).elim (fun e=>by have:=HBLT.out _ e;have:=HG.out;omega) fun e=>by have:=HG.out;omega,fun e=>(HB6.out _ e).elim (fun e=>by have:=HBLT.out _ e;have:=HG.out;omega) fun e=>by have:=HG.out;omega⟩;have H2c:=O (hk.blk H2.out HBO5.out.1);have hSc:wc.heap[b3]?=some (.cells #[.func (.func 57) #[] #[.pointer (some ⟨b1,0,none⟩),.pointer (some ⟨b2,0,none⟩)]] 106 (0,0)):=hk.blk hS HBO5.out.2;have H3c:=O (hk.owns H3w.out fun i hi=>H8.out i hi);obtain⟨qc,HQC,hqc,HOQ⟩:=nmP hpv;rw[HQC.out];clear hpv hki hbb hcl hnw hk;go_wp2_with fail;refine⟨hSc,?_⟩;refine fN (k:=0) (l:=4) rfl rfl (by kernel_rfl) ?_ ?_
     ·have c5:wc.cell? ⟨b5,0,none⟩=some v:=cell_of_one H2c.out
      go_wp2_with fail;clear c5
      try refine⟨hSc,?_⟩
      refine wA9 4 ?_;obtain⟨we,hwe,hke,hbe,-⟩:=aU wc qc.toArray 35;obtain⟨bx,hbx⟩:∃x,wc.heap.size=x:=⟨_,rfl⟩
      rw[hbx] at hbe;have HRN:Hid (Rd we 35 (.slice (some ⟨bx,0,none⟩) 1 1) 1 qc):=O (cG (n:=1) (size:=35) hbe (by rw[hqc]) (by unfold maxLen;omega));have H3e:=O (hke.owns H3c.out fun _ _=>id);have H2e:=O (hke.blk H2c.out id);have hSe:we.heap[b3]?=some (.cells #[.func (.func 57) #[] #[.pointer (some ⟨b1,0,none⟩),.pointer (some ⟨b2,0,none⟩)]] 106 (0,0)):=hke.blk hSc id;have HKE:=O hke;clear hbe hke;refine bN rfl 39 35 (.tmp 16) rfl Tryz.underlying39 jE (by decide) qc hqc (by decide) rfl ?_;rw[hwe,hbx];refine wpList_nil ?_;refine⟨hSe,?_⟩;clear hwe hbx;refine wA9 5 ?_;refine aI rfl (.tmp 13) (.tmp 17) 39 rfl w3.heap.size 35 (.agg aK.toArray) 35 72 Tryz.underlying39 jE rfl (by decide) v k (eQ vs (fun i=>(kk i).ptr) k) rfl H3e.out (.slice (some ⟨bx,0,none⟩) 1 1) 1 qc rfl HRN.out HOQ.out (by unfold maxLen;omega) (by omega) (by have:=HKE.out.size;have:=HK3.out.size;have:=HVS.out;omega) ?_;intro v2 w8 ho5 hk5 hn5 hb5;obtain⟨g2,c2,rfl,-,-⟩:=(Rd.of_owns ho5).form;have HO5:=O ho5;have HK5:=O hk5;have HB5:=O hb5;have HBO8:=O (hk5.blk H2e.out (fun e=>by have:=HVW.out _ e;have:=HG.out;omega));have hS8:w8.heap[b3]?=some (.cells #[.func (.func 57) #[] #[.pointer (some ⟨b1,0,none⟩),.pointer (some ⟨b2,0,none⟩)]] 106 (0,0)):=hk5.blk hSe (fun e=>by have:=HVW.out _ e;have:=HG.out;omega);clear ho5 hk5 hn5 hb5 HRN;refine wpList_nil ?_;refine⟨hS8,?_⟩;refine wA9 6 ?_;refine sta 39 (.tmp 5) (.tmp 18) b5 0 [.slice g2 (k+1) c2] HBO8.out (by simp) (by kernel_rfl) (one9) ?_;intro w9 hk hb;replace hb:w9.heap[b5]?=some (.cells #[.slice g2 (k+1) c2] 39 (0,0)):=hb;have hS9:w9.heap[b3]?=some (.cells #[.func (.func 57) #[] #[.pointer (some ⟨b1,0,none⟩),.pointer (some ⟨b2,0,none⟩)]] 106 (0,0)):=hk.blk hS8 h35;refine wpList_nil ?_;refine⟨hS9,?_⟩;refine wpAnyH_done (by kernel_rfl) ?_ _;have h:=kS.step (b3:=b3) (cl:=(#[.func (.func 57) #[] #[.pointer (some ⟨b1,0,none⟩),.pointer (some ⟨b2,0,none⟩)]],106)) H00.out H1.out H4.out H3v.out HB6.out H7.out H8.out H9.out H10.out (And.intro HG.out.2.1.2 HG.out.2.1.1) HBLT.out HKD.out HRR.out HPV.out HKI.out HBB.out HCL.out HNW.out HK3.out HKE.out HK5.out (by rw[HQC.out];exact HO5.out) HB5.out hk hb;exact⟨h.2.1,h.2.2,h.1⟩
     ·obtain⟨we,hwe,hke,hbe,-⟩:=aU wc qc.toArray 35
      obtain⟨bx,hbx⟩:∃x,wc.heap.size=x:=⟨_,rfl⟩
      rw[hbx] at hbe;have HRN:Hid (Rd we 35 (.slice (some ⟨bx,0,none⟩) 1 1) 1 qc):=O (cG (n:=1) (size:=35) hbe (by rw[hqc]) (by unfold maxLen;omega));have H3e:=O (hke.owns H3c.out fun _ _=>id);have H2e:=O (hke.blk H2c.out id);have hSe:we.heap[b3]?=some (.cells #[.func (.func 57) #[] #[.pointer (some ⟨b1,0,none⟩),.pointer (some ⟨b2,0,none⟩)]] 106 (0,0)):=hke.blk hSc id;have HKE:=O hke;clear hbe hke;refine bN rfl 39 35 (.tmp 16) rfl Tryz.underlying39 jE (by decide) qc hqc (by decide) rfl ?_;rw[hwe,hbx];refine wpList_nil ?_;refine⟨hSe,?_⟩;clear hwe hbx;refine wA9 0 ?_;have c5:we.cell? ⟨b5,0,none⟩=some v:=cell_of_one H2e.out;go_wp2_with fail;clear c5
      try refine⟨hSe,?_⟩
      refine wA9 5 ?_;refine aI rfl (.tmp 13) (.tmp 17) 39 rfl w3.heap.size 35 (.agg aK.toArray) 35 72 Tryz.underlying39 jE rfl (by decide) v k (eQ vs (fun i=>(kk i).ptr) k) rfl H3e.out (.slice (some ⟨bx,0,none⟩) 1 1) 1 qc rfl HRN.out HOQ.out (by unfold maxLen;omega) (by omega) (by have:=HKE.out.size;have:=HK3.out.size;have:=HVS.out;omega) ?_;intro v2 w8 ho5 hk5 hn5 hb5;obtain⟨g2,c2,rfl,-,-⟩:=(Rd.of_owns ho5).form;have HO5:=O ho5;have HK5:=O hk5;have HB5:=O hb5;have HBO8:=O (hk5.blk H2e.out (fun e=>by have:=HVW.out _ e;have:=HG.out;omega));have hS8:w8.heap[b3]?=some (.cells #[.func (.func 57) #[] #[.pointer (some ⟨b1,0,none⟩),.pointer (some ⟨b2,0,none⟩)]] 106 (0,0)):=hk5.blk hSe (fun e=>by have:=HVW.out _ e;have:=HG.out;omega);clear ho5 hk5 hn5 hb5 HRN;refine wpList_nil ?_;refine⟨hS8,?_⟩;refine wA9 6 ?_;refine sta 39 (.tmp 5) (.tmp 18) b5 0 [.slice g2 (k+1) c2] HBO8.out (by simp) (by kernel_rfl) (one9) ?_;intro w9 hk hb;replace hb:w9.heap[b5]?=some (.cells #[.slice g2 (k+1) c2] 39 (0,0)):=hb;have hS9:w9.heap[b3]?=some (.cells #[.func (.func 57) #[] #[.pointer (some ⟨b1,0,none⟩),.pointer (some ⟨b2,0,none⟩)]] 106 (0,0)):=hk.blk hS8 h35;refine wpList_nil ?_;refine⟨hS9,?_⟩;refine wpAnyH_done (by kernel_rfl) ?_ _;have h:=kS.step (b3:=b3) (cl:=(#[.func (.func 57) #[] #[.pointer (some ⟨b1,0,none⟩),.pointer (some ⟨b2,0,none⟩)]],106)) H00.out H1.out H4.out H3v.out HB6.out H7.out H8.out H9.out H10.out (And.intro HG.out.2.1.2 HG.out.2.1.1) HBLT.out HKD.out HRR.out HPV.out HKI.out HBB.out HCL.out HNW.out HK3.out HKE.out HK5.out (by rw[HQC.out];exact HO5.out) HB5.out hk hb;exact⟨h.2.1,h.2.2,h.1⟩
theorem BH{P:Program}{w:World}{ops:Array Oper}{rest:List Oper}{o:Oper}{a:Act}{Q:Exit->Act->World->Prop}(hgd:o.guard=none)(d s:Operand)(dT sT:TypeId)
 (ho:o.op=.call { callee:=.builtin .copy,args:=#[d,s],argTypes:=#[dT,sT] }) (elem:TypeId) (sz:Nat) (hu:P.underlying dT=some (.slice elem)) (hsz:(P.info? elem).map (·.size)=some sz)
 (g off n dCap:Nat) (hd:a.eval d=.slice (some ⟨g,off,none⟩) n dCap) (v2:Value) (news:List Value) (hs:a.eval s=v2) (hrd:Rd w sz v2 n news) (hn:0<n) (hz:0<sz)
 (cur:Array Value) (t:TypeId) (hg:w.heap[g]?=some (.cells cur t (0,0))) (hfit:off+n*sz≤cur.size) (h1:∀u∈news,u.oneCell'=true)
 (h:∀w',w'.heap[g]?=some (.cells (spl cur off news) t (0,0))->aA (fun i=>i=g) w w'->wpList P ops Q rest (a.put o.dst (goInt n)) w'):wpList P ops Q (o::rest) a w:=by
 obtain⟨hlen,ad,cap,rfl,h2,h3,h4,h5⟩:=hrd;have hpos:0<news.length:=by rw[hlen];exact Nat.mul_pos hn hz
 obtain⟨g2,o2,rfl,hc⟩:=h5 hpos;refine wpList_plain hgd fun K hK=>?_
 have hl:=run_loadCells_list (P:=P) w ⟨g2,o2,none⟩ news (fun j v hj=>by rw[jL];exact hc j v hj);have hst:=run_storeCells_at P g off t news 0 cur w hg (by rw[hlen];simpa using hfit) h1
 have hrun:(Builtin.copy_ #[dT,sT] o.type #[.slice (some ⟨g,off,none⟩) n dCap,.slice (some ⟨g2,o2,none⟩) n cap]).run P w=.ok (goInt n) (w.setRow g (cur.toList.take off++news++cur.toList.drop (off+news.length)).toArray):=by
  cases hq:P.info? elem with
  | none=>simp[hq] at hsz
  | some i =>
    have hi:i.size=sz:=by simpa [hq] using hsz
    simp[Builtin.copy_,run_underlying hu,Builtin.lenOf,Builtin.firstCells,sizeOf,typeInfo,hq,hi,←hlen,hl,hst]
 have hf:=h (w.setRow g (cur.toList.take off++news++cur.toList.drop (off+news.length)).toArray) (by
  rw[List.append_assoc,qI cur off _ (by rw[hlen];exact hfit)];exact setRow_heap w g _ _ t _ hg) ⟨rfl,rfl,rfl,by simp[World.setRow],fun i _ hi=>setRow_other w g i _ hi⟩
 unfold Oper.wp;simp[execOp,ho,resolve,invoke,builtin,hd,hs,hrun,Result.andThen];rw[List.append_assoc] at hf;exact hK _ _ hf
theorem zE(vs:Nat->Value)(ks:Nat->Pt):eQ vs ks 4=aE (vs 0) (ks 0)++(aE (vs 1) (ks 1)++(aE (vs 2) (ks 2)++aE (vs 3) (ks 3))):=by
 unfold eQ;simp[List.range_succ]
theorem Ku(lv:Int)(vs:Nat->Value)(ks:Nat->Pt)(hl:(eQ vs ks 4).length=140):spl (cO lv (fun _=>.slice none 0 0) (fun _=>zPt)).toArray 1 (eQ vs ks 4)=(cO lv vs ks).toArray:=by
 have h:=lZ [.int .i64 lv] (eQ (fun _=>.slice none 0 0) (fun _=>zPt) 4) (eQ vs ks 4) [] (by rw[hl];rfl);rw[List.append_nil,List.append_nil] at h;rw[zE (fun _=>.slice none 0 0) (fun _=>zPt)] at h;unfold cO;rw[←zE vs ks];exact h
theorem IG{w:World}{vs:Nat->Value}{ks:Nat->Pt}(h:eC w vs ks):(eQ vs ks 4).length=140:=by
 have:=gS 0 vs h;unfold cO at this;rw[←zE] at this
 simpa using this
theorem II{w:World}{vs:Nat->Value}{ks:Nat->Pt}(h:eC w vs ks):∀u∈eQ vs ks 4,u.oneCell'=true:=fun u hu=>by
 refine dX 0 h u ?_;unfold cO;rw[←zE];exact List.mem_cons_of_mem _ hu
section
variable {B0:Nat->Prop}{w0 w w':World}{c:Nat}{S T:Kor}{B B':Nat->Prop}{rs:List (Value×Pt)}{l:List (Nat×Array Value×TypeId)}
theorem Cs.lays(h:Cs B0 w0 c S B rs w l){ns:List (Value×Pt)}(hp:∀r∈ns,aQ w' B' r.1 r.2)(hk:KI w' c T B')(hb:∀k,B' k->B k\/w.heap.size≤k)(hn:∀r∈ns,dR w r.1)(k:aA B w w'):Cs B0 w0 c T B' (ns++rs) w' l:=by
 refine⟨h.loc.turn2 k (fun _ e=>.inl e) (fun i hi e=>(h.bb i e).elim id fun e=>by omega) ?_,hk,?_,fun i e=>(hb i e).elim (h.bb i) fun e=>.inr (Nat.le_trans h.keep.size e)⟩
 ·rintro i hi (e|⟨r,hr,e⟩)
  ·exact(hb i e).elim .inl fun e=>by omega
  ·rcases List.mem_append.1 hr with hr|hr
   ·have:=hn r hr i e;omega
   ·exact .inr ⟨r,hr,e⟩
 ·intro r hr
  rcases List.mem_append.1 hr with hr|hr
  ·exact hp r hr
  ·exact(h.pv r hr).keep k hb
theorem Ds.lays{SP:Nat->Prop}{wd:World}(h:Ds SP wd B0 w0 c S B rs w l)(hSP:∀i,i<wd.heap.size->B i->SP i){ns:List (Value×Pt)}(hp:∀r∈ns,aQ w' B' r.1 r.2)(hk:KI w' c T B')(hb:∀k,B' k->B k\/w.heap.size≤k)(hn:∀r∈ns,dR w r.1)(k:aA B w w'):Ds SP wd B0 w0 c T B' (ns++rs) w' l:=
 ⟨h.toCs.lays hp hk hb hn k,h.dr.trans' k (fun _ _ e=>e) hSP⟩
theorem Ds.set{SP:Nat->Prop}{wd:World}(h:Ds SP wd B0 w0 c S B rs w l)(i:Nat){b:Nat}{cs cs':Array Value}{t:TypeId}(k:aA (fun k=>k=b) w w')(hn:w'.heap[b]?=some (.cells cs' t (0,0)))(hs:SP b)(hi:l[i]?=some (b,cs,t):=by rfl):Ds SP wd B0 w0 c S B rs w' (l.set i (b,cs',t)):=
 ⟨h.toCs.set i k hn hi,h.dr.trans' k (fun _ _ e=>e) fun j _ e=>by rw[e];exact hs⟩
end
def nG(vs:Nat->Value)(ks:Nat->Pt):List (Value×Pt):=[(vs 0,ks 0),(vs 1,ks 1),(vs 2,ks 2),(vs 3,ks 3)]
theorem zF{vs:Nat->Value}{ks:Nat->Pt}{P:Value->Pt->Prop}(h:∀i,i<4->P (vs i) (ks i)):∀r∈nG vs ks,P r.1 r.2:=fun r hr=>by
 simp only[nG,List.mem_cons,List.not_mem_nil,or_false] at hr;rcases hr with rfl|rfl|rfl|rfl
 ·exact h 0 (by omega)
 ·exact h 1 (by omega)
 ·exact h 2 (by omega)
 ·exact h 3 (by omega)
theorem F6{w:World}{B:Nat->Prop}{vs:Nat->Value}{ks:Nat->Pt}{rs:List (Value×Pt)}(h:∀r∈nG vs ks++rs,aQ w B r.1 r.2):fI w B vs ks:=fun i hi=>by
 have e:(vs i,ks i)∈nG vs ks:=by
  rcases i with _|_|_|_|i
  ·simp[nG]
  ·simp[nG]
  ·simp[nG]
  ·simp[nG]
  ·omega
 exact h _ (List.mem_append_left _ e)
theorem Ng{P:Program}{ops:Array Oper}{Q:Exit->Act->World->Prop}{id:Nat}{a:Act}{B0:Nat->Prop}{w0 w:World}{c:Nat}{Sk:Kor}{B:Nat->Prop}{rs:List (Value×Pt)}{l:List (Nat×Array Value×TypeId)}(SP:Nat->Prop)(HL:Hid (Cs B0 w0 c Sk B rs w l))(hm:P.follows .mixedOrders=true)
 (h:∀wd (S:World->Prop),Hid (∀w',S w'->aA SP wd w')->Hid (∀w',aA SP wd w'->S w')->aA aB w wd->Hid (Ds SP wd B0 w0 c Sk B rs wd l)->wpAnyH P .any ops Q S ops.size (Array.replicate ops.size false) a wd):(Code.region id ops true).wp P Q a w:=by
 have hd:=(aA.refl aB w).drew;exact wp_region_held (S:=fun w'=>aA SP w.drew w') hm (h w.drew (fun w'=>aA SP w.drew w') (O fun _ h=>h) (O fun _ h=>h) hd (O ⟨HL.out.keeps hd,aA.refl _ _⟩))
theorem vU{w:World}{c:Nat}{S:Kor}{B:Nat->Prop}(hK:KI w c S B)(vv:Value)(bs:List UInt8)(hr:Rd w 1 vv bs.length (bs.map vb))(hvb:∀i,vv.ownBlock=some i->¬B i)(l:Nat)(hz:bZ bs=true):Calls Tryz.prog 27 #[.pointer (some ⟨c,0,none⟩),vv,.int .i64 (l:Int)] w (jH w c B (some .hole) S):=by
 have HL:=O (Cs.start hK);have HCL:=O (Cl.refl w w B (aA.refl _ _));have HVB:=O hvb;have HR:=O hr;have HBLT:=O (fun i (e:B i)=>hK.lt e);have HAZ:=O hz;have hzp:(aE (.slice none 0 0) zPt).length=35:=rfl;have hzb:=iJ;obtain⟨zp,hzpe⟩:∃l,aE (.slice none 0 0) zPt=l:=⟨_,rfl⟩
 have HOZP:Hid (∀u∈zp,u.oneCell'=true):=O (by rw[←hzpe];exact bR zPt);have HZPE:=O hzpe;rw[hzpe] at hzp hzb;have HZB:=O hzb;clear hzpe hzb;obtain⟨va,vc,rfl,-,-⟩:=hr.form;obtain⟨m,hmm⟩:∃m,bs.length=m:=⟨_,rfl⟩
 have HMM:=O hmm;rw[hmm] at HR HVB ⊢;clear hr hvb hmm hK hz;go_enter Tryz.func27,Tryz.ntmps27
 go_wp2_with ((with_reducible show WL _ _);refine bx 25 (.tmp 0) (#[.pointer (some ⟨c,0,none⟩)]) ?_)
 intro b3 w1 hbs hk hb;replace HL:=O (HL.out.new (trivial) hbs hk hb);replace HR:=O (HR.out.keep hk fun _ _=>id);replace HCL:=O (HCL.out.trans (Cl.refl _ _ _ hk));clear hbs hk hb
 go_wp2_with ((with_reducible show WL _ _);refine bx 3 (.tmp 2) (#[.int .i64 (l:Int)]) ?_)
 intro b5 w2 hbs hk hb;replace HL:=O (HL.out.new (trivial) hbs hk hb);replace HR:=O (HR.out.keep hk fun _ _=>id);replace HCL:=O (HCL.out.trans (Cl.refl _ _ _ hk));clear hbs hk hb
 go_wp2_with ((with_reducible show WL _ _);refine al 35 (.agg aK.toArray) (aK.toArray) bJ ?_)
 intro b6 w3 hbs hk hb;replace HL:=O (HL.out.new (trivial) hbs hk hb);replace HR:=O (HR.out.keep hk fun _ _=>id);replace HCL:=O (HCL.out.trans (Cl.refl _ _ _ hk));clear hbs hk hb;go_wp2_with fail;refine((by have h:=fT w3 (.slice va m vc) bs (by rw[HMM.out];exact HR.out);rw[HAZ.out] at h;exact h:Calls _ _ _ w3 (aF w3 (.bool true)))).mono ?_;rintro e w4 ⟨rfl,hk⟩;replace HL:=O (HL.out.keeps hk);replace HR:=O (HR.out.keep hk fun _ _=>id);replace HCL:=O (HCL.out.trans (Cl.refl _ _ _ hk));clear hk
 go_wp2_with ((with_reducible show WL _ _);first
  | refine bld 35 #[] [] (.agg zp.toArray) HZB.out ?_
  | refine sta 35 (.tmp 6) (.tmp 13) b6 0 zp (HL.out.b 0) (by first|decide|(rw[hzp];exact Nat.le_refl _)|simp[hzp,aH]) (szP9 hzp) HOZP.out ?_)
 intro w5 hk hb;rw[aG _ _ (by first|rfl|simp[hzp,aH])] at hb;replace HL:=O (HL.out.set 0 hk hb);replace HCL:=O (Cl.onT HCL.out hk fun i hq e=>by rw[e] at hq;first|exact (HL.out.loc.aq 0) (.inl hq)|exact (HL.out.loc.aq 1) (.inl hq)|exact (HL.out.loc.aq 2) (.inl hq)|exact (HL.out.loc.aq 3) (.inl hq));clear hk hb;have HB6:=O (HL.out.b 0);have HP:Hid (jH w c B (some .hole) S (.returned (.agg zp.toArray)) w5):=O ⟨.slice none 0 0,B,by rw[←HZPE.out];rfl,aQ.hole _ _,HL.out.ki,fun _ h=>.inl h,HCL.out,dR.nil w,HL.out.keep⟩;clear HL HCL;go_wp2_with fail;refine bodyPost_ret (results_cell_row rfl _ _ b6 _ _ _ _ rfl HB6.out aJ rfl (by rw[List.size_toArray,hzp];exact eB)) rfl ?_;exact HP.out
theorem IJ{w:World}{c:Nat}{S:Kor}{B:Nat->Prop}(hK:KI w c S B)(vv:Value)(bs:List UInt8)(hr:Rd w 1 vv bs.length (bs.map vb))(hvb:∀i,vv.ownBlock=some i->¬B i)(hbl:bs.length=256)(hz:bZ bs=false)(r:Option Tr)(T:Kor)(hm:S.leaf bs=(r,T)):Calls Tryz.prog 27 #[.pointer (some ⟨c,0,none⟩),vv,.int .i64 0] w (jH w c B r T):=by
 have HL:=O (Cs.start hK);have HCL:=O (Cl.refl w w B (aA.refl _ _));have HVB:=O hvb;have HR:=O hr;have HBLT:=O (fun i (e:B i)=>hK.lt e);have HAZ:=O hz;have HBL:=O hbl
 have HPT:Hid (match S.put 0 bs with|none=>r=none|some (p,U)=>r=some (.leaf p bs)/\T=U):=O (by
  unfold Kor.leaf at hm;rw[if_neg (fun e=>by rw[(lV hbl).2 e] at hz;cases hz)] at hm;cases hp:S.put 0 bs with
  | none=>rw[hp] at hm;injection hm with h1 h2;exact h1.symm
  | some x=>obtain⟨p,U⟩:=x;rw[hp] at hm;injection hm with h1 h2;exact⟨h1.symm,h2.symm⟩)
 have hzp:(aE (.slice none 0 0) zPt).length=35:=rfl;have hzb:=iJ;obtain⟨zp,hzpe⟩:∃l,aE (.slice none 0 0) zPt=l:=⟨_,rfl⟩
 have HOZP:Hid (∀u∈zp,u.oneCell'=true):=O (by rw[←hzpe];exact bR zPt);have HZPE:=O hzpe;rw[hzpe] at hzp hzb;have HZB:=O hzb;clear hzpe hzb;obtain⟨va,vc,rfl,-,-⟩:=hr.form;obtain⟨m,hmm⟩:∃m,bs.length=m:=⟨_,rfl⟩
 have HMM:=O hmm;rw[hmm] at HR HVB ⊢;clear hr hvb hmm hK hz hm hbl;go_enter Tryz.func27,Tryz.ntmps27
 go_wp2_with ((with_reducible show WL _ _);refine bx 25 (.tmp 0) (#[.pointer (some ⟨c,0,none⟩)]) ?_)
 intro b3 w1 hbs hk hb;replace HL:=O (HL.out.new (trivial) hbs hk hb);replace HR:=O (HR.out.keep hk fun _ _=>id);replace HCL:=O (HCL.out.trans (Cl.refl _ _ _ hk));clear hbs hk hb
 go_wp2_with ((with_reducible show WL _ _);refine bx 3 (.tmp 2) (#[.int .i64 0]) ?_)
 intro b5 w2 hbs hk hb;replace HL:=O (HL.out.new (trivial) hbs hk hb);replace HR:=O (HR.out.keep hk fun _ _=>id);replace HCL:=O (HCL.out.trans (Cl.refl _ _ _ hk));clear hbs hk hb
 go_wp2_with ((with_reducible show WL _ _);refine al 35 (.agg aK.toArray) (aK.toArray) bJ ?_)
 intro b6 w3 hbs hk hb;replace HL:=O (HL.out.new (trivial) hbs hk hb);replace HR:=O (HR.out.keep hk fun _ _=>id);replace HCL:=O (HCL.out.trans (Cl.refl _ _ _ hk));clear hbs hk hb;go_wp2_with fail;refine((by have h:=fT w3 (.slice va m vc) bs (by rw[HMM.out];exact HR.out);rw[HAZ.out] at h;exact h:Calls _ _ _ w3 (aF w3 (.bool false)))).mono ?_;rintro e w4 ⟨rfl,hk⟩;replace HL:=O (HL.out.keeps hk);replace HR:=O (HR.out.keep hk fun _ _=>id);replace HCL:=O (HCL.out.trans (Cl.refl _ _ _ hk));clear hk;have c1:w4.cell? ⟨b5,0,none⟩=some (.int .i64 0):=(aC (i:=0) (HL.out.b 1) rfl)
 have c2:w4.cell? ⟨b3,0,none⟩=some (.pointer (some ⟨c,0,none⟩)):=(aC (i:=0) (HL.out.b 2) rfl)
 go_wp2_with fail;clear c1 c2;have HW1:=O HL.out.keep;have HPP:=HPT.out;refine((Bb HL.out.ki (lv:=0) (by omega) HBL.out (by rw[show (256:Nat)=m from HBL.out.symm.trans HMM.out];exact HR.out) HVB.out:Calls _ _ _ w4 (Dg w4 c B (S.put 0 bs)))).mono ?_;rintro e w8 hm;cases hp:S.put 0 bs with
 | none =>
   rw[hp] at hm HPP;obtain⟨rfl,hk⟩:=hm;have hrn:r=none:=HPP;subst hrn;have HP:Hid (jH w c B none T (.panicked (gC 15)) w8):=O ⟨rfl,HW1.out.trans' hk (fun _ _ h=>h) (fun i hi e=>(HL.out.bb i e).elim id fun e=>by omega)⟩;go_wp2_with fail;exact⟨rfl,HP.out⟩
 | some x =>
   obtain⟨p,U⟩:=x;rw[hp] at hm HPP;obtain⟨v,B',rfl,hpv,hki,hbb,hcl,hnw,hk⟩:=hm;have HNW:=O (hnw.from HW1.out.size);replace HCL:=O (HCL.out.trans hcl);replace HL:=O (HL.out.laid hpv hki hbb hnw hk);obtain⟨qc,HQC,hqc,HOQ⟩:=nmP hpv;rw[HQC.out];obtain⟨hr1,hr2⟩:r=some (.leaf p bs)/\T=U:=HPP;have HRT:=O (And.intro hr1 hr2);clear hpv hki hbb hcl hnw hk HW1 HPT hr1 hr2 hp
   go_wp2_with ((with_reducible show WL _ _);refine sta 35 (.tmp 6) (.tmp 19) b6 0 qc (HL.out.b 0) (by first|decide|(rw[hqc];exact Nat.le_refl _)|simp[hqc,aH]) (szP9 hqc) HOQ.out ?_)
   intro w9 hk hb;rw[aG _ _ (by first|rfl|simp[hqc,aH])] at hb;replace HL:=O (HL.out.set 0 hk hb);replace HCL:=O (Cl.onT HCL.out hk fun i hq e=>by rw[e] at hq;first|exact (HL.out.loc.aq 0) (.inl hq)|exact (HL.out.loc.aq 1) (.inl hq)|exact (HL.out.loc.aq 2) (.inl hq)|exact (HL.out.loc.aq 3) (.inl hq));clear hk hb;have HB6:=O (HL.out.b 0);have HP:Hid (jH w c B r T (.returned (.agg qc.toArray)) w9):=O (by rw[HRT.out.1,HRT.out.2];exact⟨v,B',by rw[←HQC.out];rfl,HL.out.pv0 0,HL.out.ki,HL.out.bb,HCL.out,HNW.out,HL.out.keep⟩);clear HL HCL;go_wp2_with fail;refine bodyPost_ret (results_cell_row rfl _ _ b6 _ _ _ _ rfl HB6.out aJ rfl (by rw[List.size_toArray,hqc];exact eB)) rfl ?_;exact HP.out
theorem Kv{l:Nat}(H:xF l)(hl:l≤2){w:World}{c:Nat}{S:Kor}{B:Nat->Prop}(hK:KI w c S B)(vv:Value)(bs:List UInt8)(hr:Rd w 1 vv bs.length (bs.map vb))(hvb:∀i,vv.ownBlock=some i->¬B i)(hbl:bs.length=256*4 ^ (l+1))(hz:bZ bs=false)(r:Option Tr)(T:Kor)(hm:dD (l+1) S bs=(r,T)):Calls Tryz.prog 27 #[.pointer (some ⟨c,0,none⟩),vv,.int .i64 ((l+1:Nat):Int)] w (jH w c B r T):=by
 obtain⟨⟨rk,Tk⟩,hmk⟩:∃x,eP (dD l) l S bs 4=x:=⟨_,rfl⟩
 have HMK:=O hmk;have hbd:=hK.bd
 have HKK:Hid (∀kk,rk=some kk->(∀i,i<4->Tr.Ok Tk l (kk i))/\(match Tk.put (l+1) (cY (l+1) (fO kk)) with|none=>r=none|some (p,U)=>r=some (.node p kk)/\T=U)):=O (fun kk e=>by
  have g:=lG hbd hbl (fun hb hl h=>mZ (by omega) hb hl h) 4 (by omega) (by rw[hmk,e])
  have hh:fL kk=false:=by
   cases hh:fL kk with
   | false=>rfl
   | true=>rw[rU (S:=S) hbl g.blks hh] at hz;cases hz
  refine⟨g.parts.ok,?_⟩;unfold dD at hm;rw[if_neg (by rw[hz];decide),hmk,e] at hm;simp only[] at hm;unfold Kor.lay at hm;rw[hh] at hm;cases hp:Tk.put (l+1) (cY (l+1) (fO kk)) with
  | none=>rw[hp] at hm;injection hm with h1 h2;exact h1.symm
  | some x=>obtain⟨p,U⟩:=x;rw[hp] at hm;injection hm with h1 h2;exact⟨h1.symm,h2.symm⟩)
 have HKN:Hid (rk=none->r=none):=O (fun e=>by
  unfold dD at hm;rw[if_neg (by rw[hz];decide),hmk,e] at hm;injection hm with h1 h2;exact h1.symm)
 have HH:Hid (xF l):=O H;have hl1:¬((l+1:Nat):Int)=0:=by omega
 have HL:=O (Cs.start hK);have HCL:=O (Cl.refl w w B (aA.refl _ _));have HVB:=O hvb;have HR:=O hr;have HBLT:=O (fun i (e:B i)=>hK.lt e);have HAZ:=O hz;have HBL:=O hbl;have hnz:(cO ((l+1:Nat):Int) (fun _=>.slice none 0 0) (fun _=>zPt)).length=141:=rfl;have hbn:=uT ((l+1:Nat):Int);obtain⟨nz,hnze⟩:∃x,cO ((l+1:Nat):Int) (fun _=>.slice none 0 0) (fun _=>zPt)=x:=⟨_,rfl⟩
 have HOZ:Hid (∀u∈nz,u.oneCell'=true):=O (by rw[←hnze];exact dX (w:=w) _ fun _ _=>mB w);have HNZ:=O hnze;rw[hnze] at hnz hbn;have HBN:=O hbn;obtain⟨lv,hlv⟩:∃x,((l+1:Nat):Int)=x:=⟨_,rfl⟩
 have HLV:=O hlv;rw[hlv] at HBN hl1 ⊢;have hzp:(aE (.slice none 0 0) zPt).length=35:=rfl;have hzb:=iJ;obtain⟨zp,hzpe⟩:∃l,aE (.slice none 0 0) zPt=l:=⟨_,rfl⟩
 have HOZP:Hid (∀u∈zp,u.oneCell'=true):=O (by rw[←hzpe];exact bR zPt);have HZPE:=O hzpe;rw[hzpe] at hzp hzb;have HZB:=O hzb;clear hzpe hzb;obtain⟨va,vc,rfl,-,-⟩:=hr.form;obtain⟨m,hmm⟩:∃m,bs.length=m:=⟨_,rfl⟩
 have HMM:=O hmm;rw[hmm] at HR HVB ⊢;clear hr hvb hmm hK hz hm hbl hnze hbn hlv hmk H hbd;go_enter Tryz.func27,Tryz.ntmps27
 go_wp2_with ((with_reducible show WL _ _);refine bx 25 (.tmp 0) (#[.pointer (some ⟨c,0,none⟩)]) ?_)
 intro b3 w1 hbs hk hb;replace HL:=O (HL.out.new (trivial) hbs hk hb);replace HR:=O (HR.out.keep hk fun _ _=>id);replace HCL:=O (HCL.out.trans (Cl.refl _ _ _ hk));clear hbs hk hb
 go_wp2_with ((with_reducible show WL _ _);refine bx 3 (.tmp 2) (#[.int .i64 lv]) ?_)
 intro b5 w2 hbs hk hb;replace HL:=O (HL.out.new (trivial) hbs hk hb);replace HR:=O (HR.out.keep hk fun _ _=>id);replace HCL:=O (HCL.out.trans (Cl.refl _ _ _ hk));clear hbs hk hb
 go_wp2_with ((with_reducible show WL _ _);refine al 35 (.agg aK.toArray) (aK.toArray) bJ ?_)
 intro b6 w3 hbs hk hb;replace HL:=O (HL.out.new (trivial) hbs hk hb);replace HR:=O (HR.out.keep hk fun _ _=>id);replace HCL:=O (HCL.out.trans (Cl.refl _ _ _ hk));clear hbs hk hb;go_wp2_with fail;refine((by have h:=fT w3 (.slice va m vc) bs (by rw[HMM.out];exact HR.out);rw[HAZ.out] at h;exact h:Calls _ _ _ w3 (aF w3 (.bool false)))).mono ?_;rintro e w4 ⟨rfl,hk⟩;replace HL:=O (HL.out.keeps hk);replace HR:=O (HR.out.keep hk fun _ _=>id);replace HCL:=O (HCL.out.trans (Cl.refl _ _ _ hk));clear hk;have c1:w4.cell? ⟨b5,0,none⟩=some (.int .i64 lv):=(aC (i:=0) (HL.out.b 1) rfl)
 have c2:w4.cell? ⟨b5,0,none⟩=some (.int .i64 lv):=(aC (i:=0) (HL.out.b 1) rfl)
 go_wp2_with ((with_reducible show WL _ _);first
  | refine bld 104 #[(0,.tmp 20)] [(0,.int .i64 lv)] (.agg nz.toArray) HBN.out ?_
  | refine al 104 (.agg dA.toArray) (dA.toArray) jD ?_)
 clear c1 c2;intro b7 w5 hbs hk0 hb0_
 go_wp2_with ((with_reducible show WL _ _);refine sta 104 (.tmp 7) (.tmp 21) b7 0 nz hb0_ (by first|decide|(rw[List.size_toArray,hnz];exact Nat.le_refl _)|simp[hnz,bS]) (by rw[hnz];exact dZ) HOZ.out ?_)
 intro w6 hk hb;rw[aG _ _ (by first|rfl|(rw[List.size_toArray,hnz];rfl)|simp[hnz,bS])] at hb;replace hk:=hk0.trans' hk (U:=aB) (fun _ _ h=>h) (fun i hi e=>by omega);replace HL:=O (HL.out.new (trivial) hbs hk hb);replace HR:=O (HR.out.keep hk fun _ _=>id);replace HCL:=O (HCL.out.trans (Cl.refl _ _ _ hk));clear hbs hk hb hk0 hb0_;go_wp2_with fail;go_wp2_with fail;refine Ng (fun k=>B k\/k=b7) HL (by kernel_rfl) ?_;intro w7 SW HSE HSI hkd HL;replace HR:=O (HR.out.keep hkd fun _ _=>id);replace HCL:=O (HCL.out.trans (Cl.refl _ _ _ hkd));clear hkd;have HLs:=HL;have HRs:=HR;have HCLs:=HCL;refine tnb 0 (.pointer (some ⟨b7,1,none⟩)) rfl (sD9 HSI HL) ?_;refine tnb 1 (.slice (some ⟨b7,1,none⟩) 4 4) rfl (sD9 HSI HL) ?_;refine tna 2 (.slice va m vc) rfl (sD9 HSI HL) ?_;refine tnb 3 (.func (.func 57) #[] #[.pointer (some ⟨b3,0,none⟩),.pointer (some ⟨b5,0,none⟩)]) rfl (sD9 HSI HL) ?_;refine wA9 4 ?_;go_wp2_with fail;have HWM:=O HL.out.keep;have HB7L:=O (HL.out.loc.lt 0).2;refine((F5 HH.out hl HL.out.ki (.slice va m vc) bs HBL.out (by rw[HMM.out];exact HR.out) HVB.out rk Tk HMK.out (HL.out.b 3) (by rw[HLV.out];exact HL.out.b 2) (fun e=>(HL.out.loc.aq 3) (.inl e)) (fun e=>(HL.out.loc.aq 2) (.inl e)):Calls _ _ _ w7 (Ap w7 c B rk Tk))).mono ?_;rintro e w8 hm;cases rk with
 | none =>
   obtain⟨rfl,hk⟩:=hm;have hrn:=HKN.out rfl;subst hrn;have HP:Hid (jH w c B none T (.panicked (gC 15)) w8):=O ⟨rfl,HWM.out.trans' hk (fun _ _ h=>h) (fun i hi e=>e)⟩;go_wp2_with fail;exact⟨rfl,HP.out⟩
 | some kk =>
   obtain⟨v,vs,B2,rfl,ho,hnv,hnb,hki,hbb,hcl,hvo,hk⟩:=hm;have HOK:=O (HKK.out kk rfl).1;have HPT:=O (HKK.out kk rfl).2;replace HCL:=O (HCL.out.trans hcl);replace HL:=O (HL.out.lays (fun _ _ e=>.inl e) (zF hnv) hki hbb (zF (P:=fun v _=>dR _ v) hnb) hk);have HROW:=O ho;have HNBW:Hid (∀i,i<4->dR w (vs i)):=O fun i hi=>(hnb i hi).from HWM.out.size
   have HVB7:Hid (∀i,v.ownBlock=some i->¬i=b7):=O fun i hi e=>by have:=aR ho hi;have:=HB7L.out;omega
   obtain⟨row,hrow⟩:∃x,eQ vs (fun i=>(kk i).ptr) 4=x:=⟨_,rfl⟩
   have hrl:=IG hnv.nv;have hr1:=II hnv.nv;have hspl:=Ku ((l+1:Nat):Int) vs (fun i=>(kk i).ptr) hrl;rw[HNZ.out] at hspl;rw[hrow] at hrl hr1 hspl HROW;have HR1:=O hr1;have HRL:=O hrl;have HSPL:=O hspl;obtain⟨nc,hnce⟩:∃x,cO ((l+1:Nat):Int) vs (fun i=>(kk i).ptr)=x:=⟨_,rfl⟩
   have HON:Hid (∀u∈nc,u.oneCell'=true):=O (by rw[←hnce];exact dX _ hnv.nv);have hnc:=gS ((l+1:Nat):Int) vs hnv.nv;rw[hnce] at hnc;have HNC:=O hnce;rw[hnce] at HSPL;clear ho hnv hnb hki hbb hcl hvo hk hrow hrl hr1 hspl hnce HR;go_wp2_with fail;refine⟨HSI.out _ HL.out.dr,?_⟩;refine wA9 5 ?_;refine BH rfl (.tmp 23) (.tmp 26) 39 39 rfl 35 35 Tryz.underlying39 eB b7 1 4 4 rfl v row rfl (Rd.of_owns HROW.out) (by decide) (by decide) nz.toArray 104 (HL.out.b 0) (by rw[List.size_toArray,hnz];decide) HR1.out ?_;intro w9 hb hk;rw[HSPL.out] at hb;replace HL:=O (HL.out.set 0 hk hb (.inr rfl));replace HCL:=O (Cl.onT HCL.out hk fun i hq e=>by rw[e] at hq;first|exact (HL.out.toCs.loc.aq 0) (.inl hq)|exact (HL.out.toCs.loc.aq 1) (.inl hq)|exact (HL.out.toCs.loc.aq 2) (.inl hq)|exact (HL.out.toCs.loc.aq 3) (.inl hq));clear hk hb HROW;refine wpList_nil ?_;refine⟨HSI.out _ HL.out.dr,?_⟩;refine wpAnyH_done (by kernel_rfl) ?_ _;replace HL:=O HL.out.toCs;clear HLs HSE HSI
   go_wp2_with ((with_reducible show WL _ _);refine wpList_load_mid rfl 104 (.tmp 7) rfl b7 0 rfl nc _ (aD (HL.out.b 0)) Ly rfl (by rw[hnc];exact dZ) ?_)
   have HSZ:=O HL.out.keep.size;have HBL2:=O (fun i (e:B2 i)=>HL.out.ki.lt e);refine((by rw[←HNC.out];exact A6 w9 (l+1) vs (fun i=>(kk i).ptr) (F6 HL.out.pv).nv (by omega) (by omega) (fun i hi=>by have:=(HOK.out i hi).fit;exact this):Calls _ _ _ w9 (uI w9 (l+1) (fun i=>(kk i).ptr)))).mono ?_;rintro e wa ⟨v1,rfl,ho,hk⟩;rw[←Iu,Tr.Ok.nb_eq (l+1) HOK.out] at ho;obtain⟨pa,pcc,rfl,-,-⟩:=(Rd.of_owns ho).form;have HO:=O ho;have HVB2:Hid (∀i,(Value.slice pa 256 pcc).ownBlock=some i->¬B2 i):=O (fun i hi e=>by have:=aR ho hi;have:=HBL2.out i e;omega);clear ho HSZ HBL2;replace HL:=O (HL.out.keeps hk);replace HCL:=O (HCL.out.trans (Cl.refl _ _ _ hk));clear hk;have c1:wa.cell? ⟨b3,0,none⟩=some (.pointer (some ⟨c,0,none⟩)):=(aC (i:=0) (HL.out.b 3) rfl)
   have c2:wa.cell? ⟨b5,0,none⟩=some (.int .i64 lv):=(aC (i:=0) (HL.out.b 2) rfl)
   go_wp2_with fail;clear c1 c2;have HBLN:Hid ((cY (l+1) (fO kk)).length=256):=O (Ab HOK.out);have HW1:=O HL.out.keep;have HPP:=HPT.out;refine((by rw[←HLV.out];exact Bb HL.out.ki (lv:=l+1) (by omega) HBLN.out (Rd.of_owns HO.out) HVB2.out:Calls _ _ _ wa (Dg wa c B2 (Tk.put (l+1) (cY (l+1) (fO kk)))))).mono ?_;rintro e w8 hm;cases hp:Tk.put (l+1) (cY (l+1) (fO kk)) with
   | none =>
     rw[hp] at hm HPP;obtain⟨rfl,hk⟩:=hm;have hrn:r=none:=HPP;subst hrn;have HP:Hid (jH w c B none T (.panicked (gC 15)) w8):=O ⟨rfl,HW1.out.trans' hk (fun _ _ h=>h) (fun i hi e=>(HL.out.bb i e).elim id fun e=>by omega)⟩;go_wp2_with fail;exact⟨rfl,HP.out⟩
   | some x =>
     obtain⟨p,U⟩:=x;rw[hp] at hm HPP;obtain⟨v,B',rfl,hpv,hki,hbb,hcl,hnw,hk⟩:=hm;have HNW:=O (hnw.from HW1.out.size);replace HCL:=O (HCL.out.trans hcl);replace HL:=O (HL.out.laid hpv hki hbb hnw hk);obtain⟨qc,HQC,hqc,HOQ⟩:=nmP hpv;rw[HQC.out];obtain⟨hr1,hr2⟩:r=some (.node p kk)/\T=U:=HPP;have HRT:=O (And.intro hr1 hr2);clear hpv hki hbb hcl hnw hk HW1 HPT hr1 hr2 hp
     go_wp2_with ((with_reducible show WL _ _);refine sta 35 (.tmp 6) (.tmp 41) b6 0 qc (HL.out.b 1) (by first|decide|(rw[hqc];exact Nat.le_refl _)|simp[hqc,aH]) (szP9 hqc) HOQ.out ?_)
     intro w9 hk hb;rw[aG _ _ (by first|rfl|simp[hqc,aH])] at hb;replace HL:=O (HL.out.set 1 hk hb);replace HCL:=O (Cl.onT HCL.out hk fun i hq e=>by rw[e] at hq;first|exact (HL.out.loc.aq 0) (.inl hq)|exact (HL.out.loc.aq 1) (.inl hq)|exact (HL.out.loc.aq 2) (.inl hq)|exact (HL.out.loc.aq 3) (.inl hq));clear hk hb;have HB6:=O (HL.out.b 1);have HP:Hid (jH w c B r T (.returned (.agg qc.toArray)) w9):=O (by rw[HRT.out.1,HRT.out.2];exact⟨v,B',by rw[←HQC.out];rfl,HL.out.pv0 0,HL.out.ki,HL.out.bb,HCL.out,HNW.out,HL.out.keep⟩);clear HL HCL;go_wp2_with fail;refine bodyPost_ret (results_cell_row rfl _ _ b6 _ _ _ _ rfl HB6.out aJ rfl (by rw[List.size_toArray,hqc];exact eB)) rfl ?_;exact HP.out
theorem ED:∀{l:Nat},l≤3->xF l
 | 0,_=>by
   rename_i w c S B _;intro hK vv bs hbl hr hvb r T hm;cases hz:bZ bs with
   | true =>
     have e:dD 0 S bs=(some .hole,S):=by unfold dD Kor.leaf;rw[if_pos ((lV (by rw[hbl])).1 hz)]
     rw[e] at hm;injection hm with h1 h2
     subst h1 h2;exact vU hK vv bs hr hvb 0 hz
   | false=>exact IJ hK vv bs hr hvb (by rw[hbl]) hz r T hm
 | l+1,hl=>by
   rename_i w c S B;intro hK vv bs hbl hr hvb r T hm;cases hz:bZ bs with
   | true =>
     have e:dD (l+1) S bs=(some .hole,S):=by unfold dD;rw[if_pos hz]
     rw[e] at hm;injection hm with h1 h2
     subst h1 h2;exact vU hK vv bs hr hvb (l+1) hz
   | false=>exact Kv (ED (by omega)) (by omega) hK vv bs hr hvb hbl hz r T hm
def mC(a:List (List UInt8))(t:Tr)(l:Nat):List (List UInt8):=a++t.blocks l
theorem kV{S:Kor}:∀(l:Nat) (a:List (List UInt8)) (t:Tr),Tr.Ok S l t->eX mC l a t=a++t.blocks l
 | 0,a,.hole,_=>rfl
 | _+1,a,.hole,_=>rfl
 | 0,a,.leaf p b,_=>rfl
 | 0,a,.node p k,h=>h.elim
 | l+1,a,.leaf p b,h=>h.elim
 | l+1,a,.node p k,h=>by
   show eX mC l (eX mC l (eX mC l (eX mC l a (k 0)) (k 1)) (k 2)) (k 3)=a++((k 0).blocks l++(k 1).blocks l++(k 2).blocks l++(k 3).blocks l);rw[kV l _ _ (h.2.1 3 (by omega)),kV l _ _ (h.2.1 2 (by omega)),kV l _ _ (h.2.1 1 (by omega)),kV l _ _ (h.2.1 0 (by omega))];simp only[List.append_assoc]
def iK(N0:Nat)(w:World)(J:Nat->Prop)(vs:List Value)(R:List (List UInt8)):Prop:=
 vs.length=R.length/\∀(j:Nat) (b:List UInt8),R[j]?=some b->∃u,vs[j]?=some u/\Rd w 1 u b.length (b.map vb)/\∀i,u.ownBlock=some i->N0≤i/\¬J i/\IsC w i
theorem iK.keep{N0:Nat}{w w':World}{J J':Nat->Prop}{vs:List Value}{R:List (List UInt8)}(h:iK N0 w J vs R)(k:aA J w w')(hJ:∀i,J' i->J i\/w.heap.size≤i):iK N0 w' J' vs R:=by
 refine⟨h.1,fun j b hj=>?_⟩;obtain⟨u,h1,h2,h3⟩:=h.2 j b hj;exact⟨u,h1,h2.keep k fun i hi=>(h3 i hi).2.1,fun i hi=>⟨(h3 i hi).1,fun e=>(hJ i e).elim (h3 i hi).2.1 fun e=>by have:=(h3 i hi).2.2.lt;omega,(h3 i hi).2.2.keep k (h3 i hi).2.1⟩⟩
theorem iK.snoc{N0:Nat}{w:World}{J:Nat->Prop}{vs:List Value}{R:List (List UInt8)}(h:iK N0 w J vs R){u:Value}{b:List UInt8}(hu:Rd w 1 u b.length (b.map vb))(ho:∀i,u.ownBlock=some i->N0≤i/\¬J i/\IsC w i):iK N0 w J (vs++[u]) (R++[b]):=by
 refine⟨by rw[List.length_append,List.length_append,h.1];rfl,fun j c hj=>?_⟩;rcases Nat.lt_or_ge j R.length with hl|hl
 ·rw[List.getElem?_append_left hl] at hj
  obtain⟨u',h1,h2⟩:=h.2 j c hj;exact⟨u',by rw[List.getElem?_append_left (by rw[h.1];exact hl)];exact h1,h2⟩
 ·rw[List.getElem?_append_right hl] at hj
  have e:j=R.length:=by
   rcases Nat.lt_or_ge R.length j with h2|h2
   ·rw[List.getElem?_eq_none (by simp;omega)] at hj;cases hj
   ·omega
  subst e;rw[Nat.sub_self] at hj;cases hj
  exact⟨u,by rw[←h.1,List.getElem?_append_right (Nat.le_refl _),Nat.sub_self];rfl,hu,ho⟩
theorem iK.nil(N0:Nat)(w:World)(J:Nat->Prop):iK N0 w J [] []:=⟨rfl,fun j b hj=>by cases hj⟩
def iL(N0 bo b2 c:Nat)(a:List (List UInt8))(J:Nat->Prop)(w:World):Prop:=
 ∃v vs,(bo<N0/\b2<N0/\b2≠bo/\N0≤w.heap.size)/\w.heap[bo]?=some (.cells #[v] 77 (0,0))/\w.heap[b2]?=some (.cells #[.pointer (some ⟨c,0,none⟩)] 25 (0,0)) /\
  w.ownsRow N0 22 1 v a.length vs/\iK N0 w J vs a/\J=fun i=>i=bo\/v.ownBlock=some i
theorem qW(N0 bo b2 c:Nat):Yld (iL N0 bo b2 c):=by
 refine⟨fun a J w w' h k=>?_,fun a J w i h hi=>?_⟩
 ·obtain⟨v,vs,h0,h1,h5,h2,h3,h4⟩:=h
  exact⟨v,vs,⟨h0.1,h0.2.1,h0.2.2.1,Nat.le_trans h0.2.2.2 k.size⟩,k.blk h1 id,k.blk h5 id,k.owns h2 fun _ _=>id,h3.keep k.any fun _ h=>.inl h,h4⟩
 ·obtain⟨v,vs,h0,h1,h5,h2,h3,rfl⟩:=h
  rcases hi with rfl|hi
  ·exact lt_of_block h1
  ·obtain⟨cur,hc⟩:=aL h2 hi
   exact lt_of_block hc
theorem iL.more{N0 bo b2 c:Nat}{a:List (List UInt8)}{v v' u:Value}{vs:List Value}{b:List UInt8}{w wE w8 w9:World}(h0:bo<N0/\b2<N0/\b2≠bo/\N0≤w.heap.size)(kE:aA aB w wE)
 (hb2:wE.heap[b2]?=some (.cells #[.pointer (some ⟨c,0,none⟩)] 25 (0,0))) (ho:wE.ownsRow N0 22 1 v a.length vs) (hr:iK N0 wE (fun i=>i=bo\/v.ownBlock=some i) vs a)
 (hu:Rd wE 1 u b.length (b.map vb)) (huo:∀i,u.ownBlock=some i->w.heap.size≤i/\IsC wE i) (hlt:∀i,v.ownBlock=some i->i<w.heap.size)
 (ho5:w8.ownsRow N0 22 1 v' (a.length+1) (vs++[u])) (k5:aA (fun i=>v.ownBlock=some i) wE w8) (hb5:v'.ownBlock=v.ownBlock\/v'.ownBlock=some wE.heap.size)
 (k9:aA (fun i=>i=bo) w8 w9) (hb9:w9.heap[bo]?=some (.cells #[v'] 77 (0,0))):cL (iL N0 bo b2 c) w (fun i=>i=bo\/v.ownBlock=some i) (a++[b]) (.returned (.int .i64 0)) w9:=by
 have hJ:∀i,(i=bo\/v'.ownBlock=some i)->(i=bo\/v.ownBlock=some i)\/wE.heap.size≤i:=fun i h=>by
  rcases h with h|h
  ·exact .inl (.inl h)
  ·rcases hb5 with e|e
   ·rw[e] at h;exact .inl (.inr h)
   ·rw[e] at h;injection h with h;exact .inr (by omega)
 have kJ:aA (fun i=>i=bo\/v.ownBlock=some i) wE w9:=k5.trans' k9 (fun _ _ h=>.inr h) (fun _ _ h=>.inl h);have hsz:=kE.size;have ge:=fun i (h:v.ownBlock=some i)=>aR ho h
 have ge5:=fun i (h:v'.ownBlock=some i)=>aR ho5 h
 have nu:∀i,u.ownBlock=some i->¬(i=bo\/v.ownBlock=some i):=fun i hi e=>by
  have:=(huo i hi).1;rcases e with e|e
  ·omega
  ·have:=hlt i e;omega
 refine⟨rfl,_,⟨v',vs++[u],⟨h0.1,h0.2.1,h0.2.2.1,Nat.le_trans h0.2.2.2 (Nat.le_trans hsz kJ.size)⟩,hb9,kJ.blk hb2 (fun e=>e.elim h0.2.2.1 fun e=>by have:=ge _ e;omega),?_,?_,rfl⟩,fun i h=>(hJ i h).imp id fun e=>by omega,(aA.any kE).trans kJ⟩
 ·rw[List.length_append]
  exact k9.owns ho5 fun i hi e=>by have:=ge5 i hi;omega
 ·refine(hr.keep kJ hJ).snoc (hu.keep kJ nu) fun i hi=>⟨by have:=(huo i hi).1;omega,fun e=>(hJ i e).elim (nu i hi) fun e=>by have:=(huo i hi).2.lt;omega,(huo i hi).2.keep kJ (nu i hi)⟩
theorem Kz(m:Nat):∀a t l,(fun a:List (List UInt8)=>a.length≤m) (mC a t l)->(fun a:List (List UInt8)=>a.length≤m) a:=fun a t l h=>by
 have h2:(mC a t l).length≤m:=h;unfold mC at h2;rw[List.length_append] at h2;show a.length≤m;omega
end
end Go.Proofs.YthihofpfonfjfaaGreatDoor
