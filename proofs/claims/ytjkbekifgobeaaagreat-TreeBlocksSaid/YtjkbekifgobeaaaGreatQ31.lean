/- A part of the proof. Conditions: those told. -/
import Derived.Test.YtjkbekifgobeaaaGreatQ1
import Derived.Test.YtjkbekifgobeaaaGreatQ30
namespace Go.Proofs.YtjkbekifgobeaaaGreat
set_option maxHeartbeats 64000000
set_option maxRecDepth 100000
set_option linter.unusedVariables false
section
open Go.RowKit Go.Maps Go.ChangeMaps
theorem L5{w:World}{D Z:Nat}(hb:2≤D/\D≤8/\8≤Z/\Z≤4096)(v:Value)(hr:Rd w 2 v 0 []):Calls Tryz.prog 146 #[.int .i64 (D:Int),.int .i64 (Z:Int),v] w (fun e w'=>∃g b2 lc,e=.returned (.tuple #[.pointer (some ⟨g,0,none⟩),.int .i64 0])/\dM w' w.heap.size g b2 lc D Z []/\aA aB w w'):=by
 refine(FF w (D:Int) (Z:Int) v [] hr).mono fun e w' h=>?_
 have hB:rX (D:Int) (Z:Int) []=true:=by unfold rX;simp;omega
 unfold oH at h;rw[if_pos hB] at h;exact h
def FG(w:World)(D Z:Nat)(e:Ending)(w':World):Prop:=∃g b2 lc,e=.returned (.tuple #[.pointer (some ⟨g,0,none⟩),.int .i64 0])/\dM w' w.heap.size g b2 lc D Z []/\aA aB w w'
def AY(w:World)(c a m:Nat)(pid:List UInt8)(cp:Nat)(lv:Value)(t:Int)(D Z:Nat)(e:Ending)(w':World):Prop:=
 e=.returned (.tuple #[])/\∃g b2 lc,bC w' c a m pid cp lv (.pointer (some ⟨g,0,none⟩)) t/\dM w' 0 g b2 lc D Z []/\(∀k,Own g b2 lc D k->w.heap.size≤k)/\aA (fun k=>k=c) w w'
theorem L6(a m:Nat)(pid:List UInt8)(hp:pid.length=32)(cp:Nat)(lv gv gv':Value)(t:Int):spl (gG a m pid cp lv gv t).toArray 36 [gv']=(gG a m pid cp lv gv' t).toArray:=by
 have h:=lW (.pointer (some ⟨a,0,none⟩)::.pointer (some ⟨m,0,none⟩)::(pid.map vb++[.int .i64 (cp:Int),lv])) [gv] [gv'] (.slice none 0 0::.slice none 0 0::lQ t) rfl;have hl:(.pointer (some ⟨a,0,none⟩)::.pointer (some ⟨m,0,none⟩)::(pid.map vb++[.int .i64 (cp:Int),lv])).length=36:=by simp[hp]
 rw[hl] at h;unfold gG
 simpa [List.append_assoc] using h
theorem L7(a m:Nat)(pid:List UInt8)(hp:pid.length=32)(cp:Nat)(lv lv' gv:Value)(t:Int):spl (gG a m pid cp lv gv t).toArray 35 [lv']=(gG a m pid cp lv' gv t).toArray:=by
 have h:=lW (.pointer (some ⟨a,0,none⟩)::.pointer (some ⟨m,0,none⟩)::(pid.map vb++[.int .i64 (cp:Int)])) [lv] [lv'] (gv::.slice none 0 0::.slice none 0 0::lQ t) rfl;have hl:(.pointer (some ⟨a,0,none⟩)::.pointer (some ⟨m,0,none⟩)::(pid.map vb++[.int .i64 (cp:Int)])).length=35:=by simp[hp]
 rw[hl] at h;unfold gG
 simpa [List.append_assoc] using h
def jZ(w:World)(c a m:Nat)(pid:List UInt8)(cp:Nat)(lv:Value)(t:Int):Prop:=∃gv,bC w c a m pid cp lv gv t
theorem jZ.keep0{w w':World}{c a m:Nat}{pid:List UInt8}{cp:Nat}{lv:Value}{t:Int}(h:jZ w c a m pid cp lv t)(k:aA aB w w'):jZ w' c a m pid cp lv t:=h.imp fun _ h=>h.keep0 k
theorem jZ.c0{w:World}{c a m:Nat}{pid:List UInt8}{cp:Nat}{lv:Value}{t:Int}(h:jZ w c a m pid cp lv t):w.cell? ⟨c,0,none⟩=some (.pointer (some ⟨a,0,none⟩)):=h.elim fun _ h=>h.c0
theorem jZ.old_{w:World}{c a m:Nat}{pid:List UInt8}{cp:Nat}{lv:Value}{t:Int}(h:jZ w c a m pid cp lv t):w.cell? ⟨c,37,none⟩=some (.slice none 0 0):=h.elim fun _ h=>h.old_
theorem jZ.live_{w:World}{c a m:Nat}{pid:List UInt8}{cp:Nat}{lv:Value}{t:Int}(h:jZ w c a m pid cp lv t):w.cell? ⟨c,38,none⟩=some (.slice none 0 0):=h.elim fun _ h=>h.live_
theorem dM.low{w:World}{lo lo' g b2 D Z:Nat}{lc:Nat->Option Nat}{L:List Ad}(h:dM w lo g b2 lc D Z L)(h2:lo'≤lo):dM w lo' g b2 lc D Z L:=⟨h.top,h.words,h.chans,h.inj,h.bd,Nat.le_trans h2 h.lo.1,Nat.le_trans h2 h.lo.2.1,fun d k hd hk=>Nat.le_trans h2 (h.lo.2.2 d k hd hk)⟩
theorem H8{w:World}{c a m:Nat}{pid:List UInt8}{cp:Nat}{lv gv:Value}{t:Int}(h:bC w c a m pid cp lv gv t){D Z nw:Nat}{B:Nat->Prop}{Mm:Nat->Nat->List UInt8}(ha:bN w a B D Z Mm nw)(hcB:¬B c):Calls Tryz.prog 110 #[.pointer (some ⟨c,0,none⟩)] w (AY w c a m pid cp lv t D Z):=by
 have hbd:=ha.bd;have HBD:=O hbd;have HPID:=O h.idl;have HCLT:=O (lt_of_block h.top);have HC:=O h;have HA:=O ha;have HL:=O (Loc.nil aB aB w);have HCB:Hid (∀i,i=c->¬B i):=O fun i e=>e▸hcB
 clear h ha hbd hcB;go_enter Tryz.func110,Tryz.ntmps110;go_wp2_with fail;obtain⟨S,hS0⟩:∃S:World->Prop,S=fun w'=>aA (fun k=>k=c) w.drew w'/\jZ w' c a m pid cp lv t:=⟨_,rfl⟩
 have HSE:=O (show ∀w',S w'->aA (fun k=>k=c) w.drew w'/\jZ w' c a m pid cp lv t from fun w' h=>by rw[hS0] at h;exact h);have HSI:=O (show ∀w',aA (fun k=>k=c) w.drew w'/\jZ w' c a m pid cp lv t->S w' from fun w' h=>by rw[hS0];exact h);have hS:S w.drew:=by rw[hS0];exact⟨aA.refl _ _,_,HC.out.keep0 (aA.refl aB w).drew⟩
 have hkd:=(aA.refl aB w).drew;clear hS0;refine wp_region_held (S:=S) (by kernel_rfl) ?_;change wpAnyH _ _ _ _ _ _ _ _ w.drew;generalize w.drew=w1 at HSE HSI hS hkd ⊢;replace HL:=O (HL.out.keeps hkd);replace HC:=O (HC.out.keep0 hkd);replace HA:=O (HA.out.keep0 hkd);clear hkd;have HLs:=HL;have HCs:=HC;have HAs:=HA;refine tna 0 (.pointer (some ⟨c,0,none⟩)) rfl hS ?_;refine tna 1 (.pointer (some ⟨c,0,none⟩)) rfl hS ?_;refine tnb 2 (.pointer (some ⟨c,0,none⟩)) rfl hS ?_;refine tnb 3 (.pointer (some ⟨c,0,none⟩)) rfl hS ?_;refine tnd 4 (.pointer (some ⟨a,0,none⟩)) rfl (.inl ⟨by rfl,fun w' hw'=>by have c:World.cell? w' ⟨c,0,none⟩=some (.pointer (some ⟨a,0,none⟩)):=jZ.c0 (HSE.out w' hw').2;go_simp⟩) hS ?_;refine tna 6 (.pointer (some ⟨c,0,none⟩)) rfl hS ?_;refine tnb 7 (.pointer (some ⟨c,0,none⟩)) rfl hS ?_;refine tnb 8 (.pointer (some ⟨c,0,none⟩)) rfl hS ?_;refine tnd 9 (.pointer (some ⟨a,0,none⟩)) rfl (.inl ⟨by rfl,fun w' hw'=>by have c:World.cell? w' ⟨c,0,none⟩=some (.pointer (some ⟨a,0,none⟩)):=jZ.c0 (HSE.out w' hw').2;go_simp⟩) hS ?_;refine tna 11 (.pointer (some ⟨c,0,none⟩)) rfl hS ?_;refine tnb 12 (.pointer (some ⟨c,0,none⟩)) rfl hS ?_;refine tnb 13 (.pointer (some ⟨c,37,none⟩)) rfl hS ?_;refine tnd 14 (.slice none 0 0) rfl (.inl ⟨by rfl,fun w' hw'=>by have c:World.cell? w' ⟨c,37,none⟩=some (.slice none 0 0):=jZ.old_ (HSE.out w' hw').2;go_simp⟩) hS ?_;refine tna 15 (.pointer (some ⟨c,0,none⟩)) rfl hS ?_;refine tnb 16 (.pointer (some ⟨c,0,none⟩)) rfl hS ?_;refine tnb 17 (.pointer (some ⟨c,38,none⟩)) rfl hS ?_;refine tnd 18 (.slice none 0 0) rfl (.inl ⟨by rfl,fun w' hw'=>by have c:World.cell? w' ⟨c,38,none⟩=some (.slice none 0 0):=jZ.live_ (HSE.out w' hw').2;go_simp⟩) hS ?_;refine wA9 5 ?_;go_wp2_with fail;refine(kC HA.out).mono ?_;rintro e w2 ⟨rfl,hk⟩;have hS1:=HSI.out _ ⟨(HSE.out _ hS).1.trans hk.any,(HSE.out _ hS).2.keep0 hk⟩;replace HL:=O (HL.out.keeps hk);replace HC:=O (HC.out.keep0 hk);replace HA:=O (HA.out.keep0 hk);clear hS hk;go_wp2_with fail;refine⟨hS1,?_⟩;refine wA9 10 ?_;go_wp2_with fail;refine(tN HA.out).mono ?_;rintro e w3 ⟨rfl,hk⟩;have hS2:=HSI.out _ ⟨(HSE.out _ hS1).1.trans hk.any,(HSE.out _ hS1).2.keep0 hk⟩;replace HL:=O (HL.out.keeps hk);replace HC:=O (HC.out.keep0 hk);replace HA:=O (HA.out.keep0 hk);clear hS1 hk;go_wp2_with fail;refine⟨hS2,?_⟩;refine wA9 19 ?_;go_wp2_with fail;refine(H7 w3 (.slice none 0 0) (.slice none 0 0) [] [] (fun x hx=>by cases hx) (fun x hx=>by cases hx) (Rd.nil _ _) (Rd.nil _ _) (by decide)).mono ?_;rintro e w4 ⟨v1,rfl,ho,hk⟩;have e0:(mC ([]++[]:List Ad))=[]:=List.eq_nil_iff_forall_not_mem.2 (fun x hx=>by rw[Ai] at hx;cases hx);rw[e0] at ho;obtain⟨ua,uc,hv1,-,-⟩:=(Rd.of_owns ho).form;have hv2:v1=.slice ua 0 uc:=hv1;clear hv1 e0;subst hv2;have HO:=O ho;clear ho;have hS3:=HSI.out _ ⟨(HSE.out _ hS2).1.trans hk.any,(HSE.out _ hS2).2.keep0 hk⟩;replace HL:=O (HL.out.keeps hk);replace HC:=O (HC.out.keep0 hk);replace HA:=O (HA.out.keep0 hk);clear hS2 hk;go_wp2_with fail;refine⟨hS3,?_⟩;refine wA9 20 ?_;go_wp2_with fail;have HWS:=O HL.out.keep.size;refine((L5 HBD.out _ (Rd.of_owns HO.out):Calls _ _ _ w4 (FG w4 D Z))).mono ?_;rintro e w5 ⟨g,b2,lc,rfl,hled,hk⟩;have HLE:=O hled;have HW0:=O (lt_of_block HC.out.top);clear hled;have hS4:=HSI.out _ ⟨(HSE.out _ hS3).1.trans hk.any,(HSE.out _ hS3).2.keep0 hk⟩;replace HL:=O (HL.out.keeps hk);replace HC:=O (HC.out.keep0 hk);replace HA:=O (HA.out.keep0 hk);replace HO:=O (hk.owns HO.out fun _ _=>id);clear hS3 hk;go_wp2_with fail;refine⟨hS4,?_⟩;refine tna 21 (.tuple #[.pointer (some ⟨g,0,none⟩),.int .i64 0]) rfl hS4 ?_;refine tnb 22 (.pointer (some ⟨g,0,none⟩)) rfl hS4 ?_;refine tnb 23 (.int .i64 0) rfl hS4 ?_;refine tnb 24 (.pointer (some ⟨c,0,none⟩)) rfl hS4 ?_;refine tnb 25 (.pointer (some ⟨c,36,none⟩)) rfl hS4 ?_;refine wA9 26 ?_;refine sta 40 (.tmp 27) (.tmp 24) c 36 [.pointer (some ⟨g,0,none⟩)] HC.out.top (by rw[List.size_toArray,yA HPID.out];simp) (by kernel_rfl) (one9) ?_;intro w6 hk hb;rw[L6 _ _ _ HPID.out] at hb;have hS5:S w6:=HSI.out _ ⟨(HSE.out _ hS4).1.trans hk,_,hb,HPID.out⟩;have HLX:Hid (∀i,i=c->¬Own g b2 lc D i):=O (by rintro i rfl e;have:=(HLE.out.own_lt e).1;have:=HCLT.out;have:=HWS.out;omega);have HP:Hid (AY w c a m pid cp lv t D Z (.returned (.tuple #[])) w6):=O ⟨rfl,g,b2,lc,⟨hb,HPID.out⟩,(HLE.out.keep hk HLX.out).low (Nat.zero_le _),fun k e=>by have:=(HLE.out.own_lt e).1;have:=HWS.out;omega,HL.out.keep.any.trans hk⟩;clear hS4 hk hb;refine wpList_nil ?_;refine⟨hS5,?_⟩;refine wpAnyH_done (by kernel_rfl) ?_ _;clear hS5 HSE HSI HLs HCs HAs;clear HC HA HL HO HLE;go_wp2_with fail
 go_end0
 exact HP.out
theorem mkD(w:World)(D:Nat)(h:D≤8):(Instr.makeSlice 39 (.int .i64 (D:Int)) (.int .i64 (D:Int))).run Tryz.prog w=.ok (.slice (some ⟨w.heap.size,0,none⟩) D D) (w.alloc (.cells (Array.replicate D (Value.int .i64 0)) 3)):=by
 rcases D with _|_|_|_|_|_|_|_|_|D
 ·kernel_rfl
 ·kernel_rfl
 ·kernel_rfl
 ·kernel_rfl
 ·kernel_rfl
 ·kernel_rfl
 ·kernel_rfl
 ·kernel_rfl
 ·kernel_rfl
 ·omega
theorem mkd{w:World}{ops:Array Oper}{rest:List Oper}{o:Oper}{a:Act}{Q:Exit->Act->World->Prop}(x y:Operand)(D:Nat)(h8:D≤8)(h:∀b w',w.heap.size=b->aA aB w w'->w'.heap[b]?=some (.cells (Array.replicate D (Value.int .i64 0)) 3 (0,0))->wpList Tryz.prog ops Q rest (a.put o.dst (.slice (some ⟨b,0,none⟩) D D)) w')(hx:a.eval x=.int .i64 (D:Int):=by rfl)(hy:a.eval y=.int .i64 (D:Int):=by rfl)(hg:o.guard=none:=by rfl)(ho:o.op=.makeSlice 39 x y:=by rfl):wpList Tryz.prog ops Q (o::rest) a w:=by
 refine wpList_plain hg fun K hK=>?_
 unfold Oper.wp execOp;simp only[ho,hx,hy,Sem.run_bind,mkD w D h8,Result.andThen_ok];exact hK _ _ (h _ _ rfl ((aA.refl _ _).alloc _) (heap_alloc_new _ _))
def C1(P:Nat->List UInt8)(Mm:Nat->Nat->List UInt8):Nat->Nat->Nat->List UInt8
 | 0=>Mm
 | k+1=>gV (P k) (C1 P Mm k) k 5
theorem AZ(P:Nat->List UInt8)(Mm:Nat->Nat->List UInt8):∀(k d:Nat),d<k->C1 P Mm k d 0=P d
 | 0,d,h=>by omega
 | k+1,d,h=>by
   show gV (P k) (C1 P Mm k) k 5 d 0=P d
   by_cases e:d=k
   ·subst e;exact yI _ _ _ 5 (by decide)
   ·rw[vM _ _ _ e];exact AZ P Mm k d (by omega)
def DvI(w:World)(a:Nat)(B:Nat->Prop)(D Z:Nat)(P:Nat->List UInt8)(Mm:Nat->Nat->List UInt8)(nw k:Nat)(w':World):Prop:=
 ∃B' nw',bN w' a B' D Z (C1 P Mm k) nw'/\nw'≤nw+5*k/\(∀i,B' i->B i\/w.heap.size≤i)/\aA B w w'
def qA(w:World)(B:Nat->Prop)(D Z cp:Nat)(e:Ending)(w':World):Prop:=
 ∃c M B',e=.returned (.tuple #[.pointer (some ⟨c,0,none⟩),.int .i64 0])/\KI w' c ⟨D,Z,cp,[],M,0⟩ B'/\(∀k,B' k->B k\/w.heap.size≤k)/\aA B w w'
theorem DL{w:World}{a:Nat}{D Z nw:Nat}{B:Nat->Prop}{Mm:Nat->Nat->List UInt8}(ha:bN w a B D Z Mm nw)(pid:List UInt8)(hpid:pid.length=32)(cp:Nat)(hcp:1≤cp/\cp≤3/\cp≤D)(hn:nw≤1000):Calls Tryz.prog 62 #[.pointer (some ⟨a,0,none⟩),.agg (pid.map vb).toArray,.int .i64 (cp:Int)] w (qA w B D Z cp):=by
 have hbd:=ha.bd;have HBD:=O hbd;have hpl:(pid.map vb).length=32:=by rw[List.length_map];exact hpid
 have HPID:=O hpid;have HCP:=O hcp;have HLT:=O (fun i (e:B i)=>ha.lt e);have HA:=O ha;have HL:=O (Loc.nil aB aB w);have hD0:¬((D:Int)=0):=by omega
 have hc0:¬((cp:Int)<1):=by omega
 have hc3:¬((3:Int)<(cp:Int)):=by omega
 have hcD:¬((D:Int)<(cp:Int)):=by omega
 clear ha hpid;go_enter Tryz.func62,Tryz.ntmps62
 go_wp2_with ((with_reducible show WL _ _);refine bxL HL 37 (.tmp 0) (#[.pointer (some ⟨a,0,none⟩)]) ?_)
 intro b3 w1 hk HL;replace HA:=O (HA.out.keep0 hk);clear hk
 go_wp2_with ((with_reducible show WL _ _);refine bxL HL 24 (.tmp 1) ((pid.map vb).toArray) ?_)
 intro b4 w2 hk HL;replace HA:=O (HA.out.keep0 hk);clear hk;have c1:w2.cell? ⟨b3,0,none⟩=some (.pointer (some ⟨a,0,none⟩)):=(aD (i:=0) (HL.out.b 1) rfl)
 go_wp2_with fail;clear c1;refine(kC HA.out).mono ?_;rintro e w3 ⟨rfl,hk⟩;replace HL:=O (HL.out.keeps hk);replace HA:=O (HA.out.keep0 hk);clear hk;have c1:w3.cell? ⟨b3,0,none⟩=some (.pointer (some ⟨a,0,none⟩)):=(aD (i:=0) (HL.out.b 1) rfl)
 go_wp2_with fail;clear c1;refine(kC HA.out).mono ?_;rintro e w4 ⟨rfl,hk⟩;replace HL:=O (HL.out.keeps hk);replace HA:=O (HA.out.keep0 hk);clear hk;have c1:w4.cell? ⟨b3,0,none⟩=some (.pointer (some ⟨a,0,none⟩)):=(aD (i:=0) (HL.out.b 1) rfl)
 go_wp2_with fail;clear c1;refine(AL HA.out).mono ?_;rintro e w5 ⟨rfl,hk⟩;replace HL:=O (HL.out.keeps hk);replace HA:=O (HA.out.keep0 hk);clear hk;have c1:w5.cell? ⟨b3,0,none⟩=some (.pointer (some ⟨a,0,none⟩)):=(aD (i:=0) (HL.out.b 1) rfl)
 go_wp2_with ((with_reducible show WL _ _);refine wpList_load_mid rfl 24 (.tmp 4) rfl b4 0 rfl (pid.map vb) _ (aC (HL.out.b 0)) Tryz.underlying24 rfl (by rw[hpl];exact wF) ?_)
 clear c1;have HSZ:=O HL.out.keep.size;refine(Jy HA.out pid HPID.out cp).mono ?_;rintro e w6 ⟨c,m,rfl,hc,hm,hcg,hmg,hmc,hk⟩;have HC:=O hc;have HM:=O hm;have HCG:=O (And.intro (Nat.le_trans HSZ.out hcg) (Nat.le_trans HSZ.out hmg));have HMC:=O hmc;clear hc hm hcg hmg hmc;replace HL:=O (HL.out.keeps hk);replace HA:=O (HA.out.keep0 hk);clear hk;go_wp2_with fail;have HS38:=O HL.out.keep.size;refine(AM HC.out HA.out).mono ?_;rintro e w7 ⟨v1,rfl,ho,hk⟩;obtain⟨va,vc,rfl,-,-⟩:=(Rd.of_owns ho).form;have HO:=O ho;clear ho;replace HL:=O (HL.out.keeps hk);replace HA:=O (HA.out.keep0 hk);replace HC:=O (HC.out.keep0 hk);replace HM:=O (hk.blk HM.out id);clear hk;go_wp2_with fail;refine(DD w7 (.slice va D vc) ((List.range D).map fun(i:Nat)=>(i:Int)) (by rw[List.length_map,List.length_range,List.map_map];exact Rd.of_owns HO.out) (by rw[List.length_map,List.length_range];omega) 107 b3 (enters_of Tryz.func107 (by kernel_rfl) rfl) (fun x hx w' k=>by obtain⟨i,hi,rfl⟩:=List.mem_map.1 hx;have hi:=List.mem_range.1 hi;exact DC (HA.out.keep0 k) (k.blk (HL.out.b 1) id) (i:Int) (by omega) (by omega))).mono ?_;rintro e w8 ⟨rfl,hk⟩;replace HL:=O (HL.out.keeps hk);replace HA:=O (HA.out.keep0 hk);replace HC:=O (HC.out.keep0 hk);replace HM:=O (hk.blk HM.out id);replace HO:=O (hk.owns HO.out fun _ _=>id);clear hk;have HNV:Hid (∀i,(Value.slice va D vc).ownBlock=some i->w.heap.size≤i):=O (fun i hi=>by have:=bA HO.out hi;have:=HS38.out;omega);go_wp2_with fail;have HNB:=O (fun i (h:w.heap.size≤i) (e:B i)=>show False from by have:=HLT.out i e;omega);have HB3:=O (HL.out.b 1);have H3G:=O (HL.out.lt 1).1;have HKW:=O HL.out.keep;have HCLT:=O (lt_of_block HC.out.top);have HMLT:=O (lt_of_block HM.out);obtain⟨W0,hW0⟩:∃W0,w8=W0:=⟨_,rfl⟩
 rw[hW0] at HC HM HA HO HB3 HKW HCLT HMLT ⊢;clear HL hW0;have hx0:=HLT
 go_loopw [46] (fun i wr=>∃k:Nat,k≤D/\i=.int .i64 k/\Hid (DvI W0 a B D Z (fun d=>dW (dE pid d D cp Z)) Mm nw k wr)) (fun i _=>D-(intOf i).toNat)
 case atStart=>exact⟨0,by omega,rfl,O ⟨B,nw,HA.out,by omega,fun i h=>.inl h,aA.refl _ _⟩⟩
 case round =>
  obtain⟨k,hk,rfl,HI⟩:=hrel;obtain⟨B2,nw2,ha2,hn2,hB2,hkw⟩:=HI.out;have HA2:=O ha2;have HN2:=O hn2;have HB2:=O hB2;have HK2:=O hkw;have HC2:=O (HC.out.keep hkw (HNB.out _ HCG.out.1));have HM2:Hid (eX wr m a):=O (hkw.blk HM.out (HNB.out _ HCG.out.2));have HO2:=O (hkw.owns HO.out fun i hi=>HNB.out _ (HNV.out i hi));have HB32:=O (hkw.blk HB3.out (HNB.out _ H3G.out));have HCB2:Hid (¬B2 c/\¬B2 m):=O ⟨fun e=>(hB2 c e).elim (HNB.out _ HCG.out.1) fun h=>by have:=HCLT.out;omega,fun e=>(hB2 m e).elim (HNB.out _ HCG.out.2) fun h=>by have:=HMLT.out;omega⟩;clear ha2 hn2 hB2 hkw HI
  by_cases hk8:k<D
  ·have hk0:(0:Int)≤(k:Int):=by omega
   have hk1:(k:Int)<(D:Int):=by omega
   obtain⟨g,o,cap',hv,hat⟩:=Bx (Rd.of_owns HO2.out) (wL hk8)
   have hvc:(k:Int)<(vc:Int):=by
    obtain⟨_,a',c',h1,h2,h3,-⟩:=Rd.of_owns HO2.out;cases h1;omega
   have HV9:=O hv;obtain rfl:va=some ⟨g,o,none⟩:=by cases hv;rfl
   have HX:=O hat;clear hv hat;have c1:wr.cell? ⟨g,o+k,none⟩=some (.int .i64 (k:Int)):=HX.out;go_wp2_with fail;clear c1;refine(JN HC2.out HA2.out hk8 HCB2.out.1 HCP.out (by have:=HN2.out;omega)).mono ?_;rintro e w5 ⟨rfl,B3,nw3,ha3,hn3,hB3,hk3⟩;have HE:Hid (DvI W0 a B D Z (fun d=>dW (dE pid d D cp Z)) Mm nw (k+1) w5):=O ⟨B3,nw3,ha3,by have:=HN2.out;omega,fun i hi=>(hB3 i hi).elim (HB2.out i) (fun h=>.inr (Nat.le_trans HK2.out.size h)),HK2.out.trans' hk3 (fun _ _ h=>h) (fun i hi e=>(HB2.out i e).elim id fun h=>by omega)⟩;clear ha3 hn3 hB3 hk3 HC2 HM2 HO2 HB32 HA2 HB2 HK2 HX;go_wp2_with fail
   go_roundw
   case rel=>exact⟨k+1,by omega,by go_num,HE⟩
   case measure=>simp[intOf];omega
  ·obtain rfl:D=k:=by omega
   have HL:=O (Loc.nil aB aB wr);have HAL:=O (fun i (e:B2 i)=>HA2.out.lt e);have hD8:D≤8:=HBD.out.2.1;have c1:wr.cell? ⟨b3,0,none⟩=some (.pointer (some ⟨a,0,none⟩)):=(aD (i:=0) HB32.out rfl)
   go_wp2_with fail;clear c1;refine(kC HA2.out).mono ?_;rintro e we ⟨rfl,hk⟩;replace HL:=O (HL.out.keeps hk);replace HA2:=O (HA2.out.keep0 hk);replace HC2:=O (HC2.out.keep0 hk);replace HM2:=O (hk.blk HM2.out id);replace HB32:=O (hk.blk HB32.out id);clear hk
   go_wp2_with ((with_reducible show WL _ _);refine mkd (.tmp 59) (.tmp 59) D hD8 ?_)
   intro b60 wf hbs hk hb;replace HL:=O (HL.out.new (fun _ h=>h.elim) hbs hk hb);replace HA2:=O (HA2.out.keep0 hk);replace HC2:=O (HC2.out.keep0 hk);replace HM2:=O (hk.blk HM2.out id);replace HB32:=O (hk.blk HB32.out id);clear hbs hk hb;have HKA:=O HL.out.keep;have HBL:=O (HL.out.b 0);have HLG:=O (HL.out.lt 0).1
   go_wp2_with ((with_reducible show WL _ _);refine sta 39 (.tmp 62) (.tmp 60) c 35 [.slice (some ⟨b60,0,none⟩) D D] HC2.out.top (by rw[List.size_toArray,yA HPID.out];simp) (by kernel_rfl) (one9) ?_)
   intro w8 hk hb;rw[L7 _ _ _ HPID.out] at hb;have HC4:Hid (bC w8 c a m pid cp (.slice (some ⟨b60,0,none⟩) D D) (.pointer none) 0):=O ⟨hb,HPID.out⟩;have HCW:=O (And.intro HCLT.out HK2.out.size);have HL8:=O (hk.blk HBL.out (fun e=>by have:=HLG.out;have:=HCW.out;omega));replace HA2:=O (HA2.out.keep hk (by rintro i rfl;exact HCB2.out.1));replace HM2:Hid (eX w8 m a):=O (hk.blk HM2.out (fun e=>by have:=HMC.out;omega));have HK8:Hid (aA (fun i=>i=c) wr w8):=O (HKA.out.any.trans hk);clear hk hb HL HC2 HB32 HKA HBL;go_wp2_with fail;refine(H8 HC4.out HA2.out HCB2.out.1).mono ?_;rintro e w9 ⟨rfl,g,b2,lc,hc5,hled,hlo,hk⟩
   have HP:Hid (qA w B D Z cp (.returned (.tuple #[.pointer (some ⟨c,0,none⟩),.int .i64 0])) w9):=by
    refine O ⟨c,C1 (fun d=>dW (dE pid d D cp Z)) Mm D,_,rfl,⟨⟨HBD.out.1,HBD.out.2.1,HBD.out.2.2.1,HBD.out.2.2.2,HCP.out.1,HCP.out.2.1,HCP.out.2.2,(by show (0:Int)≤0;decide),(by show (0:Int)<2147483648;decide)⟩,a,m,b60,g,b2,lc,pid,B2,nw2,⟨⟨hc5,HA2.out.keep hk (by rintro i rfl;exact HCB2.out.1),hk.blk HM2.out (fun e=>by have:=HMC.out;omega),hk.blk HL8.out (fun e=>by have:=HLG.out;have:=HCW.out;omega),HCP.out,fun d hd=>AZ _ _ _ _ hd⟩,hled,fun k e=>?_,?_,?_⟩,rfl⟩,?_,?_⟩
    ·have h1:=hlo k e
     have h2:=HK8.out.size;have h3:=HCW.out;have h4:=HMC.out;have h5:=lt_of_block HL8.out;refine⟨fun e2=>?_,by omega,by omega,by omega⟩;have:=HA2.out.lt e2;omega
    ·exact⟨HCB2.out.1,HCB2.out.2,fun e=>by have:=HAL.out _ e;have:=HLG.out;omega⟩
    ·have h1:=Gf [] D Z
     have h2:D*Z≤8*4096:=Nat.mul_le_mul hD8 HBD.out.2.2.2;have:=HN2.out;show nw2+jV (bW [] D Z)≤40000;omega
    ·rintro k (rfl|rfl|rfl|e|e)
     ·exact .inr HCG.out.1
     ·exact .inr HCG.out.2
     ·exact .inr (by have:=HLG.out;have:=HK2.out.size;have:=HKW.out.size;omega)
     ·exact(HB2.out k e).imp id fun h=>Nat.le_trans HKW.out.size h
     ·exact .inr (by have:=hlo k e;have:=HK8.out.size;have:=HK2.out.size;have:=HKW.out.size;omega)
    ·have k1:aA B w wr:=HKW.out.any.trans HK2.out
     have k2:aA (fun i=>i=c) wr w9:=HK8.out.trans hk;exact k1.trans' k2 (fun _ _ h=>h) (fun i hi e=>by have:=HCG.out.1;omega)
   clear hc5 hled hlo hk HC4 HA2 HM2 HL8;go_wp2_with fail
   go_ret2
   exact HP.out
def ofC(x:UInt8)(k:Nat):List Value:=(List.range 256).map fun i=>if i<k then vb x else .int .u8 0
theorem qS(x:UInt8)(k:Nat):(ofC x k).length=256:=by unfold ofC;simp
theorem JR(x:UInt8):ofC x 0=dD:=by
 rw[show dD=List.replicate 256 (.int .u8 0) from rfl];refine List.eq_replicate_iff.2 ⟨qS x 0,fun v hv=>?_⟩;unfold ofC at hv;obtain⟨i,-,rfl⟩:=List.mem_map.1 hv;exact if_neg (by omega)
theorem JS(x:UInt8):ofC x 256=(sec x).map vb:=by
 unfold ofC sec;rw[List.map_replicate];refine List.eq_replicate_iff.2 ⟨by simp,fun v hv=>?_⟩;obtain⟨i,hi,rfl⟩:=List.mem_map.1 hv;exact if_pos (List.mem_range.1 hi)
theorem Lp(x:UInt8)(k:Nat)(hk:k<256):spl (ofC x k).toArray k [vb x]=(ofC x (k+1)).toArray:=by
 show (ofC x k).toArray.setIfInBounds k (vb x)=_;rw[List.setIfInBounds_toArray]
 congr 1
 refine List.ext_getElem (by rw[List.length_set,qS,qS]) fun i h1 h2=>?_
 rw[List.getElem_set];have q:∀j h,(ofC x j)[i]'h=if i<j then vb x else .int .u8 0:=fun j h=>by simp[ofC]
 rw[q,q]
 by_cases e:k=i
 ·subst e;rw[if_pos rfl,if_pos (by omega)]
 ·rw[if_neg e]
  by_cases d:i<k
  ·rw[if_pos d,if_pos (by omega)]
  ·rw[if_neg d,if_neg (by omega)]
def uM(w:World)(x:UInt8)(e:Ending)(w':World):Prop:=∃v,e=.returned v/\w'.ownsRow w.heap.size 5 1 v 256 ((sec x).map vb)/\aA aB w w'
def C3(w:World)(Z:Nat)(e:Ending)(w':World):Prop:=∃c M B,e=.returned (.pointer (some ⟨c,0,none⟩))/\KI w' c ⟨2,Z,2,[],M,0⟩ B/\(∀k,B k->w.heap.size≤k)/\aA aB w w'
theorem gC{w:World}{base:Nat}{B:Nat->Prop}{v:Value}{xs:List Value}(ho:w.ownsRow base 5 1 v 256 xs)(hB:∀i,B i->i<base):∀i,v.ownBlock=some i->¬B i/\i<w.heap.size:=fun i hi =>
 ⟨fun e=>by have:=bA ho hi;have:=hB i e;omega,by obtain⟨cur,hc⟩:=aN ho hi;exact lt_of_block hc⟩
theorem yM{a b:UInt8}(h:a≠b):sec a≠sec b:=fun e=>h (Ek e)
theorem lB{P:Program}{ops:Array Oper}{Q:Exit->Act->World->Prop}{id:Nat}{a:Act}{w:World}{α β γ δ:Type}(F:α->β->γ->δ->Act)(R:α->β->γ->δ->World->Prop)(h:(Code.region id ops true).wp P (fun x a w=>x=.normal/\∃p q r s,a=F p q r s/\R p q r s w) a w)(hR:∀p q r s w,R p q r s w->Q .normal (F p q r s) w):(Code.region id ops true).wp P Q a w:=
 wp_mono h fun e a w h=>by obtain⟨rfl,p,q,r,s,rfl,h2⟩:=h;exact hR p q r s w h2
theorem A0{w:World}{base e size n:Nat}{v:Value}{xs:List Value}(h:w.ownsRow base e size v n xs)(hx:0<xs.length):∃g cap,v=.slice (some ⟨g,0,none⟩) n cap/\∀k u,xs[k]?=some u->w.cell? ⟨g,k,none⟩=some u:=by
 obtain⟨h0,a,cap,rfl,h1,h2,h3,h4⟩:=Rd.of_owns h;obtain⟨g,o,rfl,hc⟩:=h4 hx;rcases h.2 with⟨h9,-⟩|⟨g',cap',cur,h9,-⟩
 ·cases h9
 ·cases h9
  exact⟨g,cap,rfl,fun k u hk=>by have:=hc k u hk;rwa [Nat.zero_add] at this⟩
theorem rY(w:World)(av bv:Value)(xs ys:List UInt8)(ha:Rd w 1 av xs.length (xs.map vb))(hb:Rd w 1 bv ys.length (ys.map vb))(b:Bool)(he:decide (xs=ys)=b):Calls Tryz.prog 26 #[av,bv] w (aT w b):=
 (Ay w av bv xs ys ha hb b he).mono fun e w' h=>by obtain⟨h1,rfl⟩:=h;exact⟨h1,aA.refl _ _⟩
theorem JT{w:World}{c:Nat}{S:Kor}{B:Nat->Prop}(h:KI w c S B){N:Nat}(hN:S.room N)(n:Int)(hn:n=(N:Int)):Calls Tryz.prog 22 #[.pointer (some ⟨c,0,none⟩)] w (aK w (.tuple #[.int .i64 n,.int .i64 0])):=
 h.rooms.mono fun e w' h=>by obtain⟨M,h1,rfl,h2⟩:=h;rw[hn,hN.unique h1];exact⟨rfl,h2⟩
theorem Loc.turn2{S B L L':Nat->Prop}{w0 w w':World}{l:List (Nat×Array Value×TypeId)}(h:Loc S L w0 w l)(k:aA B w w')(hL:∀k,B k->L k)(hS:∀k,k<w0.heap.size->B k->S k)(hB:∀k,k<w.heap.size->L' k->L k):Loc S L' w0 w' l:=
 ⟨h.keep.trans' k (fun _ _ h=>h) hS,h.ge,h.nd,fun x hx=>k.blk (h.at_ x hx) (fun e=>h.ap x hx (hL _ e)),fun x hx hb=>h.ap x hx (hB _ (lt_of_block (h.at_ x hx)) hb)⟩
theorem bsA{P:Program}{ops:Array Oper}{rest:List Oper}{o:Oper}{a:Act}{w:World}{Q:Exit->Act->World->Prop}(t e:TypeId)(x:Operand)(hu:P.underlying t=some (.slice e)){z:Value}{size bytes:Nat}(hinf:(P.info? e).map (fun i=>(i.zero,i.size,i.bytes))=some (some z,size,bytes))(hsz:0<size)
 (vs:List Value) (hvs:vs.length=size) (hsmall:size≤2 ^ 24) (h:∀b w',w.heap.size=b->aA aB w w'->w'.heap[b]?=some (.cells vs.toArray e (0,0))->wpList P ops Q rest (a.put o.dst (.slice (some ⟨b,0,none⟩) 1 1)) w')
 (hx:a.eval x=.agg vs.toArray:=by rfl) (hg:o.guard=none:=by rfl) (ho:o.op=.buildSlice t 1 #[(0,x)]:=by rfl):wpList P ops Q (o::rest) a w:=
 bQ hg t e x ho hu hinf hsz vs hvs hsmall hx (h _ _ rfl ((aA.refl _ _).alloc _) (heap_alloc_new _ _))
def p05:Pt:=⟨[⟨0,5⟩],1,2,eK⟩
theorem JU:p05.hole=false:=by decide
theorem Lq:p05.may=true:=by decide
theorem Lr(w:World):(Instr.build 74 #[(0,.int .i64 0),(1,.int .i64 5)]).run Tryz.prog w=.ok (.agg (aO ⟨0,5⟩).toArray) w:=by kernel_rfl
theorem JV(b:Nat)(w:World):(Instr.build 26 #[(0,.slice (some ⟨b,0,none⟩) 1 1),(1,.int .i64 1),(2,.int .i64 2)]).run Tryz.prog w=.ok (.agg (aH (.slice (some ⟨b,0,none⟩) 1 1) p05).toArray) w:=by kernel_rfl
theorem My{w:World}{b:Nat}(hb:w.heap[b]?=some (.cells (aO ⟨0,5⟩).toArray 74 (0,0))):PtV w (.slice (some ⟨b,0,none⟩) 1 1) p05:=
 ⟨dL (n:=1) (size:=2) hb rfl (by unfold maxLen;omega),fun x hx=>by rw[show p05.addrs=[⟨0,5⟩] from rfl,List.mem_singleton] at hx;subst hx;exact⟨⟨by decide,by decide⟩,by decide,by decide⟩,rfl⟩
def BB(w:World)(e:Ending)(w':World):Prop:=e=.returned (.bool true)/\aA aB w w'
def LR(B:Nat->Prop)(rs:List (Value×Pt))(k:Nat):Prop:=B k\/∃r∈rs,r.1.ownBlock=some k
structure Cs(B0:Nat->Prop)(w0:World)(c:Nat)(S:Kor)(B:Nat->Prop)(rs:List (Value×Pt))(w:World)(l:List (Nat×Array Value×TypeId)):Prop where
 loc:Loc B0 (LR B rs) w0 w l
 ki:KI w c S B
 pv:∀r∈rs,aJ w B r.1 r.2
 bb:∀i,B i->B0 i\/w0.heap.size≤i
section
variable {B0:Nat->Prop}{w0 w w':World}{c:Nat}{S T:Kor}{B B':Nat->Prop}{rs rs':List (Value×Pt)}{l:List (Nat×Array Value×TypeId)}
theorem Cs.lt_(h:Cs B0 w0 c S B rs w l){k:Nat}(hk:LR B rs k):k<w.heap.size:=by
 rcases hk with hk|⟨r,hr,hk⟩
 ·exact h.ki.lt hk
 ·exact((h.pv r hr).off k hk).2.lt
theorem Cs.keep(h:Cs B0 w0 c S B rs w l):aA B0 w0 w:=h.loc.keep
theorem Cs.b(h:Cs B0 w0 c S B rs w l)(i:Nat){b:Nat}{cs:Array Value}{t:TypeId}(hi:l[i]?=some (b,cs,t):=by rfl):w.heap[b]?=some (.cells cs t (0,0)):=h.loc.b i hi
theorem Cs.ne(h:Cs B0 w0 c S B rs w l)(i j:Nat){b b':Nat}{cs cs':Array Value}{t t':TypeId}(hij:j≠i:=by decide)(hi:l[i]?=some (b,cs,t):=by rfl)(hj:l[j]?=some (b',cs',t'):=by rfl):b'≠b:=bI h.loc.nd hi j hij hj
theorem Cs.keeps(h:Cs B0 w0 c S B rs w l)(k:aA aB w w'):Cs B0 w0 c S B rs w' l:=⟨h.loc.keeps k,h.ki.keep0 k,fun r hr=>(h.pv r hr).keep0 k,h.bb⟩
theorem Cs.new(h:Cs B0 w0 c S B rs w l){b:Nat}{cs:Array Value}{t:TypeId}(_:True)(hb:w.heap.size=b)(k:aA aB w w')(hn:w'.heap[b]?=some (.cells cs t (0,0))):Cs B0 w0 c S B rs w' ((b,cs,t)::l):=
 ⟨h.loc.new (fun _ e=>h.lt_ e) hb k hn,h.ki.keep0 k,fun r hr=>(h.pv r hr).keep0 k,h.bb⟩
theorem Cs.set(h:Cs B0 w0 c S B rs w l)(i:Nat){b:Nat}{cs cs':Array Value}{t:TypeId}(k:aA (fun k=>k=b) w w')(hn:w'.heap[b]?=some (.cells cs' t (0,0)))(hi:l[i]?=some (b,cs,t):=by rfl):Cs B0 w0 c S B rs w' (l.set i (b,cs',t)):=by
 have ha:=h.loc.ap _ (List.mem_of_getElem? hi);exact⟨h.loc.set i k hn hi,h.ki.keepT k (fun i e hq=>by subst e;exact ha (.inl hq)),fun r hr=>(h.pv r hr).keepT k (fun i hq e=>by subst e;exact ha (.inr ⟨r,hr,hq⟩)),h.bb⟩
theorem Cs.swap{x y:Nat×Array Value×TypeId}(h:Cs B0 w0 c S B rs w (x::y::l)):Cs B0 w0 c S B rs w (y::x::l):=by
 have hm:∀z,z∈y::x::l->z∈x::y::l:=fun z hz=>by
  rcases List.mem_cons.1 hz with h|hz
  ·exact List.mem_cons_of_mem _ (List.mem_cons.2 (.inl h))
  ·rcases List.mem_cons.1 hz with h|hz
   ·exact List.mem_cons.2 (.inl h)
   ·exact List.mem_cons_of_mem _ (List.mem_cons_of_mem _ hz)
 refine⟨⟨h.loc.keep,fun z hz=>h.loc.ge z (hm z hz),?_,fun z hz=>h.loc.at_ z (hm z hz),fun z hz=>h.loc.ap z (hm z hz)⟩,h.ki,h.pv,h.bb⟩;have:=h.loc.nd;simp only[List.map_cons,List.nodup_cons,List.mem_cons,not_or] at this ⊢;exact⟨⟨fun e=>this.1.1 e.symm,this.2.1⟩,this.1.2,this.2.2⟩
theorem Cs.tail{x:Nat×Array Value×TypeId}(h:Cs B0 w0 c S B rs w (x::l)):Cs B0 w0 c S B rs w l:=⟨h.loc.tail,h.ki,h.pv,h.bb⟩
theorem Cs.sub(h:Cs B0 w0 c S B rs w l)(hs:∀r∈rs',r∈rs):Cs B0 w0 c S B rs' w l:=
 ⟨⟨h.loc.keep,h.loc.ge,h.loc.nd,h.loc.at_,fun x hx hb=>h.loc.ap x hx (hb.imp id fun ⟨r,hr,e⟩=>⟨r,hs r hr,e⟩)⟩,h.ki,fun r hr=>h.pv r (hs r hr),h.bb⟩
theorem Cs.laid(h:Cs B0 w0 c S B rs w l){v:Value}{p:Pt}(hp:aJ w' B' v p)(hk:KI w' c T B')(hb:∀k,B' k->B k\/w.heap.size≤k)(hn:eF w v)(k:aA B w w'):Cs B0 w0 c T B' ((v,p)::rs) w' l:=by
 refine⟨h.loc.turn2 k (fun _ e=>.inl e) (fun i hi e=>(h.bb i e).elim id fun e=>by omega) ?_,hk,?_,fun i e=>(hb i e).elim (h.bb i) fun e=>.inr (Nat.le_trans h.keep.size e)⟩
 ·rintro i hi (e|⟨r,hr,e⟩)
  ·exact(hb i e).elim .inl fun e=>by omega
  ·rcases List.mem_cons.1 hr with rfl|hr
   ·have:=hn i e;omega
   ·exact .inr ⟨r,hr,e⟩
 ·intro r hr
  rcases List.mem_cons.1 hr with rfl|hr
  ·exact hp
  ·exact(h.pv r hr).keep k hb
theorem Cs.start(h:KI w c S B):Cs B w c S B [] w []:=⟨Loc.nil _ _ w,h,(fun r hr=>by cases hr),fun _ e=>.inl e⟩
theorem Cs.start1(h:KI w c S B){v:Value}{p:Pt}(hp:aJ w B v p):Cs B w c S B [(v,p)] w []:=⟨Loc.nil _ _ w,h,(fun r hr=>by cases List.mem_singleton.1 hr;exact hp),fun _ e=>.inl e⟩
theorem Cs.pv0{v:Value}{p:Pt}(h:Cs B0 w0 c S B rs w l)(i:Nat)(hi:rs[i]?=some (v,p):=by rfl):aJ w B v p:=h.pv _ (List.mem_of_getElem? hi)
theorem Cs.fin{w2:World}(h:Cs B0 w0 c S B rs w l)(hB:∀k,B0 k->w2.heap.size≤k)(k:aA aB w2 w0):aA aB w2 w:=
 k.trans' h.keep (fun _ _ h=>h.elim) (fun i hi e=>by have:=hB i e;omega)
end
theorem nmP{w:World}{B:Nat->Prop}{v:Value}{p:Pt}(h:aJ w B v p):∃c,Hid (aH v p=c)/\c.length=35/\Hid (∀u∈c,u.oneCell'=true):=⟨_,O rfl,aL h.pt.sum,O (bD h.pt)⟩
theorem fW{w:World}{v:Value}(h:v=.slice none 0 0\/eF w v):eF w v:=h.elim (fun e=>by rw[e];exact eF.nil w) id
structure Ds(SP:Nat->Prop)(wd:World)(B0:Nat->Prop)(w0:World)(c:Nat)(S:Kor)(B:Nat->Prop)(rs:List (Value×Pt))(w:World)(l:List (Nat×Array Value×TypeId)):Prop extends Cs B0 w0 c S B rs w l where
 dr:aA SP wd w
section
variable {SP:Nat->Prop}{wd:World}{B0:Nat->Prop}{w0 w w':World}{c:Nat}{Sk T:Kor}{B B':Nat->Prop}{rs rs':List (Value×Pt)}{l:List (Nat×Array Value×TypeId)}{P:Program}{ops:Array Oper}{o:Oper}{a:Act}{Q:Exit->Act->World->Prop}{md:Region.Mode}{S:World->Prop}{fuel:Nat}{L:Array Bool}
theorem Ds.keeps(h:Ds SP wd B0 w0 c Sk B rs w l)(k:aA aB w w'):Ds SP wd B0 w0 c Sk B rs w' l:=⟨h.toCs.keeps k,h.dr.trans k.any⟩
theorem Ds.laid(h:Ds SP wd B0 w0 c Sk B rs w l)(hSP:∀i,i<wd.heap.size->B i->SP i){v:Value}{p:Pt}(hp:aJ w' B' v p)(hk:KI w' c T B')(hb:∀k,B' k->B k\/w.heap.size≤k)(hn:eF w v)(k:aA B w w'):Ds SP wd B0 w0 c T B' ((v,p)::rs) w' l:=
 ⟨h.toCs.laid hp hk hb hn k,h.dr.trans' k (fun _ _ e=>e) hSP⟩
theorem Ds.own(h:Ds B wd B0 w0 c Sk B rs wd l)(k:aA B wd w')(i:Nat){b:Nat}{cs:Array Value}{t:TypeId}(hi:l[i]?=some (b,cs,t):=by rfl):w'.heap[b]?=some (.cells cs t (0,0)):=k.blk (h.b i hi) fun e=>h.loc.ap _ (List.mem_of_getElem? hi) (.inl e)
theorem alD(HL:Hid (Ds SP wd B0 w0 c Sk B rs w l))(HSI:Hid (∀w',aA SP wd w'->S w'))(T:TypeId)(z:Value)(cs:Array Value)(hz:Hid (∀w,(zeroValue T).run P w=.ok z w))
 (h:∀b w',wd.heap.size≤b->aA aB w w'->Hid (Ds SP wd B0 w0 c Sk B rs w' ((b,cs,T)::l))->wpAnyH P md ops Q S fuel L (a.put o.dst (.pointer (some ⟨b,0,none⟩))) w')
 (hcs:z.cells=cs:=by rfl) (hg:o.guard=none:=by rfl) (ho:o.op=.alloc T:=by rfl):wpList P ops (Exit.then (fun a' w'=>S w'/\wpAnyH P md ops Q S fuel L a' w') Q) [o] a w:=
 al T z cs hz (fun b w' hbs hk hb=>wpList_nil ⟨HSI.out _ (HL.out.dr.trans hk.any),h b w' (by have:=HL.out.dr.size;omega) hk (O ⟨HL.out.toCs.new trivial hbs hk hb,HL.out.dr.trans hk.any⟩)⟩) hcs hg ho
theorem stD(HL:Hid (Ds SP wd B0 w0 c Sk B rs w l))(HSI:Hid (∀w',aA SP wd w'->S w'))(i:Nat){b:Nat}{cs:Array Value}{t:TypeId}(hi:l[i]?=some (b,cs,t))(T:TypeId)(x y:Operand)(vs:List Value)(hb9:wd.heap.size≤b\/SP b)
 (hfit:vs.length=cs.size) (hs:(P.info? T).map (·.size)=some vs.length) (h1:∀v∈vs,v.oneCell'=true)
 (h:∀w',Hid (Ds SP wd B0 w0 c Sk B rs w' (l.set i (b,vs.toArray,t)))->wpAnyH P md ops Q S fuel L (a.put o.dst undef) w')
 (hx:a.eval x=.pointer (some ⟨b,0,none⟩):=by rfl) (hy:(a.eval y).cells=vs.toArray:=by rfl) (hg:o.guard=none:=by rfl) (ho:o.op=.store T x y:=by rfl):wpList P ops (Exit.then (fun a' w'=>S w'/\wpAnyH P md ops Q S fuel L a' w') Q) [o] a w:=
 sta T x y b 0 vs (HL.out.b i hi) (by omega) hs h1 (fun w' hk hb=>by
  rw[aI _ _ hfit] at hb;have hd:aA SP wd w':=HL.out.dr.trans' hk (fun _ _ h=>h) (fun j hj e=>hb9.elim (fun h=>by omega) (fun h=>by rw[e];exact h));exact wpList_nil ⟨HSI.out _ hd,h w' (O ⟨HL.out.toCs.set i hk hb hi,hd⟩)⟩) hx hy hg ho
end
theorem C4{P:Program}{ops:Array Oper}{Q:Exit->Act->World->Prop}{md:Region.Mode}{S:World->Prop}(k l m:Nat){o o' o'':Oper}{fuel:Nat}{listed:Array Bool}{a:Act}{w:World}(ho:ops[k]?=some o)(ho':ops[l]?=some o')(ho'':ops[m]?=some o'')(hr:Region.ready md ops listed=[k,l,m])
 (h:wpList P ops (Exit.then (fun a' w'=>S w'/\wpAnyH P md ops Q S fuel (listed.setIfInBounds k true) a' w') Q) [o] a w)
 (h':wpList P ops (Exit.then (fun a' w'=>S w'/\wpAnyH P md ops Q S fuel (listed.setIfInBounds l true) a' w') Q) [o'] a w)
 (h'':wpList P ops (Exit.then (fun a' w'=>S w'/\wpAnyH P md ops Q S fuel (listed.setIfInBounds m true) a' w') Q) [o''] a w):wpAnyH P md ops Q S (fuel+1) listed a w:=
 ⟨fun h1=>(by rw[hr] at h1;cases h1),fun j hj=>by
  rw[hr] at hj;have:j=k\/j=l\/j=m:=by simpa using hj
  rcases this with rfl|rfl|rfl
  ·exact fG ho h
  ·exact fG ho' h'
  ·exact fG ho'' h''⟩
theorem jG{P:Program}{ops:Array Oper}{Q:Exit->Act->World->Prop}{id:Nat}{a:Act}{B0:Nat->Prop}{w0 w:World}{c:Nat}{Sk:Kor}{B:Nat->Prop}{rs:List (Value×Pt)}{l:List (Nat×Array Value×TypeId)}(SP:Nat->Prop)(HL:Hid (Cs B0 w0 c Sk B rs w l))(hm:P.follows .mixedOrders=true)
 (h:∀wd (S:World->Prop),Hid (∀w',S w'->aA SP wd w')->Hid (∀w',aA SP wd w'->S w')->aA aB w wd->Hid (Ds SP wd B0 w0 c Sk B rs wd l)->wpAnyH P .any ops (zO Q) S ops.size (Array.replicate ops.size false) a wd):(Code.region id ops true).wp P Q a w:=by
 have hd:=(aA.refl aB w).drew;exact eI (S:=fun w'=>aA SP w.drew w') hm (h w.drew (fun w'=>aA SP w.drew w') (O fun _ h=>h) (O fun _ h=>h) hd (O ⟨HL.out.keeps hd,aA.refl _ _⟩))
theorem ldD{P:Program}{ops:Array Oper}{S:World->Prop}{o:Oper}{a:Act}(ty:TypeId)(x:Operand)(b k:Nat)(cs:List Value)(d:TypeDesc)(hc:∀w,S w->w.rangeAt b k cs)(hu:P.underlying ty=some d)(hi:(P.info? ty).map (·.size)=some cs.length)(hw:Region.wanted o (yielded ops a.tmps)=true:=by rfl)
 (ho:o.op=.load ty x:=by rfl) (hx:a.eval x=.pointer (some ⟨b,k,none⟩):=by rfl) (hd:d.isRow=true:=by rfl):YieldsIf P ops S o (.agg cs.toArray) a:=
 yieldsIf_load_mid hw ty x ho b k hx cs d hc hu hd hi
theorem lC{P:Program}{fn:Func}{p q u v:Tmp}{ty uy:TypeId}(h:fn.results=#[.cell p ty,.cell q uy,.tmp u,.tmp v])(tmps:Array Value)(w:World)(g g2:Nat)(t t2:TypeId)(cs cs2:Array Value)(fr fr2:Nat×Nat)(d d2:TypeDesc)
 (hp:tmps.getD p undef=.pointer (some ⟨g,0,none⟩)) (hq:tmps.getD q undef=.pointer (some ⟨g2,0,none⟩)) (hg:w.heap[g]?=some (.cells cs t fr)) (hg2:w.heap[g2]?=some (.cells cs2 t2 fr2)) (hu:P.underlying ty=some d) (hd:(match d with|.struct _|.array _ _=>true|_=>false)=true) (hi:(P.info? ty).map (·.size)=some cs.size)
 (hu2:P.underlying uy=some d2) (hd2:(match d2 with|.struct _|.array _ _=>true|_=>false)=true) (hi2:(P.info? uy).map (·.size)=some cs2.size):(results fn tmps).run P w=.ok (.tuple #[.agg cs,.agg cs2,tmps.getD u undef,tmps.getD v undef]) w:=by
 simp only[Array.getD_eq_getD_getElem?] at hp hq ⊢;simp[results,h,hp,hq,asAddr,Sem.run_bind,Result.andThen,run_loadVar_row w g t ty cs fr d hg hu hd hi,run_loadVar_row w g2 t2 uy cs2 fr2 d2 hg2 hu2 hd2 hi2]
theorem sD9 {SP:Nat->Prop}{wd:World}{B0:Nat->Prop}{w0 w:World}{c:Nat}{Sk:Kor}{B:Nat->Prop}{rs:List (Value×Pt)}{l:List (Nat×Array Value×TypeId)}{S:World->Prop}(h:Hid (∀w',aA SP wd w'->S w'))(k:Hid (Ds SP wd B0 w0 c Sk B rs w l)):S w:=h.out _ k.out.dr
structure EdV where
 n:Int
 many:Int
 cut:Bool
 b:UInt8
def kR(x:EdV):List Value:=[.int .i64 x.n,.int .i64 x.many,.bool x.cut,vb x.b]
def BC(l:List EdV):List Value:=l.flatMap kR
def EdV.fr(x:EdV):Nat:=(x.n % 64).toNat
def EdV.up(x:EdV):Nat:=min (x.fr+(x.many % 65).toNat) 64
theorem EdV.frLt(x:EdV):x.fr<64:=by
 unfold EdV.fr;have:=Int.emod_lt_of_pos x.n (show (0:Int)<64 by omega);have:=Int.emod_nonneg x.n (show (64:Int)≠0 by omega);omega
theorem EdV.frInt(x:EdV):x.n % 64=(x.fr:Int):=by
 unfold EdV.fr;have:=Int.emod_nonneg x.n (show (64:Int)≠0 by omega);omega
theorem EdV.upInt(x:EdV):min ((x.fr:Int)+x.many % 65) 64=(x.up:Int):=by
 unfold EdV.up;have:=Int.emod_nonneg x.many (show (65:Int)≠0 by omega);omega
theorem EdV.frUp(x:EdV):x.fr≤x.up/\x.up≤64:=by
 have:=x.frLt;unfold EdV.up;omega
def kI(bl:Nat->UInt8)(f g:Nat):Nat->UInt8:=fun i=>if f≤i/\i<g then 0 else bl i
def mI(bl:Nat->UInt8)(n:Nat)(b:UInt8):Nat->UInt8:=fun i=>if i=n then b else bl i
def edB(x:EdV)(bl:Nat->UInt8):Nat->UInt8:=if x.cut then kI bl x.fr x.up else mI bl x.fr x.b
def edR(S:Kor)(t:Tr)(x:EdV):Option Tr×Kor:=if x.cut then cO 3 S t (x.fr:Int) (x.up:Int) else lY S t x.fr (sec x.b)
theorem Mz{S:Kor}{t:Tr}(hb:S.Bd)(ht:Tr.Ok S 3 t){bl:Nat->UInt8}(hB:gJ t bl){x:EdV}{r:Option Tr}{T:Kor}(h:edR S t x=(r,T)) :
 Beh S T/\∀u,r=some u->Tr.Ok T 3 u/\gJ u (edB x bl):=by
 unfold edR at h;unfold edB;cases hc:x.cut with
 | true =>
   rw[hc] at h;have q:=El hb ht h;exact⟨q.1,fun u hu=>⟨(q.2 u hu).1,hB.cut (q.2 u hu).2⟩⟩
 | false =>
   rw[hc] at h;have q:=uL hb ht x.frLt (cH x.b) h;exact⟨q.1,fun u hu=>⟨(q.2 u hu).1,hB.set (q.2 u hu).2⟩⟩
def blC(bl:Nat->UInt8):List Value:=(List.range 64).map fun i=>vb (bl i)
theorem iB(bl:Nat->UInt8):(blC bl).length=64:=by unfold blC;simp
theorem Lt(bl:Nat->UInt8){i:Nat}(h:i<64):(blC bl)[i]?=some (vb (bl i)):=by
 unfold blC;rw[List.getElem?_map,List.getElem?_range h];rfl
theorem uO(bl:Nat->UInt8):∀u∈blC bl,u.oneCell'=true:=by
 intro u hu;unfold blC at hu;obtain⟨i,-,rfl⟩:=List.mem_map.1 hu;rfl
theorem Em(bl:Nat->UInt8){n:Nat}(hn:n<64)(b:UInt8):spl (blC bl).toArray n [vb b]=(blC (mI bl n b)).toArray:=by
 show (blC bl).toArray.setIfInBounds n (vb b)=_;rw[List.setIfInBounds_toArray]
 congr 1
 refine List.ext_getElem (by rw[List.length_set,iB,iB]) fun i h1 h2=>?_
 rw[List.getElem_set];have q:∀f h,(blC f)[i]'h=vb (f i):=fun f h=>by simp[blC]
 rw[q,q];unfold mI
 by_cases e:n=i
 ·rw[if_pos e,if_pos e.symm]
 ·rw[if_neg e,if_neg (fun h=>e h.symm)]
theorem Lu(bl:Nat->UInt8)(f:Nat){k:Nat}(hfk:f≤k):mI (kI bl f k) k 0=kI bl f (k+1):=by
 funext i
 unfold mI kI
 by_cases e:i=k
 ·subst e;rw[if_pos rfl,if_pos ⟨hfk,by omega⟩]
 ·rw[if_neg e]
  by_cases h:f≤i/\i<k
  ·rw[if_pos h,if_pos ⟨h.1,by omega⟩]
  ·rw[if_neg h,if_neg (by omega)]
theorem uA(bl:Nat->UInt8)(f:Nat):kI bl f f=bl:=by
 funext i
 unfold kI;rw[if_neg (by omega)]
theorem JW:blC (fun _=>0)=List.replicate 64 (vb 0):=by
 refine List.eq_replicate_iff.2 ⟨iB _,fun v hv=>?_⟩;unfold blC at hv;obtain⟨i,-,rfl⟩:=List.mem_map.1 hv;rfl
theorem eR(w:World)(x:UInt8):Calls Tryz.prog 23 #[vb x] w (uM w x):=by
 obtain⟨xv,hxv⟩:∃v,vb x=v:=⟨_,rfl⟩
 have HXV:=O hxv;have hx1:xv.oneCell'=true:=by rw[←hxv];rfl
 have hxc:xv.cells=#[xv]:=by rw[←hxv];rfl
 rw[hxv];clear hxv;go_enter Tryz.func23,Tryz.ntmps23
 go_wp2_with ((with_reducible show WL _ _);refine mkz (.const (.int .i64 256)) (.const (.int .i64 256)) ?_)
 intro b5 w1 hbs hk hb;rw[←JR x] at hb;have HB5:=O hbs;have HI:Hid (w1.heap[b5]?=some (.cells (ofC x 0).toArray 5 (0,0))/\aA aB w w1):=O ⟨hb,hk⟩;clear hb hk hbs;go_wp2_with fail
 go_loopw [4] (fun i wr=>∃k:Nat,k≤256/\i=.int .i64 (k:Int)/\Hid (wr.heap[b5]?=some (.cells (ofC x k).toArray 5 (0,0))/\aA aB w wr)) (fun i _=>256-(intOf i).toNat)
 case atStart=>exact⟨0,by omega,rfl,HI⟩
 case round =>
  obtain⟨k,hk,rfl,HJ⟩:=hrel
  by_cases hk8:k<256
  ·go_wp2_with ((with_reducible show WL _ _);refine sta 5 (.tmp 15) (.tmp 14) b5 k [xv] HJ.out.1 (by rw[List.size_toArray,qS];exact hk8) (by kernel_rfl) (by intro v hv;rw[List.mem_singleton] at hv;rw[hv];exact hx1) ?_ (hy:=hxc))
   intro w2 hk2 hb2;rw[←HXV.out,Lp x k hk8] at hb2;have HN:Hid (w2.heap[b5]?=some (.cells (ofC x (k+1)).toArray 5 (0,0))/\aA aB w w2):=O ⟨hb2,HJ.out.2.trans' hk2 (fun _ _ h=>h) (fun i hi e=>by have:=HB5.out;omega)⟩;clear hk2 hb2 HJ;go_wp2_with fail
   go_roundw
   case rel=>exact⟨k+1,by omega,by go_num,HN⟩
   case measure=>simp[intOf];omega
  ·obtain rfl:k=256:=by omega
   go_wp2_with fail;go_ret;exact⟨_,rfl,by rw[←JS x];exact lT HJ.out.1 (by rw[qS]) (by have:=HB5.out;omega),HJ.out.2⟩
theorem rZ(w:World)(Z:Nat)(hZ:8≤Z/\Z≤4096):Calls Tryz.prog 19 #[.int .i64 (Z:Int)] w (C3 w Z):=by
 have HL:=O (Loc.nil aB aB w);have HZ:=O hZ;have hbid:=KG;have hpl:(eK.map vb).length=32:=by rw[List.length_map];rfl
 obtain⟨ic,hice⟩:∃l,eK.map vb=l:=⟨_,rfl⟩
 have HIC:=O hice;rw[hice] at hbid;have HBI:=O hbid;clear hbid hice hpl;go_enter Tryz.func19,Tryz.ntmps19
 go_wp2_with ((with_reducible show WL _ _);refine bld 24 #[] [] (.agg ic.toArray) HBI.out ?_)
 refine((Jd w 2 Z ⟨by omega,by omega,HZ.out.1,HZ.out.2⟩)).mono ?_;rintro e w1 ⟨a,BA,rfl,harr,hBA,hk⟩;have HA:=O harr;have HBA:=O hBA;clear harr hBA;replace HL:=O (HL.out.keeps hk);clear hk
 go_wp2_with ((with_reducible show WL _ _);refine bld 24 #[] [] (.agg ic.toArray) HBI.out ?_)
 refine((by rw[←HIC.out];exact DL HA.out eK rfl 2 ⟨by omega,by omega,by omega⟩ (by omega):Calls _ _ _ w1 (qA w1 BA 2 Z 2))).mono ?_;rintro e w2 ⟨c,M,B,rfl,hki,hB,hk⟩;have HP:Hid (C3 w Z (.returned (.pointer (some ⟨c,0,none⟩))) w2):=O ⟨c,M,B,rfl,hki,fun k h=>(hB k h).elim (HBA.out k) fun e=>by have:=HL.out.keep.size;omega,HL.out.keep.trans' hk (fun _ _ h=>h) (fun i hi e=>by have:=HBA.out i e;omega)⟩;clear HL HA hki hB hk
 go_wp2_with ((with_reducible show WL _ _);refine bld 24 #[] [] (.agg ic.toArray) HBI.out ?_)
 go_ret;exact HP.out
theorem uB{w:World}{c:Nat}{S:Kor}{B:Nat->Prop}(hK:KI w c S B)(pv:Value)(t:Tr)(ht:Tr.Ok S 3 t)(hp:aJ w B pv t.ptr)(n:Nat)(hn:n<64)(vv:Value)(bs:List UInt8)(hbl:bs.length=256)(hr:Rd w 1 vv 256 (bs.map vb)):Calls Tryz.prog 25 #[.pointer (some ⟨c,0,none⟩),.agg (aH pv t.ptr).toArray,.int .i64 (n:Int),vv] w (aT w (decide (t.blk 3 n=bs))):=by
 have HT:=O ht;have HN:=O hn;have HBL:=O hbl;have HPT:=O hp;have HK:=O hK;have HVV:=O hr;have HB0:=O (Tr.Ok.blk_len ht n);obtain⟨va,vc,rfl,-,-⟩:=hr.form;obtain⟨p,hpe⟩:∃p,t.ptr=p:=⟨_,rfl⟩
 have HPE:=O hpe;rw[hpe] at HPT hp ⊢;obtain⟨pc,HPC,hpc,HOP⟩:=nmPt hp.pt;rw[HPC.out];have HL:=O (Loc.nil aB aB w);obtain⟨bb,hbb⟩:∃x,decide (t.blk 3 n=bs)=x:=⟨_,rfl⟩
 have HBB:=O hbb;rw[hbb];clear hp ht hK hpe hr hbl hbb;go_enter Tryz.func25,Tryz.ntmps25
 go_wp2_with ((with_reducible show WL _ _);refine bxL HL 26 (.tmp 1) (pc.toArray) ?_)
 intro b5 w1 hk HL;replace HPT:=O (aJ.keep0 HPT.out hk);replace HK:=O (HK.out.keep0 hk);replace HVV:=O (HVV.out.keep hk fun _ _=>id);clear hk
 go_wp2_with ((with_reducible show WL _ _);refine wpList_load_mid rfl 26 (.tmp 5) rfl b5 0 rfl pc _ (aC (HL.out.b 0)) aG rfl (szP9 hpc) ?_)
 refine((by rw[←HPC.out,←HPE.out];exact JG HK.out pv t HT.out (by rw[HPE.out];exact HPT.out) n HN.out:Calls _ _ _ w1 (eP w1 (t.blk 3 n)))).mono ?_;rintro e w2 ⟨v1,rfl,ho,hk⟩;obtain⟨wa,wc,rfl,-,-⟩:=(Rd.of_owns ho).form;have HO:=O ho;clear ho;replace HL:=O (HL.out.keeps hk);replace HPT:=O (aJ.keep0 HPT.out hk);replace HK:=O (HK.out.keep0 hk);replace HVV:=O (HVV.out.keep hk fun _ _=>id);clear hk;go_wp2_with fail;refine(Ay w2 _ _ (t.blk 3 n) bs (by rw[HB0.out];exact Rd.of_owns HO.out) (by rw[HBL.out];exact HVV.out) bb HBB.out).mono ?_;rintro e w3 ⟨rfl,rfl⟩;go_wp2_with fail;go_ret;exact⟨rfl,HL.out.keep⟩
theorem Tr.Ok.may3{S:Kor}{t:Tr}(h:Tr.Ok S 3 t):t.ptr.may=true:=by
 cases t with
 | hole=>exact oS iM
 | leaf p b=>exact h.elim
 | node p k=>exact h.1.may
theorem pM{P:Program}{ops:Array Oper}{S:World->Prop}{op:Oper}{a:Act}{v:Value}(hw:Region.wanted op (yielded ops a.tmps)=true)(t:TypeId)(ho:op.op=.build t #[])(h:∀w,(Instr.build t #[]).run P w=.ok v w):YieldsIf P ops S op v a:=
 .inl ⟨hw,fun w _=>by
  unfold execOp;simp only[ho,Sem.run_bind,Sem.run_pure];rw[show (#[]:Array (Nat×Operand)).map (fun p=>(p.1,a.eval p.2))=#[] by simp,h w];rfl⟩
theorem yN:∀u∈aF,u.oneCell'=true:=bO zPt
theorem H9{w:World}{c:Nat}{S:Kor}{B:Nat->Prop}(hK:KI w c S B)(pv:Value)(t:Tr)(ht:Tr.Ok S 3 t)(hp:aJ w B pv t.ptr)(n:Nat)(hn:n<64)(vv:Value)(bs:List UInt8)(hbl:bs.length=256)(hr:Rd w 1 vv 256 (bs.map vb))(hvb:∀i,vv.ownBlock=some i->¬B i/\i<w.heap.size)(he:t.blk 3 n=bs):Calls Tryz.prog 14 #[.pointer (some ⟨c,0,none⟩),.agg (aH pv t.ptr).toArray,.int .i64 (n:Int),vv] w (aZ w c B (.slice none 0 0) (some t) S):=by
 have HBS0:Hid ((aX n t 3).blk 0 n=bs):=O (by rw[←wT ht];exact he);have HO3:=O (iA (n:=n) ht 3 (by omega));have HT:=O ht;have HN:=O hn;have HBL:=O hbl;have HVB:=O hvb;have HPT:=O hp;have HK:=O hK;have HVV:=O hr;have HBLT:=O (fun i (e:B i)=>hK.lt e);have HOP0:=O (fun i (hi:pv.ownBlock=some i)=>(hp.off i hi).2.lt);have HADL:=O (by have:=(iD (Tr.Ok.may3 ht)).1;omega:t.ptr.addrs.length≤65536);obtain⟨va,vc,hve,-,-⟩:=hr.form;have HVE:=O hve;rw[hve] at HVV HVB ⊢;have hn0:¬((n:Int)<0):=by omega
 have hn1:¬((64:Int)≤(n:Int)):=by omega
 obtain⟨p,hpe⟩:∃p,t.ptr=p:=⟨_,rfl⟩
 have HPE:=O hpe;rw[hpe] at HPT hp HADL ⊢;obtain⟨pc,HPC,hpc,HOP⟩:=nmPt hp.pt;rw[HPC.out];have HL:=O (Loc.nil aB aB w);clear he hp ht hK hpe hr hvb hbl hve;have HPT0:=HPT;have HK0:=HK;have HVV0:=HVV;go_enter Tryz.func14,Tryz.ntmps14
 go_wp2_with ((with_reducible show WL _ _);refine bxL HL 36 (.tmp 0) (#[.pointer (some ⟨c,0,none⟩)]) ?_)
 intro b4 w1 hk HL;replace HPT:=O (aJ.keep0 HPT.out hk);replace HK:=O (HK.out.keep0 hk);replace HVV:=O (HVV.out.keep hk fun _ _=>id);clear hk
 go_wp2_with ((with_reducible show WL _ _);refine bxL HL 26 (.tmp 1) (pc.toArray) ?_)
 intro b5 w2 hk HL;replace HPT:=O (aJ.keep0 HPT.out hk);replace HK:=O (HK.out.keep0 hk);replace HVV:=O (HVV.out.keep hk fun _ _=>id);clear hk
 go_wp2_with ((with_reducible show WL _ _);refine alL HL 26 (.agg aF.toArray) (aF.toArray) aQ ?_)
 intro b8 w3 hk HL;replace HPT:=O (aJ.keep0 HPT.out hk);replace HK:=O (HK.out.keep0 hk);replace HVV:=O (HVV.out.keep hk fun _ _=>id);clear hk
 go_wp2_with ((with_reducible show WL _ _);refine alL HL 46 (.int .i64 0) (#[.int .i64 0]) iX ?_)
 intro b9 w4 hk HL;replace HPT:=O (aJ.keep0 HPT.out hk);replace HK:=O (HK.out.keep0 hk);replace HVV:=O (HVV.out.keep hk fun _ _=>id);clear hk;have c1:w4.cell? ⟨b4,0,none⟩=some (.pointer (some ⟨c,0,none⟩)):=(aD (i:=0) (HL.out.b 3) rfl)
 go_wp2_with ((with_reducible show WL _ _);refine wpList_load_mid rfl 26 (.tmp 5) rfl b5 0 rfl pc _ (aC (HL.out.b 2)) aG rfl (szP9 hpc) ?_)
 clear c1;refine((by rw[←HPC.out];exact fV HK.out pv p HPT.out.pt (by rw[←HPE.out];exact HT.out.root):Calls _ _ _ w4 (aK w4 (.int .i64 0)))).mono ?_;rintro e w5 ⟨rfl,hk⟩;replace HL:=O (HL.out.keeps hk);replace HPT:=O (aJ.keep0 HPT.out hk);replace HK:=O (HK.out.keep0 hk);replace HVV:=O (HVV.out.keep hk fun _ _=>id);clear hk
 go_wp2_with ((with_reducible show WL _ _);refine al 46 (.int .i64 0) (#[.int .i64 0]) iX ?_)
 intro b10 w6 hbs hk0 hb0_
 go_wp2_with ((with_reducible show WL _ _);refine sta 46 (.tmp 10) (.tmp 18) b10 0 ([.int .i64 0]) hb0_ (by first|decide|(rw[List.size_toArray,rfl];exact Nat.le_refl _)|simp[]) (by kernel_rfl) (one9) ?_)
 intro w7 hk hb;replace hb:w7.heap[b10]?=some (.cells #[.int .i64 0] 46 (0,0)):=hb;replace hk:=hk0.trans' hk (U:=aB) (fun _ _ h=>h) (fun i hi e=>by omega);replace HL:=O (HL.out.new (fun _ h=>h.elim) hbs hk hb);replace HPT:=O (aJ.keep0 HPT.out hk);replace HK:=O (HK.out.keep0 hk);replace HVV:=O (HVV.out.keep hk fun _ _=>id);clear hbs hk hb hk0 hb0_;have c1:w7.cell? ⟨b10,0,none⟩=some (.int .i64 0):=(aD (i:=0) (HL.out.b 0) rfl)
 have c2:w7.cell? ⟨b4,0,none⟩=some (.pointer (some ⟨c,0,none⟩)):=(aD (i:=0) (HL.out.b 4) rfl)
 go_wp2_with ((with_reducible show WL _ _);refine wpList_load_mid rfl 26 (.tmp 5) rfl b5 0 rfl pc _ (aC (HL.out.b 3)) aG rfl (szP9 hpc) ?_)
 clear c1 c2;have HWB:=O HL.out.keep.size;have HB10L:=O (HL.out.lt 0);have HB9L:=O (HL.out.lt 1);have HB8L:=O (HL.out.lt 2);refine((by rw[←HPC.out,←HPE.out];exact wU HK.out pv t HT.out (by rw[HPE.out];exact HPT.out) n HN.out false:Calls _ _ _ w7 (uK w7 B pv n t false))).mono ?_;rintro e w8 ⟨sv,pvf,k,pvs,vss,M,rfl,hk3,hM,hwr,hwp,hk⟩;obtain rfl:=hk3 rfl;obtain⟨sa,scap,hsv,hs3,-⟩:=(Rd.of_owns hwr.row).form;subst hsv;have HWR:=O hwr;have HWP:=O hwp;have HM:=O hM;have HS3:=O hs3;obtain⟨qc,HQC,hqc,HOQ⟩:=nmPt hwp.val.pt;rw[HQC.out];clear hwp hM hwr hs3;replace HL:=O (HL.out.keeps hk);replace HPT:=O (aJ.keep0 HPT.out hk);replace HK:=O (HK.out.keep0 hk);replace HVV:=O (HVV.out.keep hk fun _ _=>id);clear hk
 go_wp2_with ((with_reducible show WL _ _);refine al 26 (.agg aF.toArray) (aF.toArray) aQ ?_)
 intro b12 w9 hbs hk0 hb0_
 go_wp2_with ((with_reducible show WL _ _);refine sta 26 (.tmp 12) (.tmp 43) b12 0 qc hb0_ (by first|decide|(rw[List.size_toArray,hqc];exact Nat.le_refl _)|simp[hqc,aE]) (szP9 hqc) HOQ.out ?_)
 intro wa hk hb;rw[aI _ _ (by first|rfl|(rw[List.size_toArray,hqc];rfl)|simp[hqc,aE])] at hb;replace hk:=hk0.trans' hk (U:=aB) (fun _ _ h=>h) (fun i hi e=>by omega);replace HL:=O (HL.out.new (fun _ h=>h.elim) hbs hk hb);replace HPT:=O (aJ.keep0 HPT.out hk);replace HK:=O (HK.out.keep0 hk);replace HVV:=O (HVV.out.keep hk fun _ _=>id);replace HWR:=O (cG.keep0 HWR.out hk);replace HWP:=O (eU.keep0 HWP.out hk);clear hbs hk hb hk0 hb0_
 go_wp2_with ((with_reducible show WL _ _);refine sta 46 (.tmp 10) (.tmp 44) b10 0 ([.int .i64 0]) (HL.out.b 1) (by simp) (by kernel_rfl) (one9) ?_)
 intro wb hk hb;replace hb:wb.heap[b10]?=some (.cells #[.int .i64 0] 46 (0,0)):=hb;replace HL:=O (HL.out.set 1 hk hb);replace HPT:=O (aJ.keep0 HPT0.out HL.out.keep);replace HK:=O (HK0.out.keep0 HL.out.keep);replace HVV:=O (HVV0.out.keep HL.out.keep fun _ _=>id);replace HWR:=O (cG.keepT HWR.out hk (fun i hi e=>by have:=bA HWR.out.row hi;have:=HB10L.out;omega) (fun i hi e=>by have:=HOP0.out i hi;have:=HB10L.out;omega) (fun i hi e=>by have:=HM.out;have:=HB10L.out;omega));replace HWP:=O (eU.keepT HWP.out hk (fun i hi e=>by have:=HOP0.out i hi;have:=HB10L.out;omega) (fun i hi e=>by have:=HM.out;have:=HB10L.out;omega));clear hk hb;have HB10W:=O (And.intro (HL.out.lt 0) (HL.out.lt 1));have c1:wb.cell? ⟨b10,0,none⟩=some (.int .i64 0):=(aD (i:=0) (HL.out.b 1) rfl)
 have c2:wb.cell? ⟨b4,0,none⟩=some (.pointer (some ⟨c,0,none⟩)):=(aD (i:=0) (HL.out.b 5) rfl)
 go_wp2_with ((with_reducible show WL _ _);refine wpList_load_mid rfl 26 (.tmp 12) rfl b12 0 rfl qc _ (aC (HL.out.b 0)) aG rfl (szP9 hqc) ?_)
 clear c1 c2;have HBW:=O HL.out.keep.size;refine((by rw[←HQC.out];exact oB HK.out pvf (aX n t 3) HO3.out HWP.out.val.pt n:Calls _ _ _ wb (eP wb ((aX n t 3).blk 0 n)))).mono ?_;rintro e wc ⟨v1,rfl,ho,hk⟩;rw[HBS0.out] at ho;obtain⟨wa,wc,rfl,-,-⟩:=(Rd.of_owns ho).form;have HO:=O ho;have HOG:=O (fun i (hi:(Value.slice wa 256 wc).ownBlock=some i)=>bA ho hi);clear ho;replace HL:=O (HL.out.keeps hk);replace HPT:=O (aJ.keep0 HPT.out hk);replace HK:=O (HK.out.keep0 hk);replace HVV:=O (HVV.out.keep hk fun _ _=>id);replace HWR:=O (cG.keep0 HWR.out hk);replace HWP:=O (eU.keep0 HWP.out hk);clear hk
 go_wp2_with ((with_reducible show WL _ _);refine sta 46 (.tmp 10) (.tmp 54) b10 0 ([.int .i64 0]) (HL.out.b 1) (by simp) (by kernel_rfl) (one9) ?_)
 intro wd hk hb;replace hb:wd.heap[b10]?=some (.cells #[.int .i64 0] 46 (0,0)):=hb;replace HL:=O (HL.out.set 1 hk hb);replace HPT:=O (aJ.keep0 HPT0.out HL.out.keep);replace HK:=O (HK0.out.keep0 HL.out.keep);replace HVV:=O (HVV0.out.keep HL.out.keep fun _ _=>id);replace HWR:=O (cG.keepT HWR.out hk (fun i hi e=>by have:=bA HWR.out.row hi;have:=HB10L.out;omega) (fun i hi e=>by have:=HOP0.out i hi;have:=HB10L.out;omega) (fun i hi e=>by have:=HM.out;have:=HB10L.out;omega));replace HWP:=O (eU.keepT HWP.out hk (fun i hi e=>by have:=HOP0.out i hi;have:=HB10L.out;omega) (fun i hi e=>by have:=HM.out;have:=HB10L.out;omega));replace HO:=O (hk.owns HO.out fun i hi e=>by have:=HOG.out i hi;have:=HB10L.out;have:=HBW.out;have:=HB10W.out;omega);clear hk hb;have c1:wd.cell? ⟨b10,0,none⟩=some (.int .i64 0):=(aD (i:=0) (HL.out.b 1) rfl)
 go_wp2_with fail;clear c1;refine(lM wd _ _ bs bs (by rw[HBL.out];exact Rd.of_owns HO.out) (by rw[HBL.out];exact HVV.out) true (decide_eq_true rfl)).mono ?_;rintro e we ⟨rfl,rfl⟩
 go_wp2_with ((with_reducible show WL _ _);refine wpList_load_mid rfl 26 (.tmp 5) rfl b5 0 rfl pc _ (aC (HL.out.b 4)) aG rfl (szP9 hpc) ?_)
 have HLS:=O HL.out.keep.size;have HLB:=O (And.intro (HL.out.lt 2).2 (HL.out.lt 3).2);refine((by rw[←HPC.out];exact wS (fun i e=>HK.out.lt e) pv p HPT.out.pt HADL.out:Calls _ _ _ wd (qO wd B p))).mono ?_;rintro e wf ⟨ov,rfl,hov,hovn,hk⟩;have HOV:=O hov;have HOVN:=O hovn;have HON2:=O (hovn.from HLS.out);obtain⟨oc,HOCE,hoc,HOOC⟩:=nmPt hov.pt;rw[HOCE.out];clear hov hovn;replace HL:=O (HL.out.keeps hk);replace HPT:=O (aJ.keep0 HPT.out hk);replace HK:=O (HK.out.keep0 hk);replace HVV:=O (HVV.out.keep hk fun _ _=>id);replace HWR:=O (cG.keep0 HWR.out hk);replace HWP:=O (eU.keep0 HWP.out hk);replace HO:=O (hk.owns HO.out fun _ _=>id);clear hk;clear HPT HVV HWR HWP HO
 go_wp2_with ((with_reducible show WL _ _);refine sta 26 (.tmp 8) (.tmp 65) b8 0 oc (HL.out.b 3) (by first|decide|(rw[hoc];exact Nat.le_refl _)|simp[hoc,aE]) (szP9 hoc) HOOC.out ?_)
 intro wg hk hb;rw[aI _ _ (by first|rfl|simp[hoc,aE])] at hb;replace HL:=O (HL.out.set 3 hk hb);replace HK:=O (HK0.out.keep0 HL.out.keep);replace HOV:=O (aJ.keepT HOV.out hk (fun i hi e=>by have:=HOVN.out i hi;have:=HLB.out;omega));clear hk hb
 go_wp2_with ((with_reducible show WL _ _);refine sta 46 (.tmp 9) (.const (.int .i64 0)) b9 0 ([.int .i64 0]) (HL.out.b 2) (by simp) (by kernel_rfl) (one9) ?_)
 intro wh hk hb;replace hb:wh.heap[b9]?=some (.cells #[.int .i64 0] 46 (0,0)):=hb;replace HL:=O (HL.out.set 2 hk hb);replace HK:=O (HK0.out.keep0 HL.out.keep);replace HOV:=O (aJ.keepT HOV.out hk (fun i hi e=>by have:=HOVN.out i hi;have:=HLB.out;omega));clear hk hb;have HB8:=O (HL.out.b 3);have c9:wh.cell? ⟨b9,0,none⟩=some (.int .i64 0):=aD (i:=0) (HL.out.b 2) rfl;have HP:Hid (aZ w c B (.slice none 0 0) (some t) S (.returned (.tuple #[.agg oc.toArray,.int .i64 0])) wh):=O ⟨ov,B,by rw[←HOCE.out,←HPE.out];rfl,by show aJ _ B ov t.ptr;rw[HPE.out];exact HOV.out,HK.out,fun _ h=>.inl h,Cl.refl _ _ _ HL.out.keep,.inr HON2.out,HL.out.keep.any⟩;clear HL HK HOV;go_wp2_with fail;refine bodyPost_ret (eQ rfl _ _ b8 _ _ _ _ rfl HB8.out aG rfl (by rw[List.size_toArray,hoc];exact bL) ⟨b9,0,none⟩ (.int .i64 0) rfl (by go_simp)) rfl ?_;exact HP.out
theorem Ia{w:World}{c:Nat}{S:Kor}{B:Nat->Prop}(hK:KI w c S B)(pv:Value)(t:Tr)(ht:Tr.Ok S 3 t)(hp:aJ w B pv t.ptr)(n:Nat)(hn:n<64)(vv:Value)(bs:List UInt8)(hbl:bs.length=256)(hr:Rd w 1 vv 256 (bs.map vb))(hvb:∀i,vv.ownBlock=some i->¬B i/\i<w.heap.size)(he:¬t.blk 3 n=bs):Calls Tryz.prog 14 #[.pointer (some ⟨c,0,none⟩),.agg (aH pv t.ptr).toArray,.int .i64 (n:Int),vv] w (aZ w c B (.slice none 0 0) (fP 3 S t n bs).1 (fP 3 S t n bs).2):=by
 have HBS0:Hid ((aX n t 3).blk 0 n=t.blk 3 n):=O (wT ht).symm;have HO3:=O (iA (n:=n) ht 3 (by omega));have HNE:=O he;have HBD:=O hK.bd;have HBL0:Hid ((t.blk 3 n).length=256):=O (Tr.Ok.blk_len ht n);have HT:=O ht;have HN:=O hn;have HBL:=O hbl;have HVB:=O hvb;have HPT:=O hp;have HK:=O hK;have HVV:=O hr;have HBLT:=O (fun i (e:B i)=>hK.lt e);have HOP0:=O (fun i (hi:pv.ownBlock=some i)=>(hp.off i hi).2.lt);have HADL:=O (by have:=(iD (Tr.Ok.may3 ht)).1;omega:t.ptr.addrs.length≤65536);obtain⟨va,vc,hve,-,-⟩:=hr.form;have HVE:=O hve;rw[hve] at HVV HVB ⊢;have hn0:¬((n:Int)<0):=by omega
 have hn1:¬((64:Int)≤(n:Int)):=by omega
 obtain⟨p,hpe⟩:∃p,t.ptr=p:=⟨_,rfl⟩
 have HPE:=O hpe;rw[hpe] at HPT hp HADL ⊢;obtain⟨pc,HPC,hpc,HOP⟩:=nmPt hp.pt;rw[HPC.out];have HL:=O (Loc.nil aB aB w);clear he hp ht hK hpe hr hvb hbl hve;have HPT0:=HPT;have HK0:=HK;have HVV0:=HVV;refine callsIn_wide.1 (callsIn_of_wp_marks (F:=Fence.wide) (n:=3) Tryz.func14 rfl trivial (wpIn_wide.2 ?_));simp only[Tryz.ntmps14,List.size_toArray,List.length_cons,List.length_nil,Nat.reduceAdd,Nat.reduceSub,Array.replicate_succ,Array.replicate_zero,List.push_toArray,List.append_toArray,List.nil_append,List.cons_append]
 go_wp2_with ((with_reducible show WL _ _);refine bxL HL 36 (.tmp 0) (#[.pointer (some ⟨c,0,none⟩)]) ?_)
 intro b4 w1 hk HL;replace HPT:=O (aJ.keep0 HPT.out hk);replace HK:=O (HK.out.keep0 hk);replace HVV:=O (HVV.out.keep hk fun _ _=>id);clear hk
 go_wp2_with ((with_reducible show WL _ _);refine bxL HL 26 (.tmp 1) (pc.toArray) ?_)
 intro b5 w2 hk HL;replace HPT:=O (aJ.keep0 HPT.out hk);replace HK:=O (HK.out.keep0 hk);replace HVV:=O (HVV.out.keep hk fun _ _=>id);clear hk
 go_wp2_with ((with_reducible show WL _ _);refine alL HL 26 (.agg aF.toArray) (aF.toArray) aQ ?_)
 intro b8 w3 hk HL;replace HPT:=O (aJ.keep0 HPT.out hk);replace HK:=O (HK.out.keep0 hk);replace HVV:=O (HVV.out.keep hk fun _ _=>id);clear hk
 go_wp2_with ((with_reducible show WL _ _);refine alL HL 46 (.int .i64 0) (#[.int .i64 0]) iX ?_)
 intro b9 w4 hk HL;replace HPT:=O (aJ.keep0 HPT.out hk);replace HK:=O (HK.out.keep0 hk);replace HVV:=O (HVV.out.keep hk fun _ _=>id);clear hk;have c1:w4.cell? ⟨b4,0,none⟩=some (.pointer (some ⟨c,0,none⟩)):=(aD (i:=0) (HL.out.b 3) rfl)
 go_wp2_with ((with_reducible show WL _ _);refine wpList_load_mid rfl 26 (.tmp 5) rfl b5 0 rfl pc _ (aC (HL.out.b 2)) aG rfl (szP9 hpc) ?_)
 clear c1;refine((by rw[←HPC.out];exact fV HK.out pv p HPT.out.pt (by rw[←HPE.out];exact HT.out.root):Calls _ _ _ w4 (aK w4 (.int .i64 0)))).mono ?_;rintro e w5 ⟨rfl,hk⟩;replace HL:=O (HL.out.keeps hk);replace HPT:=O (aJ.keep0 HPT.out hk);replace HK:=O (HK.out.keep0 hk);replace HVV:=O (HVV.out.keep hk fun _ _=>id);clear hk
 go_wp2_with ((with_reducible show WL _ _);refine al 46 (.int .i64 0) (#[.int .i64 0]) iX ?_)
 intro b10 w6 hbs hk0 hb0_
 go_wp2_with ((with_reducible show WL _ _);refine sta 46 (.tmp 10) (.tmp 18) b10 0 ([.int .i64 0]) hb0_ (by first|decide|(rw[List.size_toArray,rfl];exact Nat.le_refl _)|simp[]) (by kernel_rfl) (one9) ?_)
 intro w7 hk hb;replace hb:w7.heap[b10]?=some (.cells #[.int .i64 0] 46 (0,0)):=hb;replace hk:=hk0.trans' hk (U:=aB) (fun _ _ h=>h) (fun i hi e=>by omega);replace HL:=O (HL.out.new (fun _ h=>h.elim) hbs hk hb);replace HPT:=O (aJ.keep0 HPT.out hk);replace HK:=O (HK.out.keep0 hk);replace HVV:=O (HVV.out.keep hk fun _ _=>id);clear hbs hk hb hk0 hb0_;have c1:w7.cell? ⟨b10,0,none⟩=some (.int .i64 0):=(aD (i:=0) (HL.out.b 0) rfl)
 have c2:w7.cell? ⟨b4,0,none⟩=some (.pointer (some ⟨c,0,none⟩)):=(aD (i:=0) (HL.out.b 4) rfl)
 go_wp2_with ((with_reducible show WL _ _);refine wpList_load_mid rfl 26 (.tmp 5) rfl b5 0 rfl pc _ (aC (HL.out.b 3)) aG rfl (szP9 hpc) ?_)
 clear c1 c2;have HWB:=O HL.out.keep.size;have HB10L:=O (HL.out.lt 0);have HB9L:=O (HL.out.lt 1);have HB8L:=O (HL.out.lt 2);refine((by rw[←HPC.out,←HPE.out];exact wU HK.out pv t HT.out (by rw[HPE.out];exact HPT.out) n HN.out false:Calls _ _ _ w7 (uK w7 B pv n t false))).mono ?_;rintro e w8 ⟨sv,pvf,k,pvs,vss,M,rfl,hk3,hM,hwr,hwp,hk⟩;obtain rfl:=hk3 rfl;obtain⟨sa,scap,hsv,hs3,-⟩:=(Rd.of_owns hwr.row).form;subst hsv;have HWR:=O hwr;have HWP:=O hwp;have HM:=O hM;have HS3:=O hs3;obtain⟨qc,HQC,hqc,HOQ⟩:=nmPt hwp.val.pt;rw[HQC.out];clear hwp hM hwr hs3;have HZ:=O (HWR.out.zone HM.out HOP0.out);replace HL:=O (HL.out.keeps hk);replace HPT:=O (aJ.keep0 HPT.out hk);replace HK:=O (HK.out.keep0 hk);replace HVV:=O (HVV.out.keep hk fun _ _=>id);clear hk
 go_wp2_with ((with_reducible show WL _ _);refine al 26 (.agg aF.toArray) (aF.toArray) aQ ?_)
 intro b12 w9 hbs hk0 hb0_
 go_wp2_with ((with_reducible show WL _ _);refine sta 26 (.tmp 12) (.tmp 43) b12 0 qc hb0_ (by first|decide|(rw[List.size_toArray,hqc];exact Nat.le_refl _)|simp[hqc,aE]) (szP9 hqc) HOQ.out ?_)
 intro wa hk hb;rw[aI _ _ (by first|rfl|(rw[List.size_toArray,hqc];rfl)|simp[hqc,aE])] at hb;replace hk:=hk0.trans' hk (U:=aB) (fun _ _ h=>h) (fun i hi e=>by omega);have HNb12:=O (show w8.heap.size≤b12 from Nat.le_of_eq hbs);replace HL:=O (HL.out.new (fun _ h=>h.elim) hbs hk hb);replace HPT:=O (aJ.keep0 HPT.out hk);replace HK:=O (HK.out.keep0 hk);replace HVV:=O (HVV.out.keep hk fun _ _=>id);replace HWR:=O (cG.keep0 HWR.out hk);replace HWP:=O (eU.keep0 HWP.out hk);clear hbs hk hb hk0 hb0_
 go_wp2_with ((with_reducible show WL _ _);refine sta 46 (.tmp 10) (.tmp 44) b10 0 ([.int .i64 0]) (HL.out.b 1) (by simp) (by kernel_rfl) (one9) ?_)
 intro wb hk hb;replace hb:wb.heap[b10]?=some (.cells #[.int .i64 0] 46 (0,0)):=hb;replace HL:=O (HL.out.set 1 hk hb);replace HPT:=O (aJ.keep0 HPT0.out HL.out.keep);replace HK:=O (HK0.out.keep0 HL.out.keep);replace HVV:=O (HVV0.out.keep HL.out.keep fun _ _=>id);replace HWR:=O (cG.keepT HWR.out hk (fun i hi e=>by have:=bA HWR.out.row hi;have:=HB10L.out;omega) (fun i hi e=>by have:=HOP0.out i hi;have:=HB10L.out;omega) (fun i hi e=>by have:=HM.out;have:=HB10L.out;omega));replace HWP:=O (eU.keepT HWP.out hk (fun i hi e=>by have:=HOP0.out i hi;have:=HB10L.out;omega) (fun i hi e=>by have:=HM.out;have:=HB10L.out;omega));clear hk hb;have HB10W:=O (And.intro (HL.out.lt 0) (HL.out.lt 1));have c1:wb.cell? ⟨b10,0,none⟩=some (.int .i64 0):=(aD (i:=0) (HL.out.b 1) rfl)
 have c2:wb.cell? ⟨b4,0,none⟩=some (.pointer (some ⟨c,0,none⟩)):=(aD (i:=0) (HL.out.b 5) rfl)
 go_wp2_with ((with_reducible show WL _ _);refine wpList_load_mid rfl 26 (.tmp 12) rfl b12 0 rfl qc _ (aC (HL.out.b 0)) aG rfl (szP9 hqc) ?_)
 clear c1 c2;have HBW:=O HL.out.keep.size;refine((by rw[←HQC.out];exact oB HK.out pvf (aX n t 3) HO3.out HWP.out.val.pt n:Calls _ _ _ wb (eP wb ((aX n t 3).blk 0 n)))).mono ?_;rintro e wc ⟨v1,rfl,ho,hk⟩;rw[HBS0.out] at ho;obtain⟨wa,wc,rfl,-,-⟩:=(Rd.of_owns ho).form;have HO:=O ho;have HOG:=O (fun i (hi:(Value.slice wa 256 wc).ownBlock=some i)=>bA ho hi);clear ho;replace HL:=O (HL.out.keeps hk);replace HPT:=O (aJ.keep0 HPT.out hk);replace HK:=O (HK.out.keep0 hk);replace HVV:=O (HVV.out.keep hk fun _ _=>id);replace HWR:=O (cG.keep0 HWR.out hk);replace HWP:=O (eU.keep0 HWP.out hk);clear hk
 go_wp2_with ((with_reducible show WL _ _);refine sta 46 (.tmp 10) (.tmp 54) b10 0 ([.int .i64 0]) (HL.out.b 1) (by simp) (by kernel_rfl) (one9) ?_)
 intro wd hk hb;replace hb:wd.heap[b10]?=some (.cells #[.int .i64 0] 46 (0,0)):=hb;replace HL:=O (HL.out.set 1 hk hb);replace HPT:=O (aJ.keep0 HPT0.out HL.out.keep);replace HK:=O (HK0.out.keep0 HL.out.keep);replace HVV:=O (HVV0.out.keep HL.out.keep fun _ _=>id);replace HWR:=O (cG.keepT HWR.out hk (fun i hi e=>by have:=bA HWR.out.row hi;have:=HB10L.out;omega) (fun i hi e=>by have:=HOP0.out i hi;have:=HB10L.out;omega) (fun i hi e=>by have:=HM.out;have:=HB10L.out;omega));replace HWP:=O (eU.keepT HWP.out hk (fun i hi e=>by have:=HOP0.out i hi;have:=HB10L.out;omega) (fun i hi e=>by have:=HM.out;have:=HB10L.out;omega));replace HO:=O (hk.owns HO.out fun i hi e=>by have:=HOG.out i hi;have:=HB10L.out;have:=HBW.out;have:=HB10W.out;omega);clear hk hb;have c1:wd.cell? ⟨b10,0,none⟩=some (.int .i64 0):=(aD (i:=0) (HL.out.b 1) rfl)
 go_wp2_with fail;clear c1;refine(lM wd _ _ (t.blk 3 n) bs (by rw[HBL0.out];exact Rd.of_owns HO.out) (by rw[HBL.out];exact HVV.out) false (decide_eq_false HNE.out)).mono ?_;rintro e we ⟨rfl,rfl⟩;have c1:wd.cell? ⟨b4,0,none⟩=some (.pointer (some ⟨c,0,none⟩)):=(aD (i:=0) (HL.out.b 5) rfl)
 go_wp2_with fail;clear c1;have HLW:=O HL.out.keep;have HLK:=O (And.intro (HL.out.lt 0) (And.intro (HL.out.lt 1) (And.intro (HL.out.lt 2) (And.intro (HL.out.lt 3) (HL.out.lt 5)))));refine((Bm HK.out (.slice va 256 vc) bs HBL.out HVV.out (fun i hi=>(HVB.out i hi).1):Calls _ _ _ wd (aZ wd c B (.slice none 0 0) (S.leaf bs).1 (S.leaf bs).2))).mono ?_;rintro e wf ⟨v0,B0,hm1,hpv,hki,hB0,hcl,hnw,hk⟩;obtain⟨er0,her0⟩:∃x,dZ (S.leaf bs).1=x:=⟨_,rfl⟩
 rw[her0] at hm1;have HER0:=O her0;subst hm1;replace hnw:eF wd v0:=hnw.elim (fun e=>by rw[e];exact eF.nil _) id;have HV0:=O hpv;have HKI:=O hki;have HB0:=O hB0;have HCL:=O hcl;have HNW:=O hnw;have HKL:=O hk;obtain⟨lc,HLCE,hlc,HOLC⟩:=nmPt hpv.pt;rw[HLCE.out];clear hpv hki hcl hnw her0;replace HWR:=O (cG.toB HWR.out hk hB0 (fun i hi e=>by have:=bA HWR.out.row hi;have:=HBLT.out i e;have:=HWB.out;omega));replace HL:=O (((HL.out.wide HBLT.out).turn hk (fun _ _ h=>h)) (fun i hi hb=>(hB0 i hb).elim id fun e=>by omega));clear hk hB0 HO HWP HVV HK HPT
 go_wp2_with ((with_reducible show WL _ _);refine sta 26 (.tmp 12) (.tmp 70) b12 0 lc (HL.out.b 0) (by first|decide|(rw[hlc];exact Nat.le_refl _)|simp[hlc,hqc]) (szP9 hlc) HOLC.out ?_)
 intro wg hk hb;rw[aI _ _ (by first|rfl|simp[hlc,hqc])] at hb;replace HL:=O (HL.out.set 0 hk hb);replace HKI:=O (KI.keepT HKI.out hk (fun i e hq=>by rw[e] at hq;first|exact (HL.out.aq 0) hq|exact (HL.out.aq 1) hq));replace HV0:=O (aJ.keepT HV0.out hk (fun i hi e=>by have:=HNW.out i hi;have:=HLK.out;omega));replace HWR:=O (cG.keepZ HWR.out HZ.out hk (fun i e=>by have:=HNb12.out;have:=HB10L.out;omega));replace HCL:=O (Cl.onT HCL.out hk fun i hq e=>by rw[e] at hq;first|exact (HL.out.aq 0) hq|exact (HL.out.aq 1) hq);clear hk hb
 go_wp2_with ((with_reducible show WL _ _);refine sta 46 (.tmp 10) (.tmp 71) b10 0 ([.int .i64 er0]) (HL.out.b 1) (by simp) (by kernel_rfl) (one9) ?_)
 intro wh hk hb;replace hb:wh.heap[b10]?=some (.cells #[.int .i64 er0] 46 (0,0)):=hb;replace HL:=O (HL.out.set 1 hk hb);replace HKI:=O (KI.keepT HKI.out hk (fun i e hq=>by rw[e] at hq;first|exact (HL.out.aq 0) hq|exact (HL.out.aq 1) hq));replace HV0:=O (aJ.keepT HV0.out hk (fun i hi e=>by have:=HNW.out i hi;have:=HLK.out;omega));replace HWR:=O (cG.keepZ HWR.out HZ.out hk (fun i e=>by have:=HNb12.out;have:=HB10L.out;omega));replace HCL:=O (Cl.onT HCL.out hk fun i hq e=>by rw[e] at hq;first|exact (HL.out.aq 0) hq|exact (HL.out.aq 1) hq);clear hk hb;go_wp2_with fail;have HB0L:=O (fun i (e:B0 i)=>HKI.out.lt e);have HLH:=O (And.intro (HL.out.lt 0).2 (And.intro (HL.out.lt 1).2 (And.intro (HL.out.lt 2).2 (HL.out.lt 3).2)));refine((JK (.slice sa 3 scap) wh ⟨_,_,_,rfl⟩)).mono ?_;rintro e wi ⟨B1,rfl,hb1,hB1,hk⟩;have HB1:=O hb1;have HB1S:=O hB1;clear hb1 hB1;replace HL:=O (HL.out.keeps hk);replace HKI:=O (HKI.out.keep0 hk);replace HV0:=O (aJ.keep0 HV0.out hk);replace HWR:=O (cG.keep0 HWR.out hk);replace HCL:=O (Cl.onT HCL.out hk fun _ _=>id);clear hk;go_wp2_with fail;obtain⟨g,cap,cur,hsve,hcap,hgc,hstp⟩:=Hu HWR.out (by omega);cases hsve
 have hgz:=(HZ.out.sv g rfl).2;have hgw:=bA HWR.out.row (k:=g) rfl;have hB1l:=lt_of_block HB1.out;have hgl:=lt_of_block hgc;have hwb:=HWB.out;have hn12:=HNb12.out;have hlk:=HLK.out;have hb10:=HB10L.out;have hb9:=HB9L.out;have hb8:=HB8L.out;have hlh:=HLH.out;have hb1s:=HB1S.out;have hlw:=HLW.out.size;have HNE2:=O (fun q (hq:q<3) p (hp:p<4) i (hi:(vss q p).ownBlock=some i)=>(by have:=HZ.out.vss q hq p hp i hi;omega:i≠b10/\i≠b12))
 have HBK:=FB (Res:=fun i=>B0 i\/i=b8\/i=b9\/i=b10\/i=b12\/wi.heap.size≤i) (3-1) (fun x=>eY n t x (pvs x) (vss x)) (fun x hx=>Ei HWR.out hx) hcap HB1.out hstp hgc
  (by rintro (e|e|e|e|e|e)<;>first|omega|(have:=HB0L.out _ e;omega)) (by rintro (e|e|e|e|e|e)<;>first|omega|(rcases HB0.out _ e with e|e<;>first|omega|(have:=HBLT.out _ e;omega)))
 have hI0:rW wi b8 b9 b10 b12 c S B0 n t bs 0 wi:=⟨3,v0,B0,rfl,(by have h:=HL.out.b 0;rw[←HLCE.out] at h;exact h),(by have h:=HL.out.b 1;rw[←HER0.out] at h;exact h),HV0.out,fun i hi=>by (have:=HNW.out i hi;omega),HKI.out,fun i h=>.inl h,fun i h=>(Classical.em (IsC wi i)).imp id fun h2=>⟨HKI.out.lt h,h,h2⟩,aA.refl _ _⟩
 have HBB:Hid (∀i,B0 i->B i\/w.heap.size≤i):=O fun i h=>(HB0.out i h).imp id fun e=>by omega
 replace HL:Hid (Loc B B0 w wi [(b12,lc.toArray,26),(b10,#[.int .i64 er0],46),(b9,#[.int .i64 0],46),(b8,aF.toArray,26),(b5,pc.toArray,26),(b4,#[.pointer (some ⟨c,0,none⟩)],36)]):=HL;have HG:=O (And.intro HB1S.out (And.intro (lt_of_block (HL.out.b 0)) (And.intro (lt_of_block (HL.out.b 1)) (And.intro (lt_of_block (HL.out.b 2)) (lt_of_block (HL.out.b 3))))));have HWS:=O HL.out.keep.size;have HWR3:=O (fun q (hq:q<3)=>(HWR.out.vss q hq).1);have HST3:=O (fun q (hq:q<3)=>(HWR.out.pvs q hq).1.pt);clear hgz hgw hB1l hgl hwb hn12 hlk hb10 hb9 hb8 hlh hb1s hlw hcap hgc hstp HK0 HPT0 HVV0 HKI HV0 HWR HBW HOG HZ;refine wpIn_wide (n:=3).1 ?_;refine zL rfl (by omega) (gf:=97) rfl trivial (enters_of Tryz.func97 (by kernel_rfl) rfl) (N:=3) (encs:=Bz (fun x=>eY n t x (pvs x) (vss x))) HBK (fun _=>rfl) (rW wi b8 b9 b10 b12 c S B0 n t bs) (CY wi b8 b9 b10 b12 c S B0 n t bs) (fun W k=>hI0.keep0 k) (fun k W l o hl h ho hc o'=>h.put hl ho hc o') (fun W l o hl h ho hc o'=>h.put hl ho hc o') ?round ?done ?stop
 case round =>
  rintro l k W1 hk3 hI hl;obtain⟨y',v,B',hky,h12,h10,hpv,hvo,hki,hB',hBI,hkp⟩:=hI;obtain⟨y,rfl⟩:∃y,y'=y+1:=⟨y'-1,by omega⟩
  have hky2:k+y=2:=by omega
  have hy3:y<3:=by omega
  have HNV:Hid (bZ W1 B' (vss y) (fun i=>((aX n t y).kid i).ptr)):=O fun q hq=>(HWR3.out y hy3 q hq).grow (T:=fun i=>i=b10\/i=b12) hkp (fun i hi e=>by have:=HNE2.out y hy3 q hq i hi;omega) hB'
  have HPY:=HST3.out y hy3;have HA35:=O (aL (v:=pvs y) (HST3.out y hy3).sum);have HOA:=O (bD (HST3.out y hy3));unfold Bz;dsimp only;rw[show 2-k=y by omega];obtain⟨⟨r,T⟩,hrT⟩:∃q,fP k S (aX n t (y+1)) n bs=q:=⟨_,rfl⟩
  rw[hrT] at h12 h10 hpv hki;dsimp only at h12 h10 hpv hki;have HRT:=O hrT;have huc:=aL (v:=v) hpv.pt.sum;have HOU0:=bD hpv.pt;obtain⟨uc,huce⟩:∃x,aH v (cI r)=x:=⟨_,rfl⟩
  have HOU:Hid (∀u∈uc,u.oneCell'=true):=O (by rw[←huce];exact HOU0);have HUC:=O huce;rw[huce] at huc h12;have HL1:=O (Loc.round HL.out h12 h10 hB' HBB.out hkp);have HKI:=O hki;have HPV:=O hpv;have HBI:=O hBI;have HB2:=O hB';have HKP:=O hkp;have HSW:=O (And.intro hkp.size hl);have HVL:=O (fun i hi=>(hpv.off i hi).2.lt);have HNL:=O (fun q (hq:q<4) i hi=>((HNV.out q hq).off i hi).2.lt);have HX:=O (aA.refl aB W1);obtain⟨dg,hdg⟩:∃d,n / 4 ^ (2-y) % 4=d:=⟨_,rfl⟩
  have hd4:dg<4:=by rw[←hdg];exact Nat.mod_lt _ (by decide)
  have HDG:=O hdg
  have hsc:(eY n t y (pvs y) (vss y)).length=177:=by
   unfold eY;rw[List.length_append,List.length_append,HA35.out,dJ _ _ (HWR3.out y hy3).nv];rfl
  have HOS0:∀u∈eY n t y (pvs y) (vss y),u.oneCell'=true:=by
   intro u hu;rcases List.mem_append.1 hu with h|h
   ·exact HOA.out u h
   ·rcases List.mem_append.1 h with h|h
    ·exact eE _ (HWR3.out y hy3).nv u h
    ·rw[List.mem_singleton] at h;subst h;rfl
  have hS0:eY n t y (pvs y) (vss y)=aH (pvs y) (aX n t y).ptr++(cF ((k+1:Nat):Int) (vss y) (fun i=>((aX n t y).kid i).ptr)++[.int .i64 (dg:Int)]):=by
   unfold eY;rw[hdg,show 3-y=k+1 by omega]
  obtain⟨sc,hsce⟩:∃x,eY n t y (pvs y) (vss y)=x:=⟨_,rfl⟩
  rw[hsce] at hsc HOS0 hS0 ⊢;have HOS:=O HOS0;have HSC:=O hS0;have hd0:(0:Int)≤(dg:Int):=by omega
  have hd1:(dg:Int)<4:=by omega
  rw[AK];simp only[List.setIfInBounds_toArray,List.set_cons_zero,List.set_cons_succ];replace HL:=HL1;clear hpv hki hBI hB' hkp h10 h12 hI0 HBK HWR3 HST3 HOS0 hS0 hsce hdg huce HOU0 HPY HL1 hrT;rcases r with _|u
  ·replace HL:Hid (Loc B B' w W1 [(b12,uc.toArray,26),(b10,#[.int .i64 15],46),(b9,#[.int .i64 0],46),(b8,aF.toArray,26),(b5,pc.toArray,26),(b4,#[.pointer (some ⟨c,0,none⟩)],36)]):=HL
   refine cR (by kernel_rfl) (fun ⟨_,_,h⟩=>h) ?_
   go_wp2_with ((with_reducible show WL _ _);refine al 125 (.agg iS.toArray) (iS.toArray) yF ?_)
   intro b15 wk hbs hk0 hb0_
   go_wp2_with ((with_reducible show WL _ _);refine sta 125 (.tmp 15) (.tmp 75) b15 0 sc hb0_ (by first|decide|(rw[List.size_toArray,hsc];exact Nat.le_refl _)|simp[hsc,gP]) (by rw[hsc];exact qQ) HOS.out ?_)
   intro wl hk hb;rw[aI _ _ (by first|rfl|(rw[List.size_toArray,hsc];rfl)|simp[hsc,gP])] at hb;replace hk:=hk0.trans' hk (U:=aB) (fun _ _ h=>h) (fun i hi e=>by omega);have HNb15:=O (show W1.heap.size≤b15 from Nat.le_of_eq hbs);replace HL:=O (HL.out.new (fun k h=>HKI.out.lt h) hbs hk hb);replace HKI:=O (HKI.out.keep0 hk);replace HPV:=O (aJ.keep0 HPV.out hk);replace HNV:=O (bZ.keep0 HNV.out hk);replace HBI:=O (fun i h=>(HBI.out i h).imp (fun c=>c.keep hk id) id);replace HKP:=O (HKP.out.trans (aA.any hk));replace HX:=O (HX.out.trans hk);clear hbs hk hb hk0 hb0_;go_wp2_with fail;refine⟨KpN.of HX.out (fun _ _ h=>h.elim),KpC.of HX.out (fun _ h=>h.elim),fun o o' hoo hoc=>?_⟩;have kd:=aA.of_grown (grownBy_putObj' wl l o');have no:=fun {i:Nat}(h:IsC wl i)=>mH hoo hoc h
   have nB:∀i,some l=some i->¬B' i:=fun i e hb=>(HBI.out i hb).elim (fun h=>no h e) fun h=>by have:=h.1;injection e with e;have:=HSW.out.2;omega
   replace HL:=O (HL.out.put (o':=o') hoo hoc (by have:=HSW.out.2;have:=HWS.out;omega));replace HKI:=O (HKI.out.keepT kd nB);replace HPV:=O (HPV.out.keepT kd fun i hi=>no (HPV.out.off i hi).2);replace HNV:=O (HNV.out.keepT kd fun q hq i hi=>no ((HNV.out q hq).off i hi).2);replace HBI:Hid (∀i,B' i->IsC (wl.putObj l o') i\/i<wi.heap.size/\B0 i/\¬IsC wi i):=O fun i h=>(HBI.out i h).imp (fun c=>c.keep kd (no c)) id
   replace HKP:=O (HKP.out.trans' kd (fun _ _ h=>h) (fun i hi e=>by injection e with e;have:=HSW.out.2;omega));clear HX kd no nB;generalize World.putObj wl l o'=V at HL HKI HPV HNV HBI HKP ⊢;have HLV:=HL;have HBV:=HBI;have HX:Hid (aA (fun i=>B' i\/i=b8\/i=b9\/i=b10\/i=b12\/i=b15) V V):=O (aA.refl _ _);clear hoo hoc;refine wpIn_block ?_
   repeat refine wpIn_seq ?_
   refine cR (by kernel_rfl) (fun ⟨_,_,h⟩=>h) ?_;have c1:V.cell? ⟨b10,0,none⟩=some (.int .i64 15):=(aD (i:=0) (HL.out.b 2) rfl)
   go_wp2_with fail;clear c1;refine wpIn_cond_true rfl ?_;refine wpIn_seq ?_;replace HKP:Hid (aA (fun i=>B0 i\/i=b8\/i=b9\/i=b10\/i=b12) wi V):=O ((aA.refl aB wi).trans' HKP.out (fun _ _ h=>h.elim) (fun i hi e=>e.elim .inl fun e=>e.elim (fun e=>.inr (.inr (.inr (.inl e)))) fun e=>.inr (.inr (.inr (.inr e)))));have HFIN:Hid (∀Wf,Wf.heap[b8]?=some (.cells aF.toArray FD (0,0))->Wf.heap[b9]?=some (.cells #[.int .i64 15] FC (0,0))->KI Wf c T B'->(∀i,B' i->IsC Wf i\/i<wi.heap.size/\B0 i/\¬IsC wi i)->aA (fun i=>B0 i\/i=b8\/i=b9\/i=b10\/i=b12) wi Wf->CY wi b8 b9 b10 b12 c S B0 n t bs Wf):=O fun Wf a1 a2 a3 a4 a5=>⟨T,B',AX (y:=y+1) (by omega) HRT.out,a1,a2,a3,HB2.out,a4,a5⟩
   go_wp2_with fail;obtain⟨S,hS0⟩:∃S:World->Prop,S=fun w'=>aA (fun k=>k=b8\/k=b9) V.drew w':=⟨_,rfl⟩
   have HSE:=O (show ∀w',S w'->aA (fun k=>k=b8\/k=b9) V.drew w' from fun w' h=>by rw[hS0] at h;exact h);have HSI:=O (show ∀w',aA (fun k=>k=b8\/k=b9) V.drew w'->S w' from fun w' h=>by rw[hS0];exact h);have hS:S V.drew:=by rw[hS0];exact aA.refl _ _
   have hkd:=(aA.refl aB V).drew;clear hS0;refine kX (by kernel_rfl) (by kernel_rfl) (fun ⟨_,_,h⟩=>h) (wpAny_of_held (S:=S) _ _ _ _ ?_);change wpAnyH _ _ _ _ _ _ _ _ V.drew;generalize V.drew=wm at HSE HSI hS hkd ⊢;replace HL:=O (HL.out.keeps hkd);replace HKI:=O (HKI.out.keep0 hkd);replace HBI:=O (fun i h=>(HBI.out i h).imp (fun c=>c.keep hkd id) id);replace HKP:=O (HKP.out.trans (aA.any hkd));replace HX:=O (HX.out.trans (aA.any hkd));clear hkd;have HLs:=HL;have HKIs:=HKI;have HBIs:=HBI;have HKPs:=HKP;have HXs:=HX;refine tnd 0 (.agg aF.toArray) rfl (pM (by rfl) 26 rfl fQ) hS ?_;refine tnd 1 (.int .i64 15) rfl (.inl ⟨by rfl,fun w' hw'=>by have c:World.cell? w' ⟨b10,0,none⟩=some (.int .i64 15):=aD (i:=0) ((HSE.out w' hw').blk (HLs.out.b 2) (fun e=>by rcases e with e|e<;>first|exact bI (i:=4) HLs.out.nd rfl 2 (by decide) rfl e|exact bI (i:=3) HLs.out.nd rfl 2 (by decide) rfl e)) rfl;go_simp⟩) hS ?_;refine wA9 2 ?_;refine sta 26 (.tmp 8) (.tmp 78) b8 0 aF (HL.out.b 4) (by first|decide|(rw[aE];exact Nat.le_refl _)|simp[aE,aE]) (szP9 aE) yN ?_;intro wn hk hb;rw[aI _ _ (by first|rfl|simp[aE,aE])] at hb;have hS1:=HSI.out _ ((HSE.out _ hS).trans' hk (fun _ _ h=>h) (fun i hi e=>(.inl e)));clear hS;replace HL:=O (HL.out.set 4 hk hb);replace HKI:=O (KI.keepT HKI.out hk (fun i e hq=>by rw[e] at hq;first|exact (HL.out.aq 0) hq|exact (HL.out.aq 1) hq|exact (HL.out.aq 2) hq|exact (HL.out.aq 3) hq|exact (HL.out.aq 4) hq|exact (HL.out.aq 5) hq|exact (HL.out.aq 6) hq));replace HBI:=O (fun i h=>(HBI.out i h).imp (fun cc=>cc.keep hk (fun e=>by rw[e] at h;first|exact (HL.out.aq 0) h|exact (HL.out.aq 1) h|exact (HL.out.aq 2) h|exact (HL.out.aq 3) h|exact (HL.out.aq 4) h|exact (HL.out.aq 5) h|exact (HL.out.aq 6) h)) id);replace HKP:=O (HKP.out.trans' hk (fun _ _ h=>h) (fun i hi e=>by first|exact .inr (.inl e)|exact .inr (.inr (.inl e))|exact .inr (.inr (.inr (.inl e)))|exact .inr (.inr (.inr (.inr e)))|(have:=HNb15.out;have:=HSW.out;omega)));replace HX:=O (HX.out.trans' hk (fun _ _ h=>h) (fun i _ e=>by first|exact .inr (.inl e)|exact .inr (.inr (.inl e))|exact .inr (.inr (.inr (.inl e)))|exact .inr (.inr (.inr (.inr (.inl e))))|exact .inr (.inr (.inr (.inr (.inr e))))));clear hk hb;refine wpList_nil ?_;refine⟨hS1,?_⟩;refine wA9 3 ?_;refine sta 46 (.tmp 9) (.tmp 79) b9 0 ([.int .i64 15]) (HL.out.b 3) (by simp) (by kernel_rfl) (one9) ?_;intro wo hk hb;replace hb:wo.heap[b9]?=some (.cells #[.int .i64 15] 46 (0,0)):=hb;have hS2:=HSI.out _ ((HSE.out _ hS1).trans' hk (fun _ _ h=>h) (fun i hi e=>(.inr (e))));clear hS1;replace HL:=O (HL.out.set 3 hk hb);replace HKI:=O (KI.keepT HKI.out hk (fun i e hq=>by rw[e] at hq;first|exact (HL.out.aq 0) hq|exact (HL.out.aq 1) hq|exact (HL.out.aq 2) hq|exact (HL.out.aq 3) hq|exact (HL.out.aq 4) hq|exact (HL.out.aq 5) hq|exact (HL.out.aq 6) hq));replace HBI:=O (fun i h=>(HBI.out i h).imp (fun cc=>cc.keep hk (fun e=>by rw[e] at h;first|exact (HL.out.aq 0) h|exact (HL.out.aq 1) h|exact (HL.out.aq 2) h|exact (HL.out.aq 3) h|exact (HL.out.aq 4) h|exact (HL.out.aq 5) h|exact (HL.out.aq 6) h)) id);replace HKP:=O (HKP.out.trans' hk (fun _ _ h=>h) (fun i hi e=>by first|exact .inr (.inl e)|exact .inr (.inr (.inl e))|exact .inr (.inr (.inr (.inl e)))|exact .inr (.inr (.inr (.inr e)))|(have:=HNb15.out;have:=HSW.out;omega)));replace HX:=O (HX.out.trans' hk (fun _ _ h=>h) (fun i _ e=>by first|exact .inr (.inl e)|exact .inr (.inr (.inl e))|exact .inr (.inr (.inr (.inl e)))|exact .inr (.inr (.inr (.inr (.inl e))))|exact .inr (.inr (.inr (.inr (.inr e))))));clear hk hb;refine wpList_nil ?_;refine⟨hS2,?_⟩;refine wpAnyH_done (by kernel_rfl) ?_ _;clear hS2 HSE HSI HLs HKIs HBIs HKPs HXs;refine wpIn_ret ?_;have HSF:=HFIN.out _ (HL.out.b 4) (HL.out.b 3) HKI.out HBI.out HKP.out
   exact⟨KpN.of HX.out fun i o e hn ho=>by
    rcases e with e|e|e|e|e|e
    ·rcases HBV.out i e with⟨cs,t,h⟩|h
     ·rw[h] at ho;cases ho;rfl
     ·omega
    ·have:=HG.out;omega
    ·have:=HG.out;omega
    ·have:=HG.out;omega
    ·have:=HG.out;omega
    ·subst e;rw[HLV.out.b 0] at ho;cases ho;rfl,HSF⟩
  ·replace HL:Hid (Loc B B' w W1 [(b12,uc.toArray,26),(b10,#[.int .i64 0],46),(b9,#[.int .i64 0],46),(b8,aF.toArray,26),(b5,pc.toArray,26),(b4,#[.pointer (some ⟨c,0,none⟩)],36)]):=HL
   refine cR (by kernel_rfl) (fun ⟨_,_,h⟩=>h) ?_
   go_wp2_with ((with_reducible show WL _ _);refine al 125 (.agg iS.toArray) (iS.toArray) yF ?_)
   intro b15 wk hbs hk0 hb0_
   go_wp2_with ((with_reducible show WL _ _);refine sta 125 (.tmp 15) (.tmp 75) b15 0 sc hb0_ (by first|decide|(rw[List.size_toArray,hsc];exact Nat.le_refl _)|simp[hsc,gP]) (by rw[hsc];exact qQ) HOS.out ?_)
   intro wl hk hb;rw[aI _ _ (by first|rfl|(rw[List.size_toArray,hsc];rfl)|simp[hsc,gP])] at hb;replace hk:=hk0.trans' hk (U:=aB) (fun _ _ h=>h) (fun i hi e=>by omega);have HNb15:=O (show W1.heap.size≤b15 from Nat.le_of_eq hbs);replace HL:=O (HL.out.new (fun k h=>HKI.out.lt h) hbs hk hb);replace HKI:=O (HKI.out.keep0 hk);replace HPV:=O (aJ.keep0 HPV.out hk);replace HNV:=O (bZ.keep0 HNV.out hk);replace HBI:=O (fun i h=>(HBI.out i h).imp (fun c=>c.keep hk id) id);replace HKP:=O (HKP.out.trans (aA.any hk));replace HX:=O (HX.out.trans hk);clear hbs hk hb hk0 hb0_;go_wp2_with fail;refine⟨KpN.of HX.out (fun _ _ h=>h.elim),KpC.of HX.out (fun _ h=>h.elim),fun o o' hoo hoc=>?_⟩;have kd:=aA.of_grown (grownBy_putObj' wl l o');have no:=fun {i:Nat}(h:IsC wl i)=>mH hoo hoc h
   have nB:∀i,some l=some i->¬B' i:=fun i e hb=>(HBI.out i hb).elim (fun h=>no h e) fun h=>by have:=h.1;injection e with e;have:=HSW.out.2;omega
   replace HL:=O (HL.out.put (o':=o') hoo hoc (by have:=HSW.out.2;have:=HWS.out;omega));replace HKI:=O (HKI.out.keepT kd nB);replace HPV:=O (HPV.out.keepT kd fun i hi=>no (HPV.out.off i hi).2);replace HNV:=O (HNV.out.keepT kd fun q hq i hi=>no ((HNV.out q hq).off i hi).2);replace HBI:Hid (∀i,B' i->IsC (wl.putObj l o') i\/i<wi.heap.size/\B0 i/\¬IsC wi i):=O fun i h=>(HBI.out i h).imp (fun c=>c.keep kd (no c)) id
   replace HKP:=O (HKP.out.trans' kd (fun _ _ h=>h) (fun i hi e=>by injection e with e;have:=HSW.out.2;omega));clear HX kd no nB;generalize World.putObj wl l o'=V at HL HKI HPV HNV HBI HKP ⊢;have HLV:=HL;have HBV:=HBI;have HX:Hid (aA (fun i=>B' i\/i=b8\/i=b9\/i=b10\/i=b12\/i=b15) V V):=O (aA.refl _ _);clear hoo hoc;refine wpIn_block ?_
   repeat refine wpIn_seq ?_
   refine cR (by kernel_rfl) (fun ⟨_,_,h⟩=>h) ?_;have c1:V.cell? ⟨b10,0,none⟩=some (.int .i64 0):=(aD (i:=0) (HL.out.b 2) rfl)
   go_wp2_with fail;clear c1;have HBU:=O (Eh (t:=t) (n:=n) (k:=k) (y:=y+1) HBD.out HT.out HBL.out HNE.out (by omega) HRT.out);have HKO:=O (iA (n:=n) HT.out y (by omega));refine wpIn_cond_false rfl ?_;refine wpIn_skip ?_;have hkc:=aL (v:=vss y dg) ((HNV.out dg hd4).pt.sum);have HOK0:=bD (HNV.out dg hd4).pt;obtain⟨kc,hkce⟩:∃x,aH (vss y dg) ((aX n t y).kid dg).ptr=x:=⟨_,rfl⟩
   have HOKC:Hid (∀u∈kc,u.oneCell'=true):=O (by rw[←hkce];exact HOK0);have HKC:=O hkce;rw[hkce] at hkc;clear hkce HOK0
   have hst:fP (k+1) S (aX n t y) n bs=(T.lay (k+1) (eH (aX n t y).kid dg u)):=by
    rw[CW S t n bs (k:=k) (y:=y) hky2,HRT.out,←HDG.out,show 2-y=k by omega]
   have HFIN:Hid (∀Wf v2 B2,Wf.heap[b12]?=some (.cells (aH v2 (cI (T.lay (k+1) (eH (aX n t y).kid dg u)).1)).toArray FD (0,0))->Wf.heap[b10]?=some (.cells #[.int .i64 (dZ (T.lay (k+1) (eH (aX n t y).kid dg u)).1)] FC (0,0))->aJ Wf B2 v2 (cI (T.lay (k+1) (eH (aX n t y).kid dg u)).1)->(∀i,v2.ownBlock=some i->i≠b8/\i≠b9/\i≠b10/\i≠b12)->KI Wf c (T.lay (k+1) (eH (aX n t y).kid dg u)).2 B2->(∀i,B2 i->B0 i\/wi.heap.size≤i)->(∀i,B2 i->IsC Wf i\/i<wi.heap.size/\B0 i/\¬IsC wi i)->aA (fun i=>B0 i\/i=b10\/i=b12) wi Wf->rW wi b8 b9 b10 b12 c S B0 n t bs (k+1) Wf):=O fun Wf v2 B2 a1 a2 a3 a4 a5 a6 a7 a8=>⟨y,v2,B2,by omega,by rw[hst];exact a1,by rw[hst];exact a2,by rw[hst];exact a3,a4,by rw[hst];exact a5,a6,a7,a8⟩
   clear hst
   repeat refine wpIn_seq ?_
   go_wp2_with fail;obtain⟨S,hS0⟩:∃S:World->Prop,S=fun w'=>aA aB V.drew w':=⟨_,rfl⟩
   have HSE:=O (show ∀w',S w'->aA aB V.drew w' from fun w' h=>by rw[hS0] at h;exact h);have HSI:=O (show ∀w',aA aB V.drew w'->S w' from fun w' h=>by rw[hS0];exact h);have hS:S V.drew:=by rw[hS0];exact aA.refl _ _
   have hkd:=(aA.refl aB V).drew;clear hS0;refine kX (by kernel_rfl) (by kernel_rfl) (fun ⟨_,_,h⟩=>h) (wpAny_of_held (S:=S) _ _ _ _ ?_);change wpAnyH _ _ _ _ _ _ _ _ V.drew;generalize V.drew=wm at HSE HSI hS hkd ⊢;replace HL:=O (HL.out.keeps hkd);replace HKI:=O (HKI.out.keep0 hkd);replace HPV:=O (aJ.keep0 HPV.out hkd);replace HNV:=O (bZ.keep0 HNV.out hkd);replace HBI:=O (fun i h=>(HBI.out i h).imp (fun c=>c.keep hkd id) id);replace HKP:=O (HKP.out.trans (aA.any hkd));replace HX:=O (HX.out.trans (aA.any hkd));clear hkd;have HLs:=HL;have HKIs:=HKI;have HPVs:=HPV;have HNVs:=HNV;have HBIs:=HBI;have HKPs:=HKP;have HXs:=HX;refine tnd 0 (.agg uc.toArray) rfl (yieldsIf_load_mid (by rfl) 26 (.tmp 12) rfl b12 0 rfl uc _ (fun w' h=>aC ((HSE.out w' h).blk (HLs.out.b 1) id)) aG rfl (szP9 huc)) hS ?_;refine tnb 1 (.pointer (some ⟨b15,176,none⟩)) rfl hS ?_;refine tnd 2 (.int .i64 (dg:Int)) rfl (.inl ⟨by rfl,fun w' hw'=>by have c:World.cell? w' ⟨b15,176,none⟩=some (.int .i64 (dg:Int)):=(Ej HA35.out (dJ _ _ HNV.out.nv) (by have hq:=((HSE.out w' hw').blk (HLs.out.b 0) id);rw[HSC.out] at hq;exact hq));go_simp⟩) hS ?_;refine tnb 3 (.pointer (some ⟨b15,35,none⟩)) rfl hS ?_;refine tnb 4 (.pointer (some ⟨b15,36,none⟩)) rfl hS ?_;refine tnb 5 (.pointer (some ⟨b15,36+dg*35,none⟩)) rfl hS ?_;refine tnd 6 (.agg kc.toArray) rfl (yieldsIf_load_mid (by rfl) 26 (.tmp 85) rfl b15 (36+dg*35) rfl kc _ (fun w' h=>(by rw[←HKC.out];exact Lm (vs:=vss y) (ps:=(fun i=>((aX n t y).kid i).ptr)) HA35.out HNV.out.nv hd4 (by have hq:=((HSE.out w' h).blk (HLs.out.b 0) id);rw[HSC.out] at hq;exact hq))) aG rfl (szP9 hkc)) hS ?_;refine wA9 7 ?_;go_wp2_with fail;refine((by rw[←HUC.out,←HKC.out];exact nT wm v (vss y dg) u.ptr ((aX n t y).kid dg).ptr HPV.out.pt (HNV.out dg hd4).pt:Calls _ _ _ wm (aT wm (u.ptr.eqB ((aX n t y).kid dg).ptr)))).mono ?_;rintro e wn ⟨rfl,hk⟩;rw[show u.ptr.eqB ((aX n t y).kid dg).ptr=false from by have h:=HBU.out.2.2;rw[←HDG.out];exact h];have hS1:=HSI.out _ ((HSE.out _ hS).trans hk);replace HL:=O (HL.out.keeps hk);replace HKI:=O (HKI.out.keep0 hk);replace HPV:=O (aJ.keep0 HPV.out hk);replace HNV:=O (bZ.keep0 HNV.out hk);replace HBI:=O (fun i h=>(HBI.out i h).imp (fun c=>c.keep hk id) id);replace HKP:=O (HKP.out.trans (aA.any hk));replace HX:=O (HX.out.trans (aA.any hk));clear hS hk;go_wp2_with fail;refine⟨hS1,?_⟩;refine wpAnyH_done (by kernel_rfl) ?_ _;clear hS1 HSE HSI HLs HKIs HPVs HNVs HBIs HKPs HXs;refine wpIn_cond_false rfl ?_;refine wpIn_skip ?_;refine wpIn_seq ?_;refine cR (by kernel_rfl) (fun ⟨_,_,h⟩=>h) ?_;have c1:wn.cell? ⟨b15,176,none⟩=some (.int .i64 (dg:Int)):=(Ej HA35.out (dJ _ _ HNV.out.nv) (by have hq:=HL.out.b 0;rw[HSC.out] at hq;exact hq))
   go_wp2_with ((with_reducible show WL _ _);first
    | refine wpList_load_mid rfl 26 (.tmp 12) rfl b12 0 rfl uc _ (aC (HL.out.b 1)) aG rfl (szP9 huc) ?_
    | refine sta 26 (.tmp 95) (.tmp 92) b15 (36+dg*35) uc (HL.out.b 0) (by rw[List.size_toArray,hsc,huc];omega) (szP9 huc) HOU.out ?_)
   clear c1;intro wo hk hb;rw[HSC.out,←HUC.out,show cI (some u)=u.ptr from rfl,Ln (v:=v) (p:=u.ptr) HA35.out HNV.out.nv hd4 HPV.out.pt.sum,CX] at hb;have HNU:=O (HNV.out.upd (d:=dg) HPV.out);have hnn:=dJ ((k+1:Nat):Int) (fD (vss y) dg v) HNU.out.nv;obtain⟨nn,hnne⟩:∃x,cF ((k+1:Nat):Int) (fD (vss y) dg v) (fun i=>(eH (aX n t y).kid dg u i).ptr)=x:=⟨_,rfl⟩
   have HNN:=O hnne;rw[hnne] at hb hnn;obtain⟨sd,hsde⟩:∃x,aH (pvs y) (aX n t y).ptr++(nn++[.int .i64 (dg:Int)])=x:=⟨_,rfl⟩
   have HSD:=O hsde;rw[hsde] at hb
   have HNUL:Hid (∀q,q<4->∀i,(fD (vss y) dg v q).ownBlock=some i->i<W1.heap.size):=O (fun q hq i hi=>by
    by_cases e:q=dg
    ·rw[e,lU] at hi;exact HVL.out i hi
    ·rw[lV _ _ e] at hi;exact HNL.out q hq i hi)
   clear hnne hsde;replace HL:=O (HL.out.set 0 hk hb);replace HKI:=O (KI.keepT HKI.out hk (fun i e hq=>by rw[e] at hq;first|exact (HL.out.aq 0) hq|exact (HL.out.aq 1) hq|exact (HL.out.aq 2) hq|exact (HL.out.aq 3) hq|exact (HL.out.aq 4) hq|exact (HL.out.aq 5) hq|exact (HL.out.aq 6) hq));replace HBI:=O (fun i h=>(HBI.out i h).imp (fun cc=>cc.keep hk (fun e=>by rw[e] at h;first|exact (HL.out.aq 0) h|exact (HL.out.aq 1) h|exact (HL.out.aq 2) h|exact (HL.out.aq 3) h|exact (HL.out.aq 4) h|exact (HL.out.aq 5) h|exact (HL.out.aq 6) h)) id);replace HKP:=O (HKP.out.trans' hk (fun _ _ h=>h) (fun i hi e=>by first|exact .inr (.inl e)|exact .inr (.inr e)|(have:=HNb15.out;have:=HSW.out;omega)));replace HX:=O (HX.out.trans' hk (fun _ _ h=>h) (fun i _ e=>by first|exact .inr (.inl e)|exact .inr (.inr (.inl e))|exact .inr (.inr (.inr (.inl e)))|exact .inr (.inr (.inr (.inr (.inl e))))|exact .inr (.inr (.inr (.inr (.inr e))))));replace HNU:=O (bZ.keepT HNU.out hk (fun q hq i hi e=>by have:=HNUL.out q hq i hi;have:=HNb15.out;omega));clear hk hb;refine wpList_nil ?_;refine cR (by kernel_rfl) (fun ⟨_,_,h⟩=>h) ?_;have c1:wo.cell? ⟨b4,0,none⟩=some (.pointer (some ⟨c,0,none⟩)):=(aD (i:=0) (HL.out.b 6) rfl)
   go_wp2_with ((with_reducible show WL _ _);refine wpList_load_mid rfl 123 (.tmp 98) rfl b15 35 rfl nn _ (JL HA35.out (by have hq:=(HL.out.b 0);rw[←HSD.out] at hq;exact hq)) Tryz.underlying123 rfl (by rw[hnn];exact eO) ?_)
   clear c1;refine((by rw[←HNN.out];exact CS HKI.out (by omega) (eH (aX n t y).kid dg u) (Ll (fun i hi=>by have h:=HKO.out;rw[show 3-y=k+1 by omega] at h;exact h.kid hi) HBU.out.1.ext HBU.out.2.1) (fD (vss y) dg v) HNU.out:Calls _ _ _ wo (aZ wo c B' (.slice none 0 0) (T.lay (k+1) (eH (aX n t y).kid dg u)).1 (T.lay (k+1) (eH (aX n t y).kid dg u)).2))).mono ?_;rintro e wp ⟨v2,B2,hm2,hpv2,hki2,hBB2,hcl2,hnw2,hk⟩;obtain⟨er2,her2⟩:∃x,dZ (T.lay (k+1) (eH (aX n t y).kid dg u)).1=x:=⟨_,rfl⟩
   rw[her2] at hm2;have HER2:=O her2;subst hm2;replace hnw2:eF wo v2:=hnw2.elim (fun e=>by rw[e];exact eF.nil _) id;have HPV2:=O hpv2;have HKI2:=O hki2;have HNW2:=O hnw2;have HBB2:=O hBB2;have HBI2:Hid (∀i,B2 i->IsC wp i\/i<wi.heap.size/\B0 i/\¬IsC wi i):=O fun i h=>(hcl2 i h).imp id fun ⟨a1,a2⟩=>(HBI.out i a1).resolve_left a2
   have hlc2:=aL (v:=v2) hpv2.pt.sum;have HLC20:=bD hpv2.pt;obtain⟨lc2,hlce2⟩:∃x,aH v2 (cI (T.lay (k+1) (eH (aX n t y).kid dg u)).1)=x:=⟨_,rfl⟩
   have HOLC2:Hid (∀u∈lc2,u.oneCell'=true):=O (by rw[←hlce2];exact HLC20);have HLCE2:=O hlce2;rw[hlce2] at hlc2 ⊢;have HSV:=O (show wi.heap.size≤wo.heap.size from HKP.out.size);have HLQ:=O (And.intro (HL.out.lt 1).2 (And.intro (HL.out.lt 2).2 (And.intro (HL.out.lt 3).2 (HL.out.lt 4).2)));clear hlce2 HLC20 hpv2 hki2 hcl2 hnw2 her2;replace HX:Hid (aA (fun i=>B' i\/i=b8\/i=b9\/i=b10\/i=b12\/i=b15) V wp):=O (HX.out.trans' hk (fun _ _ h=>h) (fun i _ e=>.inl e));replace HKP:=O (HKP.out.trans' hk (fun _ _ h=>h) (fun i hi e=>(HB2.out i e).elim .inl fun e=>by omega));replace HL:=O (HL.out.turn hk (fun i hi e=>(HB2.out i e).elim (fun e=>(HBB.out i e).elim id fun e=>by omega) fun e=>by have:=HWS.out;omega) (fun i hi e=>(hBB2 i e).elim id fun e=>by omega));clear hk hBB2 HKI HBI HNU
   go_wp2_with ((with_reducible show WL _ _);refine sta 26 (.tmp 12) (.tmp 101) b12 0 lc2 (HL.out.b 1) (by first|decide|(rw[hlc2];exact Nat.le_refl _)|simp[hlc2,huc]) (szP9 hlc2) HOLC2.out ?_)
   intro wq hk hb;rw[aI _ _ (by first|rfl|simp[hlc2,huc])] at hb;replace HL:=O (HL.out.set 1 hk hb);replace HKI2:=O (KI.keepT HKI2.out hk (fun i e hq=>by rw[e] at hq;first|exact (HL.out.aq 0) hq|exact (HL.out.aq 1) hq|exact (HL.out.aq 2) hq|exact (HL.out.aq 3) hq|exact (HL.out.aq 4) hq|exact (HL.out.aq 5) hq|exact (HL.out.aq 6) hq));replace HPV2:=O (aJ.keepT HPV2.out hk (fun i hi e=>by have:=HNW2.out i hi;have:=HLQ.out;omega));replace HBI2:=O (fun i h=>(HBI2.out i h).imp (fun cc=>cc.keep hk (fun e=>by rw[e] at h;first|exact (HL.out.aq 0) h|exact (HL.out.aq 1) h|exact (HL.out.aq 2) h|exact (HL.out.aq 3) h|exact (HL.out.aq 4) h|exact (HL.out.aq 5) h|exact (HL.out.aq 6) h)) id);replace HKP:=O (HKP.out.trans' hk (fun _ _ h=>h) (fun i hi e=>by first|exact .inr (.inl e)|exact .inr (.inr e)|(have:=HNb15.out;have:=HSW.out;omega)));replace HX:=O (HX.out.trans' hk (fun _ _ h=>h) (fun i _ e=>by first|exact .inr (.inl e)|exact .inr (.inr (.inl e))|exact .inr (.inr (.inr (.inl e)))|exact .inr (.inr (.inr (.inr (.inl e))))|exact .inr (.inr (.inr (.inr (.inr e))))));clear hk hb
   go_wp2_with ((with_reducible show WL _ _);refine sta 46 (.tmp 10) (.tmp 102) b10 0 ([.int .i64 er2]) (HL.out.b 2) (by simp) (by kernel_rfl) (one9) ?_)
   intro wr hk hb;replace hb:wr.heap[b10]?=some (.cells #[.int .i64 er2] 46 (0,0)):=hb;replace HL:=O (HL.out.set 2 hk hb);replace HKI2:=O (KI.keepT HKI2.out hk (fun i e hq=>by rw[e] at hq;first|exact (HL.out.aq 0) hq|exact (HL.out.aq 1) hq|exact (HL.out.aq 2) hq|exact (HL.out.aq 3) hq|exact (HL.out.aq 4) hq|exact (HL.out.aq 5) hq|exact (HL.out.aq 6) hq));replace HPV2:=O (aJ.keepT HPV2.out hk (fun i hi e=>by have:=HNW2.out i hi;have:=HLQ.out;omega));replace HBI2:=O (fun i h=>(HBI2.out i h).imp (fun cc=>cc.keep hk (fun e=>by rw[e] at h;first|exact (HL.out.aq 0) h|exact (HL.out.aq 1) h|exact (HL.out.aq 2) h|exact (HL.out.aq 3) h|exact (HL.out.aq 4) h|exact (HL.out.aq 5) h|exact (HL.out.aq 6) h)) id);replace HKP:=O (HKP.out.trans' hk (fun _ _ h=>h) (fun i hi e=>by first|exact .inr (.inl e)|exact .inr (.inr e)|(have:=HNb15.out;have:=HSW.out;omega)));replace HX:=O (HX.out.trans' hk (fun _ _ h=>h) (fun i _ e=>by first|exact .inr (.inl e)|exact .inr (.inr (.inl e))|exact .inr (.inr (.inr (.inl e)))|exact .inr (.inr (.inr (.inr (.inl e))))|exact .inr (.inr (.inr (.inr (.inr e))))));clear hk hb;go_wp2_with fail;have HSI0:=HL.out.b 1;have HSI1:=HL.out.b 2;rw[←HLCE2.out] at HSI0;rw[←HER2.out] at HSI1;have HSN:=HFIN.out _ v2 B2 HSI0 HSI1 HPV2.out (fun i hi=>by (have:=HNW2.out i hi;have:=HLQ.out;omega)) HKI2.out (fun i h=>(HBB2.out i h).elim (HB2.out i) fun e=>.inr (by have:=HSV.out;omega)) HBI2.out HKP.out
   refine⟨KpN.of HX.out fun i o e hn ho=>by
    rcases e with e|e|e|e|e|e
    ·rcases HBV.out i e with⟨cs,t,h⟩|h
     ·rw[h] at ho;cases ho;rfl
     ·omega
    ·have:=HG.out;omega
    ·have:=HG.out;omega
    ·have:=HG.out;omega
    ·have:=HG.out;omega
    ·subst e;rw[HLV.out.b 0] at ho;cases ho;rfl,KpC.of HX.out (fun i e=>?_),HSN⟩
   rcases e with e|e|e|e|e|e
   ·exact(HB2.out i e).elim .inl fun e=>.inr (.inr (.inr (.inr (.inr e))))
   ·exact .inr (.inl e)
   ·exact .inr (.inr (.inl e))
   ·exact .inr (.inr (.inr (.inl e)))
   ·exact .inr (.inr (.inr (.inr (.inl e))))
   ·exact .inr (.inr (.inr (.inr (.inr (by have:=HNb15.out;have:=HSW.out;omega)))))
 case done =>
  rintro D W hDs ⟨y,v,B',hky,h12,h10,hpv,hvo,hki,hB',hBI,hkp⟩ hDd;obtain rfl:y=0:=by omega
  rename_i KQ hKQ;obtain⟨⟨r,T⟩,hrT⟩:∃q,fP 3 S t n bs=q:=⟨_,rfl⟩
  have e0:fP 3 S (aX n t 0) n bs=(r,T):=hrT;rw[e0] at h12 h10 hpv hki;rw[hrT] at hKQ ⊢;dsimp only at h12 h10 hpv hki hKQ ⊢;have HRT:=O hrT;have huc:=aL (v:=v) hpv.pt.sum;have HOU0:=bD hpv.pt;obtain⟨uc,huce⟩:∃x,aH v (cI r)=x:=⟨_,rfl⟩
  have HOU:Hid (∀u∈uc,u.oneCell'=true):=O (by rw[←huce];exact HOU0);have HUC:=O huce;rw[huce] at huc h12;have HL1:=O (Loc.round HL.out h12 h10 hB' HBB.out hkp);have HKI:=O hki;have HPV:=O hpv;have HBI:=O hBI;have HDD:=O hDd;have HKP:Hid (aA (fun i=>B0 i\/i=b8\/i=b9\/i=b10\/i=b12) wi W):=O ((aA.refl aB wi).trans' hkp (fun _ _ h=>h.elim) (fun i hi e=>e.elim .inl fun e=>e.elim (fun e=>.inr (.inr (.inr (.inl e)))) fun e=>.inr (.inr (.inr (.inr e)))));have HPVO:=O hvo
  have HFX:Hid (∀Wf v2,aJ Wf B' v2 (cI r)->v2=.slice none 0 0\/eF w v2->KI Wf c T B'->(∀i,B' i->IsC Wf i\/i<wi.heap.size/\B0 i/\¬IsC wi i)->aA (fun i=>B0 i\/i=b8\/i=b9\/i=b10\/i=b12) wi Wf->Wf.heap[D]?=some (.deferred (some []))->aZ w c B (.slice none 0 0) r T (.returned (.tuple #[.agg (aH v2 (cI r)).toArray,.int .i64 (dZ r)])) (Wf.putObj D (.deferred none))):=O fun Wf v2 a1 a2 a3 a4 a5 a6=>by
   have kd:=aA.of_grown (grownBy_putObj' Wf D (.deferred none));have no:=fun {i:Nat}(h:IsC Wf i)=>mH a6 rfl h
   have nB:∀i,some D=some i->¬B' i:=fun i e hb=>(a4 i hb).elim (fun h=>no h e) fun h=>by have:=h.1;injection e with e;omega
   exact aZ.upon (W:=Wf) rfl (a1.keepT kd fun i hi=>no (a1.off i hi).2) (a3.keepT kd nB) a2 HBB.out hB' HLW.out HCL.out (fun i h=>(a4 i h).imp (fun c=>c.keep kd (no c)) id) HL.out.keep (a5.trans' kd (fun _ _ h=>h) (fun i hi e=>by injection e with e;omega)) (fun i h=>h.elim .inl fun h=>.inr (by have:=HLK.out;omega))
  replace HL:=HL1;have HD8:=O (show b8≠D/\b9≠D from by have:=HG.out;omega)
  have HBU:Hid (∀u,r=some u->u.ptr.addrs.length≤65536):=O fun u hu=>by
   subst hu;have h:=(Eh (t:=t) (n:=n) (k:=3) (y:=0) HBD.out HT.out HBL.out HNE.out (by omega) e0).2.1;have:=(iD (Tr.Ok.may3 h)).1;omega
  clear hpv hki hBI hB' hkp h10 h12 hI0 HBK HOU0 HL1 hrT e0 huce hvo;show KQ _ _;refine hKQ _ _ ?_;clear hKQ;rcases r with _|u
  ·replace HL:Hid (Loc B B' w W [(b12,uc.toArray,26),(b10,#[.int .i64 15],46),(b9,#[.int .i64 0],46),(b8,aF.toArray,26),(b5,pc.toArray,26),(b4,#[.pointer (some ⟨c,0,none⟩)],36)]):=HL
   have c1:W.cell? ⟨b10,0,none⟩=some (.int .i64 15):=(aD (i:=0) (HL.out.b 1) rfl)
   go_wp2_with fail;clear c1;go_wp2_with fail;obtain⟨S,hS0⟩:∃S:World->Prop,S=fun w'=>aA (fun k=>k=b8\/k=b9) W.drew w':=⟨_,rfl⟩
   have HSE:=O (show ∀w',S w'->aA (fun k=>k=b8\/k=b9) W.drew w' from fun w' h=>by rw[hS0] at h;exact h);have HSI:=O (show ∀w',aA (fun k=>k=b8\/k=b9) W.drew w'->S w' from fun w' h=>by rw[hS0];exact h);have hS:S W.drew:=by rw[hS0];exact aA.refl _ _
   have hkd:=(aA.refl aB W).drew;clear hS0;refine eI (S:=S) (by kernel_rfl) ?_;change wpAnyH _ _ _ _ _ _ _ _ W.drew;generalize W.drew=wk at HSE HSI hS hkd ⊢;replace HL:=O (HL.out.keeps hkd);replace HKI:=O (HKI.out.keep0 hkd);replace HBI:=O (fun i h=>(HBI.out i h).imp (fun c=>c.keep hkd id) id);replace HKP:=O (HKP.out.trans (aA.any hkd));replace HDD:=O (hkd.blk HDD.out id);clear hkd;have HLs:=HL;have HKIs:=HKI;have HBIs:=HBI;have HKPs:=HKP;have HDDs:=HDD;refine tnd 0 (.agg aF.toArray) rfl (pM (by rfl) 26 rfl fQ) hS ?_;refine tnd 1 (.int .i64 15) rfl (.inl ⟨by rfl,fun w' hw'=>by have c:World.cell? w' ⟨b10,0,none⟩=some (.int .i64 15):=aD (i:=0) ((HSE.out w' hw').blk (HLs.out.b 1) (fun e=>by rcases e with e|e<;>first|exact bI (i:=3) HLs.out.nd rfl 1 (by decide) rfl e|exact bI (i:=2) HLs.out.nd rfl 1 (by decide) rfl e)) rfl;go_simp⟩) hS ?_;refine wA9 2 ?_;refine sta 26 (.tmp 8) (.tmp 105) b8 0 aF (HL.out.b 3) (by first|decide|(rw[aE];exact Nat.le_refl _)|simp[aE,aE]) (szP9 aE) yN ?_;intro wl hk hb;rw[aI _ _ (by first|rfl|simp[aE,aE])] at hb;have hS1:=HSI.out _ ((HSE.out _ hS).trans' hk (fun _ _ h=>h) (fun i hi e=>(.inl e)));clear hS;replace HL:=O (HL.out.set 3 hk hb);replace HKI:=O (KI.keepT HKI.out hk (fun i e hq=>by rw[e] at hq;first|exact (HL.out.aq 0) hq|exact (HL.out.aq 1) hq|exact (HL.out.aq 2) hq|exact (HL.out.aq 3) hq|exact (HL.out.aq 4) hq|exact (HL.out.aq 5) hq|exact (HL.out.aq 6) hq));replace HBI:=O (fun i h=>(HBI.out i h).imp (fun cc=>cc.keep hk (fun e=>by rw[e] at h;first|exact (HL.out.aq 0) h|exact (HL.out.aq 1) h|exact (HL.out.aq 2) h|exact (HL.out.aq 3) h|exact (HL.out.aq 4) h|exact (HL.out.aq 5) h|exact (HL.out.aq 6) h)) id);replace HKP:=O (HKP.out.trans' hk (fun _ _ h=>h) (fun i hi e=>by first|exact .inr (.inl e)|exact .inr (.inr (.inl e))));replace HDD:=O (hk.blk HDD.out (fun e=>by have:=HD8.out;omega));clear hk hb;refine wpList_nil ?_;refine⟨hS1,?_⟩;refine wA9 3 ?_;refine sta 46 (.tmp 9) (.tmp 106) b9 0 ([.int .i64 15]) (HL.out.b 2) (by simp) (by kernel_rfl) (one9) ?_;intro wm hk hb;replace hb:wm.heap[b9]?=some (.cells #[.int .i64 15] 46 (0,0)):=hb;have hS2:=HSI.out _ ((HSE.out _ hS1).trans' hk (fun _ _ h=>h) (fun i hi e=>(.inr (e))));clear hS1;replace HL:=O (HL.out.set 2 hk hb);replace HKI:=O (KI.keepT HKI.out hk (fun i e hq=>by rw[e] at hq;first|exact (HL.out.aq 0) hq|exact (HL.out.aq 1) hq|exact (HL.out.aq 2) hq|exact (HL.out.aq 3) hq|exact (HL.out.aq 4) hq|exact (HL.out.aq 5) hq|exact (HL.out.aq 6) hq));replace HBI:=O (fun i h=>(HBI.out i h).imp (fun cc=>cc.keep hk (fun e=>by rw[e] at h;first|exact (HL.out.aq 0) h|exact (HL.out.aq 1) h|exact (HL.out.aq 2) h|exact (HL.out.aq 3) h|exact (HL.out.aq 4) h|exact (HL.out.aq 5) h|exact (HL.out.aq 6) h)) id);replace HKP:=O (HKP.out.trans' hk (fun _ _ h=>h) (fun i hi e=>by first|exact .inr (.inl e)|exact .inr (.inr (.inl e))));replace HDD:=O (hk.blk HDD.out (fun e=>by have:=HD8.out;omega));clear hk hb;refine wpList_nil ?_;refine⟨hS2,?_⟩;refine wpAnyH_done (by kernel_rfl) ?_ _;clear hS2 HSE HSI HLs HKIs HBIs HKPs HDDs;refine noP ?_;go_wp2_with fail;have HB8:=O (HL.out.b 3);have HPF:=O (HFX.out _ (.slice none 0 0) (aJ.hole _ _) (.inl rfl) HKI.out HBI.out HKP.out HDD.out);have kd:=aA.of_grown (grownBy_putObj' wm D (.deferred none));have HP8:=O (kd.blk (HL.out.b 3) (mH HDD.out rfl ⟨_,_,HL.out.b 3⟩));have c9:(wm.putObj D (.deferred none)).cell? ⟨b9,0,none⟩=some (.int .i64 15):=aD (i:=0) (kd.blk (HL.out.b 2) (mH HDD.out rfl ⟨_,_,HL.out.b 2⟩)) rfl;have hdf:=HDD.out;clear kd HL HKI HBI HKP;show bodyPostM _ _ _ _ _ .ret _ _;refine⟨by simp,.inl ⟨_,_,rfl,run_takeDeferred hdf,?_⟩⟩;exact⟨_,eQ rfl _ _ b8 _ _ _ _ rfl HP8.out aG rfl (by rw[List.size_toArray,aE];exact bL) ⟨b9,0,none⟩ (.int .i64 15) rfl (by go_simp),HPF.out⟩
  ·replace HL:Hid (Loc B B' w W [(b12,uc.toArray,26),(b10,#[.int .i64 0],46),(b9,#[.int .i64 0],46),(b8,aF.toArray,26),(b5,pc.toArray,26),(b4,#[.pointer (some ⟨c,0,none⟩)],36)]):=HL
   have c1:W.cell? ⟨b10,0,none⟩=some (.int .i64 0):=(aD (i:=0) (HL.out.b 1) rfl)
   go_wp2_with ((with_reducible show WL _ _);refine wpList_load_mid rfl 26 (.tmp 12) rfl b12 0 rfl uc _ (aC (HL.out.b 0)) aG rfl (szP9 huc) ?_)
   clear c1;have HLS:=O HL.out.keep.size;have HLB:=O (And.intro (HL.out.lt 2).2 (HL.out.lt 3).2);refine((by rw[←HUC.out];exact wS (fun i e=>HKI.out.lt e) v u.ptr HPV.out.pt (HBU.out u rfl):Calls _ _ _ W (qO W B' u.ptr))).mono ?_;rintro e wk ⟨ov,rfl,hov,hovn,hk⟩;have HOV:=O hov;have HOVN:=O hovn;have HON2:=O (hovn.from HLS.out);obtain⟨oc,HOCE,hoc,HOOC⟩:=nmPt hov.pt;rw[HOCE.out];clear hov hovn;replace HL:=O (HL.out.keeps hk);replace HKI:=O (HKI.out.keep0 hk);replace HPV:=O (aJ.keep0 HPV.out hk);replace HBI:=O (fun i h=>(HBI.out i h).imp (fun c=>c.keep hk id) id);replace HKP:=O (HKP.out.trans (aA.any hk));replace HDD:=O (hk.blk HDD.out id);clear hk;clear HPV
   go_wp2_with ((with_reducible show WL _ _);refine sta 26 (.tmp 8) (.tmp 108) b8 0 oc (HL.out.b 3) (by first|decide|(rw[hoc];exact Nat.le_refl _)|simp[hoc,aE]) (szP9 hoc) HOOC.out ?_)
   intro wl hk hb;rw[aI _ _ (by first|rfl|simp[hoc,aE])] at hb;replace HL:=O (HL.out.set 3 hk hb);replace HKI:=O (KI.keepT HKI.out hk (fun i e hq=>by rw[e] at hq;first|exact (HL.out.aq 0) hq|exact (HL.out.aq 1) hq|exact (HL.out.aq 2) hq|exact (HL.out.aq 3) hq|exact (HL.out.aq 4) hq|exact (HL.out.aq 5) hq|exact (HL.out.aq 6) hq));replace HBI:=O (fun i h=>(HBI.out i h).imp (fun cc=>cc.keep hk (fun e=>by rw[e] at h;first|exact (HL.out.aq 0) h|exact (HL.out.aq 1) h|exact (HL.out.aq 2) h|exact (HL.out.aq 3) h|exact (HL.out.aq 4) h|exact (HL.out.aq 5) h|exact (HL.out.aq 6) h)) id);replace HKP:=O (HKP.out.trans' hk (fun _ _ h=>h) (fun i hi e=>by first|exact .inr (.inl e)|exact .inr (.inr (.inl e))));replace HDD:=O (hk.blk HDD.out (fun e=>by have:=HD8.out;omega));replace HOV:=O (aJ.keepT HOV.out hk (fun i hi e=>by have:=HOVN.out i hi;have:=HLB.out;omega));clear hk hb
   go_wp2_with ((with_reducible show WL _ _);refine sta 46 (.tmp 9) (.const (.int .i64 0)) b9 0 ([.int .i64 0]) (HL.out.b 2) (by simp) (by kernel_rfl) (one9) ?_)
   intro wm hk hb;replace hb:wm.heap[b9]?=some (.cells #[.int .i64 0] 46 (0,0)):=hb;replace HL:=O (HL.out.set 2 hk hb);replace HKI:=O (KI.keepT HKI.out hk (fun i e hq=>by rw[e] at hq;first|exact (HL.out.aq 0) hq|exact (HL.out.aq 1) hq|exact (HL.out.aq 2) hq|exact (HL.out.aq 3) hq|exact (HL.out.aq 4) hq|exact (HL.out.aq 5) hq|exact (HL.out.aq 6) hq));replace HBI:=O (fun i h=>(HBI.out i h).imp (fun cc=>cc.keep hk (fun e=>by rw[e] at h;first|exact (HL.out.aq 0) h|exact (HL.out.aq 1) h|exact (HL.out.aq 2) h|exact (HL.out.aq 3) h|exact (HL.out.aq 4) h|exact (HL.out.aq 5) h|exact (HL.out.aq 6) h)) id);replace HKP:=O (HKP.out.trans' hk (fun _ _ h=>h) (fun i hi e=>by first|exact .inr (.inl e)|exact .inr (.inr (.inl e))));replace HDD:=O (hk.blk HDD.out (fun e=>by have:=HD8.out;omega));replace HOV:=O (aJ.keepT HOV.out hk (fun i hi e=>by have:=HOVN.out i hi;have:=HLB.out;omega));clear hk hb;go_wp2_with fail;have HB8:=O (HL.out.b 3);have HPF:=O (HFX.out _ ov HOV.out (.inr HON2.out) HKI.out HBI.out HKP.out HDD.out);have kd:=aA.of_grown (grownBy_putObj' wm D (.deferred none));have HP8:=O (kd.blk (HL.out.b 3) (mH HDD.out rfl ⟨_,_,HL.out.b 3⟩));have c9:(wm.putObj D (.deferred none)).cell? ⟨b9,0,none⟩=some (.int .i64 0):=aD (i:=0) (kd.blk (HL.out.b 2) (mH HDD.out rfl ⟨_,_,HL.out.b 2⟩)) rfl;have hdf:=HDD.out;rw[show cI (some u)=u.ptr from rfl,HOCE.out] at HPF;clear kd HL HKI HBI HKP;show bodyPostM _ _ _ _ _ .ret _ _;refine⟨by simp,.inl ⟨_,_,rfl,run_takeDeferred hdf,?_⟩⟩;exact⟨_,eQ rfl _ _ b8 _ _ _ _ rfl HP8.out aG rfl (by rw[List.size_toArray,hoc];exact bL) ⟨b9,0,none⟩ (.int .i64 0) rfl (by go_simp),HPF.out⟩
 case stop =>
  rintro D W hDs ⟨T,B',hset,h8,h9,hki,hB',hBI,hkp⟩ hDd;have kd:=aA.of_grown (grownBy_putObj' W D (.deferred none));have no:=fun {i:Nat}(h:IsC W i)=>mH hDd rfl h
  have nB:∀i,some D=some i->¬B' i:=fun i e hb=>(hBI i hb).elim (fun h=>no h e) fun h=>by have:=h.1;injection e with e;omega
  have HP:Hid (aZ w c B (.slice none 0 0) none T (.returned (.tuple #[.agg aF.toArray,.int .i64 15])) (W.putObj D (.deferred none))):=O (aZ.upon (W:=W) rfl (aJ.hole _ _) (hki.keepT kd nB) (.inl rfl) HBB.out hB' HLW.out HCL.out (fun i h=>(hBI i h).imp (fun c=>c.keep kd (no c)) id) HL.out.keep (hkp.trans' kd (fun _ _ h=>h) (fun i hi e=>by injection e with e;omega)) (fun i h=>h.elim .inl fun h=>.inr (by have:=HLK.out;omega)));have HP8:=O (kd.blk h8 (no ⟨_,_,h8⟩));have c9:(W.putObj D (.deferred none)).cell? ⟨b9,0,none⟩=some (.int .i64 15):=aD (i:=0) (kd.blk h9 (no ⟨_,_,h9⟩)) rfl;rw[hset];clear kd no nB hki hB' hBI hkp h8 h9 hI0 HBK;show bodyPostM _ _ _ _ _ .ret _ _;refine⟨by simp,.inl ⟨_,_,rfl,run_takeDeferred hDd,?_⟩⟩;exact⟨_,eQ rfl _ _ b8 _ _ _ _ rfl HP8.out aG rfl (by rw[List.size_toArray,aE];exact bL) ⟨b9,0,none⟩ (.int .i64 15) rfl (by go_simp),HP.out⟩
theorem fE{w:World}{c:Nat}{S:Kor}{B:Nat->Prop}(hK:KI w c S B)(pv:Value)(t:Tr)(ht:Tr.Ok S 3 t)(hp:aJ w B pv t.ptr)(n:Nat)(hn:n<64)(vv:Value)(bs:List UInt8)(hbl:bs.length=256)(hr:Rd w 1 vv 256 (bs.map vb))(hvb:∀i,vv.ownBlock=some i->¬B i/\i<w.heap.size):Calls Tryz.prog 14 #[.pointer (some ⟨c,0,none⟩),.agg (aH pv t.ptr).toArray,.int .i64 (n:Int),vv] w (aZ w c B (.slice none 0 0) (lY S t n bs).1 (lY S t n bs).2):=by
 unfold lY
 by_cases h:t.blk 3 n=bs
 ·rw[if_pos h];exact H9 hK pv t ht hp n hn vv bs hbl hr hvb h
 ·rw[if_neg h];exact Ia hK pv t ht hp n hn vv bs hbl hr hvb h
end
end Go.Proofs.YtjkbekifgobeaaaGreat
