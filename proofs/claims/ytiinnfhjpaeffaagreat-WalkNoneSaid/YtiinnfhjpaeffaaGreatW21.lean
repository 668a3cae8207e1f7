import Derived.Test.YtiinnfhjpaeffaaGreatW1
import Derived.Test.YtiinnfhjpaeffaaGreatW20
import Derived.Stop.Asserts
import Derived.LaidEql
import Derived.Lib.IfaceEq
namespace Go.Proofs.YtiinnfhjpaeffaaGreat
set_option maxHeartbeats 64000000
set_option maxRecDepth 100000
set_option linter.unusedVariables false
section
open Go.RowKit Go.Maps Go.ChangeMaps
theorem Io(v:Value)(w:World):(Extern.ReflectliteType.typeOf #[.iface 49 v]).run Tryz.prog w=.ok (.iface 345 (.agg #[.pointer (some ⟨0,49,none⟩)])) w:=by kernel_rfl
theorem BH(w : World) : ((Extern.ReflectliteType.method fun t => do Extern.Rtype.noPackHeld "Comparable" t; (fun a => Value.bool a.comparable) <$> typeInfo t) #[.agg #[.pointer (some ⟨0, 49, none⟩)]]).run Tryz.prog w = .ok (.bool true) w := by kernel_rfl
theorem tE(v : Value)(w : World) : (Go.method 505 345 v "Comparable").run Tryz.prog w = .ok (298, v) w := by kernel_rfl
theorem yQ(v : Value)(w : World) : (Go.method 505 265 v "Unwrap").run Tryz.prog w = .ok (292, v) w := by kernel_rfl
theorem NZ(v:Value)(xT:TypeId)(w:World):(Instr.typeAssert (.iface 265 v) xT 347 true).run Tryz.prog w=.ok (.tuple #[.nilIface,.bool false]) w:=run_typeAssert_lacksB Tryz.underlying347 (by kernel_rfl) (by kernel_rfl) v xT w
theorem FW(v:Value)(xT:TypeId)(w:World):(Instr.typeAssert (.iface 265 v) xT 350 true).run Tryz.prog w=.ok (.tuple #[.iface 265 v,.bool true]) w:=run_typeAssert_hasB Tryz.underlying350 (by kernel_rfl) v xT w
theorem N3(v:Value)(xT:TypeId)(w:World):(Instr.typeAssert (.iface 49 v) xT 347 true).run Tryz.prog w=.ok (.tuple #[.nilIface,.bool false]) w:=run_typeAssert_lacksB Tryz.underlying347 (by kernel_rfl) (by kernel_rfl) v xT w
theorem Ip(v:Value)(xT:TypeId)(w:World):(Instr.typeAssert (.iface 49 v) xT 350 true).run Tryz.prog w=.ok (.tuple #[.nilIface,.bool false]) w:=run_typeAssert_lacksB Tryz.underlying350 (by kernel_rfl) (by kernel_rfl) v xT w
theorem FX(v:Value)(xT:TypeId)(w:World):(Instr.typeAssert (.iface 49 v) xT 352 true).run Tryz.prog w=.ok (.tuple #[.nilIface,.bool false]) w:=run_typeAssert_lacksB Tryz.underlying352 (by kernel_rfl) (by kernel_rfl) v xT w
theorem Eh(w:World)(c d:Int):Calls Tryz.prog 292 #[.agg #[.int .i64 c,.int .i64 d]] w (aK w (.iface 49 (.int .i64 c))):=by
 obtain⟨w1,hw1,hk1,hb1,-⟩:=aT w #[.int .i64 c,.int .i64 d] 265;have c0:w1.cell? ⟨w.heap.size,0,none⟩=some (.int .i64 c):=aC hb1 rfl;have HK:=O hk1;clear hk1 hb1;go_in;go_wp2;go_ret;exact aK.of HK.out
theorem Me(w:World)(c d t:Int):Calls Tryz.prog 229 #[.iface 265 (.agg #[.int .i64 c,.int .i64 d]),.iface 49 (.int .i64 t),.bool true] w (aK w (.bool (decide (c=t)))):=by
 obtain⟨bb,hbb⟩:∃b,decide (c=t)=b:=⟨_,rfl⟩
 have HBB:=O hbb;rw[hbb];clear hbb;have nR:=NZ;have uR:=FW;have mU:=yQ;have hty:=run_eql_iface_types (P:=Tryz.prog) 265 49 (.agg #[.int .i64 c,.int .i64 d]) (.int .i64 t) Tryz.underlying203 (by decide) w;go_in
 go_wp2
 refine wp_loop_rounds 2 ?_;rw[rounds_succ];go_wp2_with fail;refine(Eh w c d).mono ?_;rintro e w1 ⟨rfl,hk⟩;have HK:=O hk;clear hk hty nR uR mU;have nN:=N3;have uN:=Ip;have vN:=FX
 have hty:(binOp .eql 203 (.iface 49 (.int .i64 c)) (.iface 49 (.int .i64 t))).run Tryz.prog w1=.ok (.bool bb) w1:=by
  have:=Go.Lib.run_eql_iface_int (P:=Tryz.prog) (k:=.i64) w1 c t Tryz.underlying203 (by kernel_rfl) Tryz.underlying49;rw[this,←HBB.out]
  congr 2
 clear HBB;cases bb
 all_goals
  go_wp2_with fail;rw[rounds_succ];go_wp2;go_ret;exact aK.of HK.out
theorem Ak(w:World)(c d t:Int):Calls Tryz.prog 189 #[.iface 265 (.agg #[.int .i64 c,.int .i64 d]),.iface 49 (.int .i64 t)] w (aK w (.bool (decide (c=t)))):=by
 have H:=O (Me w c d t);have h8:=@run_callFunc_extern Tryz.prog 228 _ Extern.ReflectliteType.typeOf Tryz.func228 (by kernel_rfl) (by kernel_rfl) (by kernel_rfl) (by kernel_rfl);have h32 := @run_callFunc_extern Tryz.prog 298 _ (Extern.ReflectliteType.method fun t => do Extern.Rtype.noPackHeld "Comparable" t; pure (.bool (← typeInfo t).comparable)) Tryz.func298 (by kernel_rfl) (by kernel_rfl) (by kernel_rfl) (by kernel_rfl);have tT:=Io;have cT:=BH;have mR:=tE;go_in;go_wp2_with fail;refine H.out.mono ?_;rintro e w' ⟨rfl,hk⟩;have HK:=O hk;clear hk;go_wp2;go_ret;exact aK.of HK.out
theorem CS(w:World)(d:Int):Calls Tryz.prog 136 #[.iface 265 (.agg #[.int .i64 5,.int .i64 d])] w (aK w (.int .i64 5)):=by
 have ix0:∀w,(Instr.index 266 (.agg #[.int .i64 1,.int .i64 10,.int .i64 5,.int .i64 2,.int .i64 14,.int .i64 13]) (.int .i64 0)).run Tryz.prog w=.ok (.int .i64 1) w:=fun w=>by kernel_rfl
 have ix1:∀w,(Instr.index 266 (.agg #[.int .i64 1,.int .i64 10,.int .i64 5,.int .i64 2,.int .i64 14,.int .i64 13]) (.int .i64 1)).run Tryz.prog w=.ok (.int .i64 10) w:=fun w=>by kernel_rfl
 have ix2:∀w,(Instr.index 266 (.agg #[.int .i64 1,.int .i64 10,.int .i64 5,.int .i64 2,.int .i64 14,.int .i64 13]) (.int .i64 2)).run Tryz.prog w=.ok (.int .i64 5) w:=fun w=>by kernel_rfl
 go_in;go_wp2_with fail;refine wp_loop_rounds 3 ?_;rw[rounds_succ];go_wp2_with fail;refine(Ak w 5 d 1).mono ?_;rintro e w1 ⟨rfl,hk1⟩;go_wp2_with fail;rw[rounds_succ];go_wp2_with fail;refine(Ak w1 5 d 10).mono ?_;rintro e w2 ⟨rfl,hk2⟩;go_wp2_with fail;rw[rounds_succ];go_wp2_with fail;refine(Ak w2 5 d 5).mono ?_;rintro e w3 ⟨rfl,hk3⟩;have HK:=O ((hk1.trans hk2).trans hk3);clear hk1 hk2 hk3;go_wp2;go_ret;exact aK.of HK.out
variable {w:World}{a dv dc D Z:Nat}{lv:Value}{st:Int}{f:Nat->Nat}{F:Nat->Nat->List UInt8}{W:List Lw}
theorem Mf(h:bP w a dv dc lv st f F W D Z):Calls Tryz.prog 115 #[.pointer (some ⟨a,0,none⟩),.int .i64 (-1),.int .i64 0] w (aK w (.tuple #[.slice none 0 0,.int .i64 5])):=by
 have HSB:mL (-1) 0 D Z=false:=by unfold mL;simp
 replace HSB:=O HSB;have HL:=lN w;have HH:=O h;clear h;go_in
 go_wp2_with ((with_reducible show WL _ _);refine bxL HL 40 (.tmp 0) (#[.pointer (some ⟨a,0,none⟩)]) ?_)
 intro b3 w1 hk HL;replace HH:=O (HH.out.keep hk fun _ h=>h.elim);clear hk
 go_wp2_with ((with_reducible show WL _ _);refine bxL HL 3 (.tmp 1) (#[.int .i64 (-1)]) ?_)
 intro b4 w2 hk HL;replace HH:=O (HH.out.keep hk fun _ h=>h.elim);clear hk;go_wp2_with fail;refine dwA aB (by kernel_rfl) ?_;intro w3 S HSE HSI hS hkd;replace HL:=kL HL hkd;replace HH:=O (HH.out.keep hkd fun _ h=>h.elim);clear hkd;have HLs:=HL;have HHs:=HH;refine tnd 0 (.int .i64 (-1)) rfl (.inl ⟨by rfl,fun w' hw'=>by have c:=aC (i:=0) ((HSE.out w' hw').blk (HLs.out.b 0) id) rfl;go_simp⟩) hS ?_;refine tnd 1 (.pointer (some ⟨a,0,none⟩)) rfl (.inl ⟨by rfl,fun w' hw'=>by have c:=aC (i:=0) ((HSE.out w' hw').blk (HLs.out.b 1) id) rfl;go_simp⟩) hS ?_;refine tnb 2 (.func (.func 131) #[.pointer (some ⟨a,0,none⟩)] #[]) rfl hS ?_;refine tnd 3 (.pointer (some ⟨a,0,none⟩)) rfl (.inl ⟨by rfl,fun w' hw'=>by have c:=aC (i:=0) ((HSE.out w' hw').blk (HLs.out.b 1) id) rfl;go_simp⟩) hS ?_;refine tnb 4 (.func (.func 132) #[.pointer (some ⟨a,0,none⟩)] #[]) rfl hS ?_;refine tnd 5 (.pointer (some ⟨a,0,none⟩)) rfl (.inl ⟨by rfl,fun w' hw'=>by have c:=aC (i:=0) ((HSE.out w' hw').blk (HLs.out.b 1) id) rfl;go_simp⟩) hS ?_;refine tnd 6 (.int .i64 (-1)) rfl (.inl ⟨by rfl,fun w' hw'=>by have c:=aC (i:=0) ((HSE.out w' hw').blk (HLs.out.b 0) id) rfl;go_simp⟩) hS ?_;refine tna 7 (.int .i64 0) rfl hS ?_;refine tnd 9 (.pointer (some ⟨a,0,none⟩)) rfl (.inl ⟨by rfl,fun w' hw'=>by have c:=aC (i:=0) ((HSE.out w' hw').blk (HLs.out.b 1) id) rfl;go_simp⟩) hS ?_;refine tnd 10 (.int .i64 (-1)) rfl (.inl ⟨by rfl,fun w' hw'=>by have c:=aC (i:=0) ((HSE.out w' hw').blk (HLs.out.b 0) id) rfl;go_simp⟩) hS ?_;refine tnb 12 (.func (.func 166) #[] #[.pointer (some ⟨b3,0,none⟩),.pointer (some ⟨b4,0,none⟩)]) rfl hS ?_;refine wA9 8 ?_;go_wp2_with fail;refine(uI w3 a (-1) 0).mono ?_;rintro e w4 hp;obtain⟨p0,p1,p2,rfl,HP0,HP1,HP2,hk⟩:=hp.three;have hS1:=HSI.out _ ((HSE.out _ hS).trans hk);replace HL:=kL HL hk;replace HH:=O (HH.out.keep hk fun _ h=>h.elim);clear hS hk;replace HP0:=O HP0;replace HP1:=O HP1;replace HP2:=O HP2;go_wp2_with fail;refine⟨hS1,?_⟩;refine wA9 11 ?_;go_wp2_with fail;refine(oS w4 a (-1)).mono ?_;rintro e w5 hp;obtain⟨q0,q1,rfl,HQ0,HQ1,hk⟩:=hp.two;have hS2:=HSI.out _ ((HSE.out _ hS1).trans hk);replace HL:=kL HL hk;replace HH:=O (HH.out.keep hk fun _ h=>h.elim);replace HP0:=O (hk.blk HP0.out id);replace HP1:=O (hk.blk HP1.out id);replace HP2:=O (hk.blk HP2.out id);clear hS1 hk;replace HQ0:=O HQ0;replace HQ1:=O HQ1;go_wp2_with fail;refine⟨hS2,?_⟩;refine wA9 13 ?_;obtain⟨w6,hw_w6,hk,hb,-⟩:=aT w5 #[.func (.func 131) #[.pointer (some ⟨a,0,none⟩)] #[],.func (.func 132) #[.pointer (some ⟨a,0,none⟩)] #[],.func (.func 199) #[] #[.pointer (some ⟨p0,0,none⟩),.pointer (some ⟨p1,0,none⟩),.pointer (some ⟨p2,0,none⟩)],.func (.func 188) #[] #[.pointer (some ⟨q0,0,none⟩),.pointer (some ⟨q1,0,none⟩)],.func (.func 166) #[] #[.pointer (some ⟨b3,0,none⟩),.pointer (some ⟨b4,0,none⟩)]] 113;obtain⟨b22,hbs⟩:∃b,w5.heap.size=b:=⟨_,rfl⟩
 rw[hbs] at hb;have hS3:=HSI.out _ ((HSE.out _ hS2).trans hk);clear hS2;replace HL:=lW HL hbs hk hb;have HBSb22:=O hbs;replace HH:=O (HH.out.keep hk fun _ h=>h.elim);replace HP0:=O (hk.blk HP0.out id);replace HP1:=O (hk.blk HP1.out id);replace HP2:=O (hk.blk HP2.out id);replace HQ0:=O (hk.blk HQ0.out id);replace HQ1:=O (hk.blk HQ1.out id);clear hk hb hbs;go_wp2_with fail;clear hw_w6;rw[HBSb22.out];refine⟨hS3,?_⟩;refine wA9 14 ?_;go_wp2_with fail;have HFB:=O (HL.out.b 0)
 have HCK:Hid (∀k,k<5->k≤2->∃G x,((#[.func (.func 131) #[.pointer (some ⟨a,0,none⟩)] #[],.func (.func 132) #[.pointer (some ⟨a,0,none⟩)] #[],.func (.func 199) #[] #[.pointer (some ⟨p0,0,none⟩),.pointer (some ⟨p1,0,none⟩),.pointer (some ⟨p2,0,none⟩)],.func (.func 188) #[] #[.pointer (some ⟨q0,0,none⟩),.pointer (some ⟨q1,0,none⟩)],.func (.func 166) #[] #[.pointer (some ⟨b3,0,none⟩),.pointer (some ⟨b4,0,none⟩)]]:Array Value).getD k .nilFunc=.func (.func G) #[] x\/(#[.func (.func 131) #[.pointer (some ⟨a,0,none⟩)] #[],.func (.func 132) #[.pointer (some ⟨a,0,none⟩)] #[],.func (.func 199) #[] #[.pointer (some ⟨p0,0,none⟩),.pointer (some ⟨p1,0,none⟩),.pointer (some ⟨p2,0,none⟩)],.func (.func 188) #[] #[.pointer (some ⟨q0,0,none⟩),.pointer (some ⟨q1,0,none⟩)],.func (.func 166) #[] #[.pointer (some ⟨b3,0,none⟩),.pointer (some ⟨b4,0,none⟩)]]:Array Value).getD k .nilFunc=.func (.func G) x #[])/\(∀w,Sem.run Tryz.prog (callFunc G x) w=.ok (.enter G x) w)/\∀wr,aA aB w6 wr->Calls Tryz.prog G x wr fun e w'=>e=.returned (.int .i64 (if k=2 then 5 else 0))/\aA aB w6 w'):=O (by
  intro k hk hm
  match k,hk,hm with
  | 0,_,_=>exact ckc (.inr rfl) (fun w=>by rfl) fun wr k=>B4 (HH.out.keep k fun _ h=>h.elim)
  | 1,_,_=>exact ckc (.inr rfl) (fun w=>by rfl) fun wr k=>B5 (HH.out.keep k fun _ h=>h.elim)
  | 2,_,_=>exact ckc (.inl rfl) (fun w=>by rfl) fun wr k=>rki (by rw[HSB.out];rfl) (sK (HH.out.keep k fun _ h=>h.elim) (-1) 0 p0 p1 p2 (k.blk HP0.out id) (k.blk HP1.out id) (k.blk HP2.out id)))
 refine(oR w6 (-1) b22 5 2 #[.func (.func 131) #[.pointer (some ⟨a,0,none⟩)] #[],.func (.func 132) #[.pointer (some ⟨a,0,none⟩)] #[],.func (.func 199) #[] #[.pointer (some ⟨p0,0,none⟩),.pointer (some ⟨p1,0,none⟩),.pointer (some ⟨p2,0,none⟩)],.func (.func 188) #[] #[.pointer (some ⟨q0,0,none⟩),.pointer (some ⟨q1,0,none⟩)],.func (.func 166) #[] #[.pointer (some ⟨b3,0,none⟩),.pointer (some ⟨b4,0,none⟩)]] (fun k=>if k=2 then 5 else 0) (fun _ wr=>aA aB w6 wr) (by decide) (by decide) (fun k wr hk=>hk.blk HFB.out id) (by intro k hk;match k,hk with
  | 0,_=>rfl
  | 1,_=>rfl
  | 2,_=>rfl
  | 3,_=>rfl
  | 4,_=>rfl) (aA.refl _ _) (by intro k hk;match k,hk with
  | 0,_=>rfl
  | 1,_=>rfl) (by decide) HCK.out).mono ?_
 rintro e w7 ⟨h1,h2,hk⟩;clear HCK HFB;obtain rfl:=h2 (by decide);clear h1 h2;have hS4:=HSI.out _ ((HSE.out _ hS3).trans hk);replace HL:=kL HL hk;replace HH:=O (HH.out.keep hk fun _ h=>h.elim);replace HP0:=O (hk.blk HP0.out id);replace HP1:=O (hk.blk HP1.out id);replace HP2:=O (hk.blk HP2.out id);replace HQ0:=O (hk.blk HQ0.out id);replace HQ1:=O (hk.blk HQ1.out id);clear hS3 hk;go_wp2_with fail;refine⟨hS4,?_⟩;refine tna 15 (.iface 265 (.agg #[.int .i64 5,.int .i64 (-1)])) rfl hS4 ?_;refine wpAnyH_done (by kernel_rfl) ?_ _;clear hS4 HSE HSI HLs HHs;go_wp2_with fail;refine(CS w7 (-1)).mono ?_;rintro e w8 ⟨rfl,hk⟩;replace HL:=kL HL hk;replace HH:=O (HH.out.keep hk fun _ h=>h.elim);replace HP0:=O (hk.blk HP0.out id);replace HP1:=O (hk.blk HP1.out id);replace HP2:=O (hk.blk HP2.out id);replace HQ0:=O (hk.blk HQ0.out id);replace HQ1:=O (hk.blk HQ1.out id);clear hk;go_wp2
 go_ret2
 exact⟨rfl,HL.out.keep⟩
variable {w:World}{a dv dc D Z:Nat}{lv:Value}{st:Int}{f:Nat->Nat}{F:Nat->Nat->List UInt8}{W:List Lw}
theorem bP.ne(h:bP w a dv dc lv st f F W D Z):a≠dv/\(∀d,d<D->a≠f d)/\∀k,lv.ownBlock=some k->a≠k:=by
 have ht:=h.top;refine⟨?_,?_,?_⟩
 ·rintro rfl
  obtain⟨cur,hc⟩:=aL h.devs (k:=a) rfl;rw[ht] at hc;simp[eW,fF] at hc
 ·rintro d hd rfl
  have hc:=h.firm d hd;rw[ht] at hc;simp[eW,gP] at hc
 ·rintro k hk rfl
  obtain⟨cur,hc⟩:=aL h.loose hk;rw[ht] at hc;simp[eW,WrT] at hc
theorem bP.ne2(h:bP w a dv dc lv st f F W D Z):∀k,lv.ownBlock=some k->k≠dv/\∀d,d<D->k≠f d:=by
 intro k hk;obtain⟨cur,hc⟩:=aL h.loose hk;refine⟨?_,?_⟩
 ·rintro rfl
  obtain⟨cur2,hc2⟩:=aL h.devs (k:=k) rfl;rw[hc] at hc2;simp[WrT,fF] at hc2
 ·rintro d hd rfl
  have hc2:=h.firm d hd;rw[hc] at hc2;simp[WrT,gP] at hc2
theorem bP.top2(h:bP w a dv dc lv st f F W D Z){w':World}{st':Int}(k:aA (fun i=>i=a) w w')(ht:w'.heap[a]?=some (.cells #[.slice (some ⟨dv,0,none⟩) D dc,lv,.int .i64 (-1),.bool false,.int .i64 st'] eW (0,0))):bP w' a dv dc lv st' f F W D Z:=by
 obtain⟨n1,n2,n3⟩:=h.ne;exact⟨ht,k.owns h.devs fun i hi e=>n1 (by cases hi;exact e.symm),fun d hd=>k.blk (h.firm d hd) fun e=>n2 d hd e.symm,h.inj,k.owns h.loose fun i hi e=>n3 i hi e.symm,h.wok,h.fok,h.bd⟩
theorem Np(l:List Value)(n:Nat)(h:l.length=n):l=(List.range n).map fun i=>l.getD i undef:=by
 subst h;apply List.ext_getElem?;intro i;rw[List.getElem?_map]
 by_cases hi:i<l.length
 ·rw[List.getElem?_range hi,List.getElem?_eq_getElem hi]
  simp[List.getD,List.getElem?_eq_getElem hi]
 ·rw[List.getElem?_eq_none (by omega),List.getElem?_eq_none (by simp;omega)];rfl
theorem Ki(g:Nat->Value)(x y:Int):Tryz.prog.built 212 [(0,.int .i64 x),(1,.int .i64 y),(2,.agg ((List.range 256).map g).toArray)]=some (.int .i64 x::.int .i64 y::(List.range 256).map g).toArray:=by kernel_rfl
theorem Mg(bs:List Value)(hb:bs.length=256)(x y:Int)(w:World):(Instr.build 212 #[(0,.int .i64 x),(1,.int .i64 y),(2,.agg bs.toArray)]).run Tryz.prog w=.ok (.agg (.int .i64 x::.int .i64 y::bs).toArray) w:=by
 refine run_build w 212 _ _ ?_;rw[Np bs 256 hb];exact Ki _ x y
theorem Iq(g o c:Nat)(w:World):(Instr.arrayAt 210 (.slice (some ⟨g,o,none⟩) 256 c)).run Tryz.prog w=.ok (.pointer (some ⟨g,o,none⟩)) w:=by kernel_rfl
theorem nY:(Tryz.prog.info? 212).map (fun i=>(i.zero,i.size,i.bytes))=some (some (.agg fU.toArray),258,272):=by kernel_rfl
def CT(w:World)(a dv dc D:Nat)(lv:Value)(e:Ending)(w':World):Prop:=e=.returned (.int .i64 0)/\aA (fun k=>k=a) w w'/\∃st',w'.heap[a]?=some (.cells #[.slice (some ⟨dv,0,none⟩) D dc,lv,.int .i64 (-1),.bool false,.int .i64 st'] eW (0,0))
theorem CU(ht:w.heap[a]?=some (.cells #[.slice (some ⟨dv,0,none⟩) D dc,lv,.int .i64 (-1),.bool false,.int .i64 st] eW (0,0))):Calls Tryz.prog 135 #[.pointer (some ⟨a,0,none⟩)] w (CT w a dv dc D lv):=by
 have c2:=aC (i:=2) ht rfl;have c4:=aC (i:=4) ht rfl;have HT:=O ht;obtain⟨s2,hs2⟩:∃s,IntKind.i64.wrap (st+1)=s:=⟨_,rfl⟩
 clear ht;go_in
 go_wp2_with ((with_reducible show WL _ _);refine sta 3 (.tmp 29) (.tmp 27) a 4 [.int .i64 s2] HT.out (by simp) (by kernel_rfl) (one9) ?_ (hy:=by rw[←hs2];rfl))
 intro w1 hk hb;have HP:Hid (CT w a dv dc D lv (.returned (.int .i64 0)) w1):=O ⟨rfl,hk,s2,hb⟩;clear hk hb;go_wp2;go_ret;exact HP.out
theorem aA.same{w w':World}{b:Nat}(k:aA (fun i=>i=b) w w')(h:w'.heap[b]?=w.heap[b]?):aA aB w w':=
 ⟨k.os,k.tape,k.output,k.size,fun i hi _=>by
  by_cases e:i=b
  ·rw[e];exact h
  ·exact k.block i hi e⟩
theorem Kj(cs:Array Value)(o:Nat)(v:Value)(h:cs[o]?=some v):spl cs o [v]=cs:=by
 show cs.setIfInBounds o v=cs;apply Array.ext_getElem?;intro j;rw[Array.getElem?_setIfInBounds];split
 ·rename_i e
  subst e;obtain⟨h1,h2⟩:=Array.getElem?_eq_some_iff.1 h;rw[if_pos h1,h]
 ·rfl
theorem Kk(w:World)(m:Int)(hm:m=1\/m=2):Calls Tryz.prog 201 #[.int .u8 0,.int .u8 m] w (aK w (.bool false)):=by
 rcases hm with rfl|rfl
 all_goals
  go_in;go_wp2;go_ret;exact aK.of (aA.refl _ _)
theorem CV(w:World)(b o:Nat)(m:Int)(hm:m=1\/m=2)(fs:Array Value)(hb:w.heap[b]?=some (.cells fs fF (0,0)))(hc:fs[o]?=some (.int .u8 0)):Calls Tryz.prog 149 #[.pointer (some ⟨b,o,none⟩),.int .u8 m] w (aK w (.bool false)):=by
 have c0:=aC hb hc;have HB:=O hb;have HC:=O hc;have hlt:o<fs.size:=(Array.getElem?_eq_some_iff.1 hc).1;have HH:=O (Kk w m hm);have hx:bits .andNot .u8 0 m=0:=by rcases hm with rfl|rfl<;>decide +kernel
 clear hb hc hm;go_in;go_wp2_with fail;refine HH.out.mono ?_;rintro e w1 ⟨rfl,hk⟩;have c1:=hk.cell c0 id;have HB1:=O (hk.blk HB.out id);have HK:=O hk;clear hk c0 HH
 go_wp2_with ((with_reducible show WL _ _);refine sta 145 (.tmp 16) (.tmp 15) b o [.int .u8 0] HB1.out hlt (by kernel_rfl) (one9) ?_ (hy:=by first|rfl|(show Value.cells (.int .u8 (bits .andNot .u8 0 m))=_;rw[hx];rfl)))
 intro w2 hk hb;rw[Kj _ _ _ HC.out] at hb;have HK2:=O (HK.out.trans (hk.same (hb.trans HB1.out.symm)));clear hk hb c1;go_wp2;go_ret;exact aK.of HK2.out
theorem bP.lt(h:bP w a dv dc lv st f F W D Z){k:Nat}(hk:dQ a dv lv f D k):k<w.heap.size:=by
 rcases hk with rfl|rfl|hk|⟨d,hd,rfl⟩
 ·exact lt_of_block h.top
 ·obtain⟨cur,hc⟩:=aL h.devs (k:=k) rfl
  exact lt_of_block hc
 ·obtain⟨cur,hc⟩:=aL h.loose hk
  exact lt_of_block hc
 ·exact lt_of_block (h.firm d hd)
theorem bP.next(h:bP w a dv dc lv st f F W D Z){d:Nat}(hd:d<D):∃cur,w.heap[dv]?=some (.cells cur fF (0,0))/\cur[d*5+2]?=some (.int .u8 0):=by
 rcases h.devs.2 with⟨e,-⟩|⟨g,cap,cur,e,-,hb,h1,h2,h3,h4⟩
 ·cases e
 ·cases e
  refine⟨cur,hb,?_⟩;have:=fT (c:=yO f Z) (n:=5) (fun x _=>rfl) (iG hd) (j:=2) (v:=.int .u8 0) rfl;have h5:(gO f Z D)[d*5+2]?=some (.int .u8 0):=this;rw[←h4,List.getElem?_take] at h5;split at h5
  ·rwa [Array.getElem?_toList] at h5
  ·cases h5
def WI(W:World)(a dv dc D:Nat)(lv:Value)(k:Nat)(wr:World):Prop:=(k≤5/\aA aB W wr)\/(k=6/\aA (fun i=>i=a) W wr/\∃st',wr.heap[a]?=some (.cells #[.slice (some ⟨dv,0,none⟩) D dc,lv,.int .i64 (-1),.bool false,.int .i64 st'] eW (0,0)))
theorem ckw{W:World}{G k:Nat}(hk:k≤4){x:Array Value}{v:Value}(hv:v=.func (.func G) #[] x\/v=.func (.func G) x #[])(hc:∀w,Sem.run Tryz.prog (callFunc G x) w=.ok (.enter G x) w)(hC:∀wr,aA aB W wr->Calls Tryz.prog G x wr (aK wr (.int .i64 0))) :
 ∃G x,(v=.func (.func G) #[] x\/v=.func (.func G) x #[])/\(∀w,Sem.run Tryz.prog (callFunc G x) w=.ok (.enter G x) w)/\∀wr,WI W a dv dc D lv k wr->Calls Tryz.prog G x wr fun e w'=>e=.returned (.int .i64 0)/\WI W a dv dc D lv (k+1) w':=
 ⟨G,x,hv,hc,fun wr hw=>by
  rcases hw with⟨-,k1⟩|⟨e,-⟩
  ·exact(hC wr k1).mono fun e w' h=>⟨h.1,.inl ⟨by omega,k1.trans h.2⟩⟩
  ·omega⟩
def jL(w:World)(a:Nat)(B:Nat->Prop)(D Z:Nat)(M:Nat->Nat->List UInt8)(nw d s:Nat)(b:List UInt8)(e:Ending)(w':World):Prop:=
 e=.returned (.int .i64 0)/\∃B',bM w' a B' D Z (fP M d s b) (nw+1)/\(∀k,B' k->B k\/w.heap.size≤k)/\aA B w w'
theorem aA.rangeAt2{S:Nat->Prop}{w w':World}(h:aA S w w'){b o:Nat}{cs:List Value}(hr:w.rangeAt b o cs)(hS:¬S b):w'.rangeAt b o cs:=fun j v hv=>h.cell (hr j v hv) hS
theorem Kl{D Z:Nat}{M F:Nat->Nat->List UInt8}{W:List Lw}(hM:∀d s,d<D->s<Z->M d s=dV W d s (F d s))(d s:Nat)(b:List UInt8):∀d' s',d'<D->s'<Z->fP M d s b d' s'=dV (W++[⟨d,s,b⟩]) d' s' (F d' s'):=by
 intro d' s' h1 h2;rw[oQ];unfold fP
 by_cases e:d'=d/\s'=s
 ·rw[if_pos e,if_pos ⟨e.1.symm,e.2.symm⟩]
 ·rw[if_neg e,if_neg (fun h=>e ⟨h.1.symm,h.2.symm⟩),hM d' s' h1 h2]
theorem yR{w0 we w8 w9:World}{M:Nat->Nat->List UInt8}{nw n d s g' cap' cap2:Nat}{p2:Option Addr}{b:List UInt8}{cs bs:List Value}(h:bP w a dv dc lv st f F W D Z)(k1:aA aB w we)(k2:aA (fun k=>(Value.slice p2 n cap2).ownBlock=some k) we w8)(hlv:lv=.slice p2 n cap2)(hn:W.length=n)
 (ho:w8.ownsRow 0 WrT 258 (.slice (some ⟨g',0,none⟩) (n+1) cap') (n+1) (cZ W++cs)) (hb5:(Value.slice (some ⟨g',0,none⟩) (n+1) cap').ownBlock=(Value.slice p2 n cap2).ownBlock\/(Value.slice (some ⟨g',0,none⟩) (n+1) cap').ownBlock=some we.heap.size)
 (k3:aA (fun k=>k=a) w8 w9) (hb9:w9.heap[a]?=some (.cells #[.slice (some ⟨dv,0,none⟩) D dc,(.slice (some ⟨g',0,none⟩) (n+1) cap'),.int .i64 (-1),.bool false,.int .i64 st] eW (0,0))) (hd:d<D) (hs:s<Z) (hbl:b.length=256) (hcs:(.int .i64 (d:Int)::.int .i64 (s:Int)::bs:List Value)=cs) (hbs:b.map vb=bs)
 (hM:∀d s,d<D->s<Z->M d s=dV W d s (F d s)) (hW:W.length=nw) (k0:aA (dQ a dv lv f D) w0 w):jL w0 a (dQ a dv lv f D) D Z M nw d s b (.returned (.int .i64 0)) w9:=by
 have hg:∀k,(dQ a dv lv f D) k->k≠a->¬(Value.slice p2 n cap2).ownBlock=some k->w9.heap[k]?=w.heap[k]?:=fun k hk h1 h2=>by
  have hl:=h.lt hk;have hl2:=Nat.lt_of_lt_of_le hl k1.size;rw[k3.block k (Nat.lt_of_lt_of_le hl2 k2.size) h1,k2.block k hl2 h2,k1.block k hl id]
 have hgl:(Value.slice p2 n cap2).ownBlock=some g'\/w.heap.size≤g':=by
  rcases hb5 with e|e
  ·exact .inl e.symm
  ·right;cases e;exact k1.size
 have hga:a≠g':=by
  rcases hgl with e|e
  ·exact h.ne.2.2 g' (by rw[hlv];exact e)
  ·have:=h.lt (.inl rfl:(dQ a dv lv f D) a);omega
 refine⟨rfl,dQ a dv (.slice (some ⟨g',0,none⟩) (n+1) cap') f D,⟨dv,dc,_,st,f,F,W++[⟨d,s,b⟩],⟨hb9,?_,?_,h.inj,?_,?_,h.fok,h.bd⟩,rfl,by rw[List.length_append,hW];rfl,Kl hM d s b⟩,?_,?_⟩
 ·rcases h.devs.2 with⟨e,-⟩|⟨gg,cap,cur,e,hx0,hx,hr⟩
  ·cases e
  ·cases e
   refine⟨h.devs.1,.inr ⟨dv,dc,cur,rfl,hx0,?_,hr⟩⟩;rw[hg dv (.inr (.inl rfl)) (fun e=>h.ne.1 e.symm) (fun e=>(h.ne2 dv (by rw[hlv];exact e)).1 rfl)];exact hx
 ·intro d' hd'
  rw[hg (f d') (.inr (.inr (.inr ⟨d',hd',rfl⟩))) (fun e=>h.ne.2.1 d' hd' e.symm) (fun e=>(h.ne2 _ (by rw[hlv];exact e)).2 d' hd' rfl)];exact h.firm d' hd'
 ·have:=k3.owns ho (fun i hi e=>by cases hi;exact hga e.symm)
  rw[List.length_append,hn]
  have e:cZ (W++[⟨d,s,b⟩])=cZ W++cs:=by
   unfold cZ;rw[List.flatMap_append,←hcs,←hbs];simp[dU]
  rw[e];exact this
 ·intro y hy
  rcases List.mem_append.1 hy with hy|hy
  ·exact h.wok y hy
  ·rw[List.mem_singleton.1 hy];exact⟨hbl,hd,hs⟩
 ·rintro k (rfl|rfl|hk|hk)
  ·exact .inl (.inl rfl)
  ·exact .inl (.inr (.inl rfl))
  ·cases hk
   rcases hgl with e|e
   ·exact .inl (.inr (.inr (.inl (by rw[hlv];exact e))))
   ·exact .inr (Nat.le_trans k0.size e)
  ·exact .inl (.inr (.inr (.inr hk)))
 ·have ka:aA (dQ a dv lv f D) w we:=k1.any
  have kb:aA (dQ a dv lv f D) we w8:=k2.mono fun k _ e=>.inr (.inr (.inl (by rw[hlv];exact e)))
  have kc:aA (dQ a dv lv f D) w8 w9:=k3.mono fun k _ e=>.inl e
  exact((k0.trans ka).trans kb).trans kc
theorem oT{B:Nat->Prop}{M:Nat->Nat->List UInt8}{nw:Nat}(h:bM w a B D Z M nw){d s:Nat}(hd:d<D)(hs:s<Z)(b:List UInt8)(hbl:b.length=256)(v:Value)(hr:Rd w 1 v 256 (b.map vb))(hv:∀k,v.ownBlock=some k->¬B k)(hn:nw<100000000000) :
 Calls Tryz.prog 103 #[.pointer (some ⟨a,0,none⟩),.int .i64 (d:Int),.int .i64 (s:Int),v] w (jL w a B D Z M nw d s b):=by
 obtain⟨dv,dc,lv,st,f,F,W,h,rfl,hW,hM⟩:=h
 obtain⟨g,o,c,rfl,hat⟩:∃g o c,v=.slice (some ⟨g,o,none⟩) 256 c/\w.rangeAt g o (b.map vb):=by
  obtain⟨h1,a',c',rfl,-,-,-,h4⟩:=hr;obtain⟨g,o,rfl,hc⟩:=h4 (by rw[h1];decide);exact⟨g,o,c',rfl,hc⟩
 have hg:¬(dQ a dv lv f D) g:=hv g rfl;have HL:=O (Loc.nil (dQ a dv lv f D) (dQ a dv lv f D) w);have HH:=O h;have HR:=O hat;have HSB:mL d s D Z=true:=by unfold mL;simp only[Bool.and_eq_true,decide_eq_true_eq];omega
 replace HSB:=O HSB;obtain⟨bs,hbs⟩:∃l,b.map vb=l:=⟨_,rfl⟩
 have hbn:bs.length=256:=by rw[←hbs,List.length_map,hbl]
 have HO:Hid (∀u∈bs,u.oneCell'=true):=O (by rw[←hbs];exact bN _);rw[hbs] at HR;have HBS:=O hbs;have HM:=O hM;have HW:=O hW;have hd2:(d:Int)<(D:Int):=by omega
 have hd0:(0:Int)≤(d:Int):=by omega
 clear h hr hv hat hbs hM hW;go_in
 go_wp2_with ((with_reducible show WL _ _);refine bx 109 (.tmp 3) (#[.slice (some ⟨g,o,none⟩) 256 c]) ?_)
 intro b7 w1 hbs hk hb;replace HL:=O (HL.out.new (fun _ hk=>HH.out.lt hk) hbs hk hb);replace HH:=O (HH.out.keep hk fun _ h=>h.elim);replace HR:=O (hk.rangeAt HR.out);clear hbs hk hb;go_wp2_with fail;refine(uI w1 a (d:Int) (s:Int)).mono ?_;rintro e w2 hp;obtain⟨p0,p1,p2,rfl,HP0,HP1,HP2,hk⟩:=hp.three;replace HL:=kL HL hk;replace HH:=O (HH.out.keep hk fun _ h=>h.elim);replace HR:=O (hk.rangeAt HR.out);clear hk;replace HP0:=O HP0;replace HP1:=O HP1;replace HP2:=O HP2;go_wp2_with fail;refine(oS w2 a (d:Int)).mono ?_;rintro e w3 hp;obtain⟨q0,q1,rfl,HQ0,HQ1,hk⟩:=hp.two;replace HL:=kL HL hk;replace HH:=O (HH.out.keep hk fun _ h=>h.elim);replace HR:=O (hk.rangeAt HR.out);replace HP0:=O (hk.blk HP0.out id);replace HP1:=O (hk.blk HP1.out id);replace HP2:=O (hk.blk HP2.out id);clear hk;replace HQ0:=O HQ0;replace HQ1:=O HQ1;obtain⟨w4,hw_w4,hk,hb,-⟩:=aT w3 #[.func (.func 131) #[.pointer (some ⟨a,0,none⟩)] #[],.func (.func 132) #[.pointer (some ⟨a,0,none⟩)] #[],.func (.func 199) #[] #[.pointer (some ⟨p0,0,none⟩),.pointer (some ⟨p1,0,none⟩),.pointer (some ⟨p2,0,none⟩)],.func (.func 146) #[] #[.pointer (some ⟨b7,0,none⟩)],.func (.func 188) #[] #[.pointer (some ⟨q0,0,none⟩),.pointer (some ⟨q1,0,none⟩)],.func (.func 135) #[.pointer (some ⟨a,0,none⟩)] #[]] 113;obtain⟨b28,hbs⟩:∃b,w3.heap.size=b:=⟨_,rfl⟩
 rw[hbs] at hb;replace HL:=O (HL.out.new (fun _ hk=>HH.out.lt hk) hbs hk hb);have HBSb28:=O hbs;replace HH:=O (HH.out.keep hk fun _ h=>h.elim);replace HR:=O (hk.rangeAt HR.out);replace HP0:=O (hk.blk HP0.out id);replace HP1:=O (hk.blk HP1.out id);replace HP2:=O (hk.blk HP2.out id);replace HQ0:=O (hk.blk HQ0.out id);replace HQ1:=O (hk.blk HQ1.out id);clear hk hb hbs;go_wp2_with fail;clear hw_w4;rw[HBSb28.out];have HFB:=O (HL.out.b 0)
 have HI:Hid (∀k wr,WI w4 a dv dc D lv k wr->wr.heap[b28]?=some (.cells #[.func (.func 131) #[.pointer (some ⟨a,0,none⟩)] #[],.func (.func 132) #[.pointer (some ⟨a,0,none⟩)] #[],.func (.func 199) #[] #[.pointer (some ⟨p0,0,none⟩),.pointer (some ⟨p1,0,none⟩),.pointer (some ⟨p2,0,none⟩)],.func (.func 146) #[] #[.pointer (some ⟨b7,0,none⟩)],.func (.func 188) #[] #[.pointer (some ⟨q0,0,none⟩),.pointer (some ⟨q1,0,none⟩)],.func (.func 135) #[.pointer (some ⟨a,0,none⟩)] #[]] 113 (0,0))):=O (by
  rintro k wr (⟨-,hk⟩|⟨-,hk,-⟩)
  ·exact hk.blk HFB.out id
  ·exact hk.blk HFB.out (fun e=>(HL.out.aq 0) (.inl e)))
 have HCK:Hid (∀k,k<6->k≤6->∃G x,((#[.func (.func 131) #[.pointer (some ⟨a,0,none⟩)] #[],.func (.func 132) #[.pointer (some ⟨a,0,none⟩)] #[],.func (.func 199) #[] #[.pointer (some ⟨p0,0,none⟩),.pointer (some ⟨p1,0,none⟩),.pointer (some ⟨p2,0,none⟩)],.func (.func 146) #[] #[.pointer (some ⟨b7,0,none⟩)],.func (.func 188) #[] #[.pointer (some ⟨q0,0,none⟩),.pointer (some ⟨q1,0,none⟩)],.func (.func 135) #[.pointer (some ⟨a,0,none⟩)] #[]]:Array Value).getD k .nilFunc=.func (.func G) #[] x\/(#[.func (.func 131) #[.pointer (some ⟨a,0,none⟩)] #[],.func (.func 132) #[.pointer (some ⟨a,0,none⟩)] #[],.func (.func 199) #[] #[.pointer (some ⟨p0,0,none⟩),.pointer (some ⟨p1,0,none⟩),.pointer (some ⟨p2,0,none⟩)],.func (.func 146) #[] #[.pointer (some ⟨b7,0,none⟩)],.func (.func 188) #[] #[.pointer (some ⟨q0,0,none⟩),.pointer (some ⟨q1,0,none⟩)],.func (.func 135) #[.pointer (some ⟨a,0,none⟩)] #[]]:Array Value).getD k .nilFunc=.func (.func G) x #[])/\(∀w,Sem.run Tryz.prog (callFunc G x) w=.ok (.enter G x) w)/\∀wr,WI w4 a dv dc D lv k wr->Calls Tryz.prog G x wr fun e w'=>e=.returned (.int .i64 0)/\WI w4 a dv dc D lv (k+1) w'):=O (by
  intro k hk hm
  match k,hk,hm with
  | 0,_,_=>exact ckw (by decide) (.inr rfl) (fun w=>by rfl) fun wr k=>B4 (HH.out.keep k fun _ h=>h.elim)
  | 1,_,_=>exact ckw (by decide) (.inr rfl) (fun w=>by rfl) fun wr k=>B5 (HH.out.keep k fun _ h=>h.elim)
  | 2,_,_=>exact ckw (by decide) (.inl rfl) (fun w=>by rfl) fun wr k=>rki (by rw[HSB.out];rfl) (sK (HH.out.keep k fun _ h=>h.elim) (d:Int) (s:Int) p0 p1 p2 (k.blk HP0.out id) (k.blk HP1.out id) (k.blk HP2.out id))
  | 3,_,_=>exact ckw (by decide) (.inl rfl) (fun w=>by rfl) fun wr k=>Im wr b7 256 c _ (k.blk (HL.out.b 1) id)
  | 4,_,_=>exact ckw (by decide) (.inl rfl) (fun w=>by rfl) fun wr k=>qV (HH.out.keep k fun _ h=>h.elim) hd q0 q1 (k.blk HQ0.out id) (k.blk HQ1.out id)
  | 5,_,_ =>
    refine⟨135,#[.pointer (some ⟨a,0,none⟩)],.inr rfl,fun w=>by rfl,fun wr hw=>?_⟩;rcases hw with⟨-,k1⟩|⟨e,-⟩
    ·refine(CU (k1.blk HH.out.top id)).mono ?_
     rintro e w' ⟨h1,h2,h3⟩;exact⟨h1,.inr ⟨rfl,k1.trans' h2 (fun _ _ h=>h.elim) (fun _ _ h=>h),h3⟩⟩
    ·exact absurd e (by decide))
 refine(oR w4 (d:Int) b28 6 6 #[.func (.func 131) #[.pointer (some ⟨a,0,none⟩)] #[],.func (.func 132) #[.pointer (some ⟨a,0,none⟩)] #[],.func (.func 199) #[] #[.pointer (some ⟨p0,0,none⟩),.pointer (some ⟨p1,0,none⟩),.pointer (some ⟨p2,0,none⟩)],.func (.func 146) #[] #[.pointer (some ⟨b7,0,none⟩)],.func (.func 188) #[] #[.pointer (some ⟨q0,0,none⟩),.pointer (some ⟨q1,0,none⟩)],.func (.func 135) #[.pointer (some ⟨a,0,none⟩)] #[]] (fun _=>0) (WI w4 a dv dc D lv) (by decide) (by decide) HI.out (by intro k hk;match k,hk with
  | 0,_=>rfl
  | 1,_=>rfl
  | 2,_=>rfl
  | 3,_=>rfl
  | 4,_=>rfl
  | 5,_=>rfl) (.inl ⟨by decide,aA.refl _ _⟩) (fun _ _=>rfl) (fun h=>absurd h (by decide)) HCK.out).mono ?_
 rintro e w5 ⟨h1,h2,hwi⟩;clear HCK HFB HI HP0 HP1 HP2 HQ0 HQ1;obtain rfl:=h1 rfl
 obtain⟨hk,st',htop⟩:aA (fun i=>i=a) w4 w5/\∃st',w5.heap[a]?=some (.cells #[.slice (some ⟨dv,0,none⟩) D dc,lv,.int .i64 (-1),.bool false,.int .i64 st'] eW (0,0)):=by
  rcases hwi with⟨h6,-⟩|⟨-,h6⟩
  ·exact absurd h6 (by decide)
  ·exact h6
 clear h1 h2 hwi;replace HL:=O (HL.out.turn (B:=(dQ a dv lv f D)) (B':=(dQ a dv lv f D)) (hk.mono fun _ _ e=>.inl e) (fun _ _ h=>h) (fun _ _ h=>h));replace HR:=O (hk.rangeAt2 HR.out fun e=>hg (.inl e));replace HH:=O (HH.out.top2 hk htop);clear hk htop;have c1:w5.cell? ⟨a,0,none⟩=some (.slice (some ⟨dv,0,none⟩) D dc):=(aC (i:=0) HH.out.top rfl)
 go_wp2_with fail;clear c1;obtain⟨cur,hcu,hcc⟩:=HH.out.next hd;replace hcu:=O hcu;replace hcc:=O hcc;refine(CV w5 dv (d*5+2) 1 (by decide) cur hcu.out hcc.out).mono ?_;rintro e w6 ⟨rfl,hk⟩;replace HL:=kL HL hk;replace HH:=O (HH.out.keep hk fun _ h=>h.elim);replace HR:=O (hk.rangeAt HR.out);clear hk;clear hcu hcc cur;go_wp2_with fail;obtain⟨cur,hcu,hcc⟩:=HH.out.next hd;replace hcu:=O hcu;replace hcc:=O hcc;refine(CV w6 dv (d*5+2) 2 (by decide) cur hcu.out hcc.out).mono ?_;rintro e w7 ⟨rfl,hk⟩;replace HL:=kL HL hk;replace HH:=O (HH.out.keep hk fun _ h=>h.elim);replace HR:=O (hk.rangeAt HR.out);clear hk;clear hcu hcc cur;go_wp2_with fail;obtain⟨p2,cap2,hlv⟩:=HH.out.lv;obtain⟨n,hn_⟩:∃n,W.length=n:=⟨_,rfl⟩
 have HN:=O hn_;rw[hn_] at hlv;have hLS:=HH.out.loose;rw[hn_,hlv] at hLS;have HLS:=O hLS;have hnn:n<100000000000:=by rw[←hn_,HW.out];exact hn
 have HLV:=O hlv;have ht:=HH.out.top;rw[hlv] at ht;have HT:=O ht;clear hLS hlv hn_ ht;refine dwA (dQ a dv lv f D) (by kernel_rfl) ?_;intro wd S HSE HSI hS hkd;replace HL:=kL HL hkd;replace HH:=O (HH.out.keep hkd fun _ h=>h.elim);replace HR:=O (hkd.rangeAt HR.out);replace HLS:=O (hkd.owns HLS.out fun _ _=>id);replace HT:=O (hkd.blk HT.out id);clear hkd;have hb7:¬(dQ a dv lv f D) b7:=(HL.out.aq 1);refine tna 0 (.pointer (some ⟨a,0,none⟩)) rfl hS ?_;refine tna 1 (.pointer (some ⟨a,0,none⟩)) rfl hS ?_;refine tnb 2 (.pointer (some ⟨a,0,none⟩)) rfl hS ?_;refine tnb 3 (.pointer (some ⟨a,1,none⟩)) rfl hS ?_;refine tna 5 (.int .i64 (d:Int)) rfl hS ?_;refine tna 6 (.int .i64 (s:Int)) rfl hS ?_;refine tnd 7 (.slice (some ⟨g,o,none⟩) 256 c) rfl (.inl ⟨by rfl,fun w' hw'=>by have c:=(HSE.out w' hw').cell (aC (i:=0) (HL.out.b 1) rfl) hb7;go_simp⟩) hS ?_;refine tnd 8 (.pointer (some ⟨g,o,none⟩)) rfl (.inl ⟨by rfl,fun w' _=>by have hb:=Iq g o c w';go_simp⟩) hS ?_;refine tnd 9 (.agg bs.toArray) rfl (yieldsIf_load_mid (by rfl) 210 (.tmp 62) rfl g o rfl bs _ (fun w' h=>(HSE.out w' h).rangeAt2 HR.out hg) Tryz.underlying210 rfl (by rw[hbn];exact kV)) hS ?_;refine tnd 10 (.agg (.int .i64 (d:Int)::.int .i64 (s:Int)::bs).toArray) rfl (fA 212 #[(0,.tmp 59),(1,.tmp 60),(2,.tmp 63)] [(0,.int .i64 (d:Int)),(1,.int .i64 (s:Int)),(2,.agg bs.toArray)] _ (Mg bs hbn _ _)) hS ?_;obtain⟨cs,hcs⟩:∃l,(.int .i64 (d:Int)::.int .i64 (s:Int)::bs:List Value)=l:=⟨_,rfl⟩
 have hcn:cs.length=258:=by rw[←hcs,List.length_cons,List.length_cons,hbn]
 have HOC:Hid (∀u∈cs,u.oneCell'=true):=O (by
  rw[←hcs];intro u hu;rcases List.mem_cons.1 hu with rfl|hu
  ·rfl
  rcases List.mem_cons.1 hu with rfl|hu
  ·rfl
  exact HO.out u hu)
 rw[hcs];have HCS:=O hcs;obtain⟨we,hwe,hke,hbe,-⟩:=aT wd cs.toArray WrT;obtain⟨bx,hbx⟩:∃x,wd.heap.size=x:=⟨_,rfl⟩
 rw[hbx] at hbe;have hbxB:¬(dQ a dv lv f D) bx:=fun hk=>by have:=HH.out.lt hk;omega
 have HRN:Hid (Rd we 258 (.slice (some ⟨bx,0,none⟩) 1 1) 1 cs):=O (eE (n:=1) (size:=258) hbe (by rw[hcn]) (by unfold maxLen;omega));have hSe:S we:=HSI.out _ ((HSE.out _ hS).trans hke.any);have HKE:=O hke;have HX:=O hbx;have HTe:=O (hke.blk HT.out id);have HLSe:=O (hke.owns HLS.out fun _ _=>id);clear hbe hke hcs;refine gH (k:=4) (l:=11) rfl rfl (by kernel_rfl) ?_ ?_
 ·have c1:wd.cell? ⟨a,1,none⟩=some (.slice p2 n cap2):=aC HT.out rfl
  go_wp2_with fail;refine⟨hS,?_⟩;clear c1;refine wA9 11 ?_;refine cC rfl 141 WrT (.tmp 64) rfl Tryz.underlying141 nY (by decide) cs hcn (by decide) rfl ?_;rw[hwe,hbx];clear hwe hbx hS;refine wpList_nil ?_;refine⟨hSe,?_⟩;refine wA9 12 ?_;refine aN rfl (.tmp 58) (.tmp 65) 141 rfl 0 WrT (.agg fU.toArray) 258 272 Tryz.underlying141 nY rfl (by decide) (.slice p2 n cap2) n (cZ W) rfl HLSe.out (.slice (some ⟨bx,0,none⟩) 1 1) 1 cs rfl HRN.out HOC.out (by unfold maxLen;omega) (by omega) (Nat.zero_le _) ?_;intro v' w8 ho5 hk5 hn5 hb5;obtain⟨g',cap',rfl⟩:=ownsRow_succ ho5;have HO5:=O ho5;have HB5:=O hb5;have hk6:aA (dQ a dv lv f D) we w8:=hk5.mono fun k _ e=>.inr (.inr (.inl (by rw[HLV.out];exact e)))
  have HK5:=O hk5;have hS8:S w8:=HSI.out _ ((HSE.out _ hSe).trans hk6);have hne:¬(Value.slice p2 n cap2).ownBlock=some a:=fun e=>HH.out.ne.2.2 a (by rw[HLV.out];exact e) rfl
  have HT8:=O (hk5.blk HTe.out hne);clear ho5 hk5 hn5 hb5;refine wpList_nil ?_;refine⟨hS8,?_⟩;clear hSe;refine tnb 13 (.pointer (some ⟨a,0,none⟩)) rfl hS8 ?_;refine tnb 14 (.pointer (some ⟨a,1,none⟩)) rfl hS8 ?_;refine wA9 15 ?_;refine sta 141 (.tmp 68) (.tmp 66) a 1 [.slice (some ⟨g',0,none⟩) (n+1) cap'] HT8.out (by simp) (by kernel_rfl) (one9) ?_;intro w9 hk9 hb9;replace hb9:w9.heap[a]?=some (.cells #[.slice (some ⟨dv,0,none⟩) D dc,(.slice (some ⟨g',0,none⟩) (n+1) cap'),.int .i64 (-1),.bool false,.int .i64 st'] eW (0,0)):=hb9;have HP:Hid (jL w a (dQ a dv lv f D) D Z M nw d s b (.returned (.int .i64 0)) w9):=O (yR HH.out HKE.out HK5.out HLV.out HN.out HO5.out HB5.out hk9 hb9 hd hs hbl HCS.out HBS.out HM.out HW.out HL.out.keep);have hS9:S w9:=HSI.out _ (((HSE.out _ hS8).trans (hk9.mono fun _ _ e=>.inl e)));clear hk9 hb9 hS8;refine wpList_nil ?_;refine⟨hS9,?_⟩;refine wpAnyH_done (by kernel_rfl) ?_ _;clear hS9 HSE HSI;go_wp2;go_ret;exact HP.out
 ·refine cC rfl 141 WrT (.tmp 64) rfl Tryz.underlying141 nY (by decide) cs hcn (by decide) rfl ?_
  rw[hwe,hbx];clear hwe hbx hS;refine wpList_nil ?_;refine⟨hSe,?_⟩;refine wA9 4 ?_;have c1:we.cell? ⟨a,1,none⟩=some (.slice p2 n cap2):=aC HTe.out rfl;go_wp2_with fail;refine⟨hSe,?_⟩;clear c1;refine wA9 12 ?_;refine aN rfl (.tmp 58) (.tmp 65) 141 rfl 0 WrT (.agg fU.toArray) 258 272 Tryz.underlying141 nY rfl (by decide) (.slice p2 n cap2) n (cZ W) rfl HLSe.out (.slice (some ⟨bx,0,none⟩) 1 1) 1 cs rfl HRN.out HOC.out (by unfold maxLen;omega) (by omega) (Nat.zero_le _) ?_;intro v' w8 ho5 hk5 hn5 hb5;obtain⟨g',cap',rfl⟩:=ownsRow_succ ho5;have HO5:=O ho5;have HB5:=O hb5;have hk6:aA (dQ a dv lv f D) we w8:=hk5.mono fun k _ e=>.inr (.inr (.inl (by rw[HLV.out];exact e)))
  have HK5:=O hk5;have hS8:S w8:=HSI.out _ ((HSE.out _ hSe).trans hk6);have hne:¬(Value.slice p2 n cap2).ownBlock=some a:=fun e=>HH.out.ne.2.2 a (by rw[HLV.out];exact e) rfl
  have HT8:=O (hk5.blk HTe.out hne);clear ho5 hk5 hn5 hb5;refine wpList_nil ?_;refine⟨hS8,?_⟩;clear hSe;refine tnb 13 (.pointer (some ⟨a,0,none⟩)) rfl hS8 ?_;refine tnb 14 (.pointer (some ⟨a,1,none⟩)) rfl hS8 ?_;refine wA9 15 ?_;refine sta 141 (.tmp 68) (.tmp 66) a 1 [.slice (some ⟨g',0,none⟩) (n+1) cap'] HT8.out (by simp) (by kernel_rfl) (one9) ?_;intro w9 hk9 hb9;replace hb9:w9.heap[a]?=some (.cells #[.slice (some ⟨dv,0,none⟩) D dc,(.slice (some ⟨g',0,none⟩) (n+1) cap'),.int .i64 (-1),.bool false,.int .i64 st'] eW (0,0)):=hb9;have HP:Hid (jL w a (dQ a dv lv f D) D Z M nw d s b (.returned (.int .i64 0)) w9):=O (yR HH.out HKE.out HK5.out HLV.out HN.out HO5.out HB5.out hk9 hb9 hd hs hbl HCS.out HBS.out HM.out HW.out HL.out.keep);have hS9:S w9:=HSI.out _ (((HSE.out _ hS8).trans (hk9.mono fun _ _ e=>.inl e)));clear hk9 hb9 hS8;refine wpList_nil ?_;refine⟨hS9,?_⟩;refine wpAnyH_done (by kernel_rfl) ?_ _;clear hS9 HSE HSI;go_wp2;go_ret;exact HP.out
theorem Lz{w:World}{p:Option Addr}{c n:Nat}{D Z:Nat}{W:List Lw}(hr:Rd w 258 (.slice p n c) n (cZ W))(hok:vJ D Z W){k:Nat}{x:Lw}(hk:W[k]?=some x):∃g o,p=some ⟨g,o,none⟩/\w.rangeAt g (o+k*258) (dU x):=by
 have hlt:=(List.getElem?_eq_some_iff.1 hk).1;obtain⟨hl,a',c',he,-,-,-,h4⟩:=hr;obtain⟨g,o,rfl,hc⟩:=h4 (by rw[Nl hok];omega);cases he
 refine⟨g,o,rfl,fun j v hv=>?_⟩;have:=hc (k*258+j) v (fT (c:=dU) (n:=258) (fun y hy=>kU (hok y hy).1) hk hv)
 rwa [←Nat.add_assoc] at this
theorem FY(w:World)(k:Int)(x:Lw)(hx:x.b.length=256)(p d:Nat)(hp:w.heap[p]?=some (.cells #[.int .i64 (d:Int)] 3 (0,0))):Calls Tryz.prog 138 #[.int .i64 k,.agg (dU x).toArray,.pointer (some ⟨p,0,none⟩)] w (aK w (.bool (decide (x.dev=d)))):=by
 have hlx:=kU hx;have HP:=O hp;have HL:=lN w;have he:((x.dev:Int) == (d:Int))=decide (x.dev=d):=by rw[Bool.eq_iff_iff,beq_iff_eq,decide_eq_true_eq];omega
 obtain⟨bb,hbb⟩:∃b,decide (x.dev=d)=b:=⟨_,rfl⟩
 rw[hbb] at he ⊢;clear hp hbb;go_in
 go_wp2_with ((with_reducible show WL _ _);refine bxL HL 212 (.tmp 1) ((dU x).toArray) ?_)
 intro b4 w1 hk HL;replace HP:=O (hk.blk HP.out id);clear hk;have c1:w1.cell? ⟨b4,0,none⟩=some (.int .i64 (x.dev:Int)):=aC (i:=0) (HL.out.b 0) (by rw[List.getElem?_toArray];rfl);have c2:=aC (i:=0) HP.out rfl;go_wp2;go_ret;exact aK.of HL.out.keep
def CW(w:World)(W:List Lw)(d:Nat)(e:Ending)(w':World):Prop:=∃yv nv,e=.returned (.tuple #[yv,nv])/\w'.ownsRow w.heap.size WrT 258 yv (W.filter fun x=>decide (x.dev=d)).length (cZ (W.filter fun x=>decide (x.dev=d)))/\w'.ownsRow w.heap.size WrT 258 nv (W.filter fun x=>!decide (x.dev=d)).length (cZ (W.filter fun x=>!decide (x.dev=d)))/\aA aB w w'
structure PaI(w wr:World)(W:List Lw)(d k:Nat)(yv nv:Value)(Y N:List Lw):Prop where
 y:Y=(W.take k).filter fun x=>decide (x.dev=d)
 n:N=(W.take k).filter fun x=>!decide (x.dev=d)
 oy:wr.ownsRow w.heap.size WrT 258 yv Y.length (cZ Y)
 on:wr.ownsRow w.heap.size WrT 258 nv N.length (cZ N)
 ne:∀i,yv.ownBlock=some i->¬nv.ownBlock=some i
 keep:aA aB w wr
theorem PaI.lens{w wr:World}{W:List Lw}{d k:Nat}{yv nv:Value}{Y N:List Lw}(h:PaI w wr W d k yv nv Y N):Y.length≤W.length/\N.length≤W.length:=by
 rw[h.y,h.n];have h1:=List.length_take_le k W;have h2:=List.length_filter_le (fun x:Lw=>decide (x.dev=d)) (W.take k);have h3:=List.length_filter_le (fun x:Lw=>!decide (x.dev=d)) (W.take k);have h4:(W.take k).length≤W.length:=by rw[List.length_take];omega
 omega
theorem uJ(Y:List Lw)(x:Lw):cZ (Y++[x])=cZ Y++dU x:=by unfold cZ;rw[List.flatMap_append];simp
theorem PaI.yes{w wr we w8:World}{W:List Lw}{d k g c:Nat}{yv nv:Value}{Y N:List Lw}{x:Lw}(h:PaI w wr W d k yv nv Y N)(hx:W[k]?=some x)(hd:x.dev=d)(k1:aA aB wr we)(ho:w8.ownsRow w.heap.size WrT 258 (.slice (some ⟨g,0,none⟩) (Y.length+1) c) (Y.length+1) (cZ Y++dU x))
 (k2:aA (fun k=>yv.ownBlock=some k) we w8) (hb:(Value.slice (some ⟨g,0,none⟩) (Y.length+1) c).ownBlock=yv.ownBlock\/(Value.slice (some ⟨g,0,none⟩) (Y.length+1) c).ownBlock=some we.heap.size):PaI w w8 W d (k+1) (.slice (some ⟨g,0,none⟩) (Y.length+1) c) nv (Y++[x]) N:=by
 have ht:W.take (k+1)=W.take k++[x]:=by rw[List.take_add_one,hx];rfl
 refine⟨?_,?_,?_,?_,?_,?_⟩
 ·rw[ht,List.filter_append,←h.y];simp[hd]
 ·rw[ht,List.filter_append,←h.n];simp[hd]
 ·rw[List.length_append,uJ];exact ho
 ·exact k2.owns (k1.owns h.on fun _ _=>id) fun i hi e=>h.ne i e hi
 ·intro i hi e
  rcases hb with hb|hb
  ·exact h.ne i (hb▸hi) e
  ·obtain⟨cur,hc⟩:=aL h.on e
   have:=lt_of_block hc;have:=k1.size;rw[hi] at hb;cases hb
   omega
 ·exact(h.keep.trans k1).trans' k2 (fun _ _ h=>h) fun i hi e=>by
   have:=aS h.oy e;omega
theorem PaI.no{w wr we w8:World}{W:List Lw}{d k g c:Nat}{yv nv:Value}{Y N:List Lw}{x:Lw}(h:PaI w wr W d k yv nv Y N)(hx:W[k]?=some x)(hd:¬x.dev=d)(k1:aA aB wr we)(ho:w8.ownsRow w.heap.size WrT 258 (.slice (some ⟨g,0,none⟩) (N.length+1) c) (N.length+1) (cZ N++dU x))
 (k2:aA (fun k=>nv.ownBlock=some k) we w8) (hb:(Value.slice (some ⟨g,0,none⟩) (N.length+1) c).ownBlock=nv.ownBlock\/(Value.slice (some ⟨g,0,none⟩) (N.length+1) c).ownBlock=some we.heap.size):PaI w w8 W d (k+1) yv (.slice (some ⟨g,0,none⟩) (N.length+1) c) Y (N++[x]):=by
 have ht:W.take (k+1)=W.take k++[x]:=by rw[List.take_add_one,hx];rfl
 refine⟨?_,?_,?_,?_,?_,?_⟩
 ·rw[ht,List.filter_append,←h.y];simp[hd]
 ·rw[ht,List.filter_append,←h.n];simp[hd]
 ·exact k2.owns (k1.owns h.oy fun _ _=>id) fun i hi e=>h.ne i hi e
 ·rw[List.length_append,uJ];exact ho
 ·intro i hi e
  rcases hb with hb|hb
  ·exact h.ne i hi (hb▸e)
  ·obtain⟨cur,hc⟩:=aL h.oy hi
   have:=lt_of_block hc;have:=k1.size;rw[e] at hb;cases hb
   omega
 ·exact(h.keep.trans k1).trans' k2 (fun _ _ h=>h) fun i hi e=>by
   have:=aS h.on e;omega
theorem PaI.same{w wr we:World}{W:List Lw}{d k:Nat}{yv nv:Value}{Y N:List Lw}(h:PaI w wr W d k yv nv Y N)(k1:aA aB wr we):PaI w we W d k yv nv Y N:=
 ⟨h.y,h.n,k1.owns h.oy fun _ _=>id,k1.owns h.on fun _ _=>id,h.ne,h.keep.trans k1⟩
theorem BI(w:World)(W:List Lw){D Z:Nat}(d:Nat)(p:Option Addr)(c:Nat)(hr:Rd w 258 (.slice p W.length c) W.length (cZ W))(hok:vJ D Z W)(hn:W.length<100000000000)(q:Nat)(hq:w.heap[q]?=some (.cells #[.int .i64 (d:Int)] 3 (0,0))) :
 Calls Tryz.prog 137 #[.slice p W.length c,.func (.func 138) #[] #[.pointer (some ⟨q,0,none⟩)]] w (CW w W d):=by
 obtain⟨n,hn_⟩:∃n,W.length=n:=⟨_,rfl⟩
 have HN:=O hn_;rw[hn_] at hr hn ⊢;have HR:=O hr;have HQ:=O hq;have HOK:=O hok;clear hr hq hok hn_;go_in;go_wp2_with fail
 go_loopw [4,5,10] (fun y z i wr=>∃(k:Nat) (Y N:List Lw) (py pn:Option Addr) (cy cn:Nat),k≤n/\i=.int .i64 k/\y=.slice py Y.length cy/\z=.slice pn N.length cn/\Hid (PaI w wr W d k (.slice py Y.length cy) (.slice pn N.length cn) Y N)) (fun _ _ i _=>n-(intOf i).toNat)
 case atStart=>exact⟨0,[],[],none,none,0,0,by omega,rfl,rfl,rfl,O ⟨by simp,by simp,World.ownsRow_nil _ _ _ _,World.ownsRow_nil _ _ _ _,(fun i h=>by cases h),aA.refl _ _⟩⟩
 case round =>
  obtain⟨k,Y,N,py,pn,cy,cn,hk,rfl,rfl,rfl,HI⟩:=hrel
  by_cases hk8:k<n
  ·obtain⟨x,hx⟩:∃x,W[k]?=some x:=⟨W[k]'(by rw[HN.out];exact hk8),List.getElem?_eq_getElem _⟩
   have hok:=HOK.out x (List.mem_of_getElem? hx);have hlx:=kU hok.1;obtain⟨g,o,rfl,hat⟩:=Lz (by have:=HR.out;rwa [←HN.out] at this) HOK.out hx;have HX:=O (HI.out.keep.rangeAt hat);have HXX:=O hx;have hlens:=HI.out.lens;rw[HN.out] at hlens;have HL:=lN wr;have HQW:=O (HI.out.keep.blk HQ.out id);have hk0:(0:Int)≤(k:Int):=by omega
   have hk1:(k:Int)<(n:Int):=by omega
   obtain⟨ny,hny⟩:∃n,Y.length=n:=⟨_,rfl⟩
   obtain⟨nn,hnn⟩:∃n,N.length=n:=⟨_,rfl⟩
   have HNY:=O hny;have HNN:=O hnn;rw[hny,hnn] at hlens;rw[hny,hnn];have hxok:=hok.1;clear hat hx hok hny hnn
   go_wp2_with ((with_reducible show WL _ _);first
    | refine wpList_load_mid rfl 212 (.tmp 13) rfl g (o+k*258) rfl (dU x) _ HX.out oX rfl (by rw[hlx];exact jY) ?_
    | refine al 212 (.agg fU.toArray) (fU.toArray) Aj ?_)
   intro b7 w1 hbs hk0 hb0_
   go_wp2_with ((with_reducible show WL _ _);refine sta 212 (.tmp 7) (.tmp 14) b7 0 (dU x) hb0_ (by first|decide|(rw[List.size_toArray,hlx];exact Nat.le_refl _)|simp[hlx,iP]) (by rw[hlx];exact jY) (sJ x) ?_)
   intro w2 hk hb;rw[aI _ _ (by first|rfl|(rw[List.size_toArray,hlx];rfl)|simp[hlx,iP])] at hb;replace hk:=tX hk0 hk (fun i hi e=>by omega);replace HL:=lW HL hbs hk hb;replace HX:=O (hk.rangeAt HX.out);replace HQW:=O (hk.blk HQW.out id);clear hbs hk hb hk0 hb0_;clear HX
   go_wp2_with ((with_reducible show WL _ _);refine wpList_load_mid rfl 212 (.tmp 7) rfl b7 0 rfl (dU x) _ (aD (HL.out.b 0)) oX rfl (by rw[hlx];exact jY) ?_)
   refine(FY w2 (k:Int) x hxok q d HQW.out).mono ?_;rintro e w3 ⟨rfl,hk⟩;replace HL:=kL HL hk;replace HQW:=O (hk.blk HQW.out id);clear hk;have HI2:=O (HI.out.same HL.out.keep);have HP:=O HI2.out
   by_cases hd:x.dev=d
   ·have hdd:decide (x.dev=d)=true:=decide_eq_true hd
    rw[hdd];clear hdd;have HO:=O HI2.out.oy;rw[HNY.out] at HO;have HOX:Hid (∀u∈dU x,u.oneCell'=true):=O (sJ x);have hbs_:=HI2.out.keep.size;obtain⟨we,hwe,hke,hbe,-⟩:=aT w3 (dU x).toArray 212;obtain⟨bx,hbx⟩:∃x,w3.heap.size=x:=⟨_,rfl⟩
    rw[hbx] at hbe;have HRN:Hid (Rd we 258 (.slice (some ⟨bx,0,none⟩) 1 1) 1 (dU x)):=O (eE (n:=1) (size:=258) hbe (by rw[hlx]) (by unfold maxLen;omega));have HO_:=O (hke.owns HO.out fun _ _=>id);have hsz_:=hke.size;have HKE:=O hke;have HBX:=O hbx;clear hbe hke
    go_wp2_with (first
     | ((with_reducible show WL (some 20) (.load 212 _));refine wpList_load_mid rfl 212 (.tmp 7) rfl b7 0 rfl (dU x) _ (aD (HL.out.b 0)) oX rfl (by rw[hlx];exact jY) ?_)
     | ((with_reducible show WL _ (.buildSlice _ 1 _));refine cC rfl 141 212 (.tmp 20) rfl Tryz.underlying141 nY (by decide) (dU x) hlx (by decide) rfl ?_;rw[hwe,hbx])
     | (at_builtin;refine aN rfl (.tmp 19) (.tmp 21) 141 rfl w.heap.size 212 (.agg fU.toArray) 258 272 Tryz.underlying141 nY rfl (by decide) (.slice py ny cy) ny (cZ Y) rfl HO_.out (.slice (some ⟨bx,0,none⟩) 1 1) 1 (dU x) rfl HRN.out (sJ x) (by unfold maxLen;omega) (by omega) (by omega) ?_))
    intro v2 w8 ho5 hk5 hn5 hb5;obtain⟨gq,cq,rfl⟩:=ownsRow_succ ho5;clear hwe hbx hn5 HRN HO_;have HI3:=O (HI2.out.yes HXX.out hd HKE.out (by rw[HNY.out];exact ho5) (by rw[HNY.out];exact hk5) (by rw[HNY.out];exact hb5));rw[HNY.out,HNN.out] at HI3;clear ho5 hk5 hb5 HKE HBX hsz_ hbs_;go_wp2
    go_roundw
    case rel=>exact⟨k+1,Y++[x],N,some ⟨gq,0,none⟩,pn,cq,cn,by omega,by go_num,by rw[List.length_append,HNY.out];rfl,by rw[HNN.out],by rw[List.length_append,HNY.out,HNN.out];exact HI3⟩
    case measure=>simp[intOf];omega
   ·have hdd:decide (x.dev=d)=false:=decide_eq_false hd
    rw[hdd];clear hdd;have HO:=O HI2.out.on;rw[HNN.out] at HO;have HOX:Hid (∀u∈dU x,u.oneCell'=true):=O (sJ x);have hbs_:=HI2.out.keep.size;obtain⟨we,hwe,hke,hbe,-⟩:=aT w3 (dU x).toArray 212;obtain⟨bx,hbx⟩:∃x,w3.heap.size=x:=⟨_,rfl⟩
    rw[hbx] at hbe;have HRN:Hid (Rd we 258 (.slice (some ⟨bx,0,none⟩) 1 1) 1 (dU x)):=O (eE (n:=1) (size:=258) hbe (by rw[hlx]) (by unfold maxLen;omega));have HO_:=O (hke.owns HO.out fun _ _=>id);have hsz_:=hke.size;have HKE:=O hke;have HBX:=O hbx;clear hbe hke
    go_wp2_with (first
     | ((with_reducible show WL (some 24) (.load 212 _));refine wpList_load_mid rfl 212 (.tmp 7) rfl b7 0 rfl (dU x) _ (aD (HL.out.b 0)) oX rfl (by rw[hlx];exact jY) ?_)
     | ((with_reducible show WL _ (.buildSlice _ 1 _));refine cC rfl 141 212 (.tmp 24) rfl Tryz.underlying141 nY (by decide) (dU x) hlx (by decide) rfl ?_;rw[hwe,hbx])
     | (at_builtin;refine aN rfl (.tmp 23) (.tmp 25) 141 rfl w.heap.size 212 (.agg fU.toArray) 258 272 Tryz.underlying141 nY rfl (by decide) (.slice pn nn cn) nn (cZ N) rfl HO_.out (.slice (some ⟨bx,0,none⟩) 1 1) 1 (dU x) rfl HRN.out (sJ x) (by unfold maxLen;omega) (by omega) (by omega) ?_))
    intro v2 w8 ho5 hk5 hn5 hb5;obtain⟨gq,cq,rfl⟩:=ownsRow_succ ho5;clear hwe hbx hn5 HRN HO_;have HI3:=O (HI2.out.no HXX.out hd HKE.out (by rw[HNN.out];exact ho5) (by rw[HNN.out];exact hk5) (by rw[HNN.out];exact hb5));rw[HNN.out,HNY.out] at HI3;clear ho5 hk5 hb5 HKE HBX hsz_ hbs_;go_wp2
    go_roundw
    case rel=>exact⟨k+1,Y,N++[x],py,some ⟨gq,0,none⟩,cy,cq,by omega,by go_num,by rw[HNY.out],by rw[List.length_append,HNN.out];rfl,by rw[List.length_append,HNY.out,HNN.out];exact HI3⟩
    case measure=>simp[intOf];omega
  ·obtain rfl:n=k:=by omega
   have hi:=HI.out;have hy:=hi.y;have hn2:=hi.n;rw[List.take_of_length_le (by rw[HN.out];exact Nat.le_refl _)] at hy hn2;have HP:Hid (CW w W d (.returned (.tuple #[.slice py Y.length cy,.slice pn N.length cn])) wr):=O ⟨_,_,rfl,by rw[←hy];exact hi.oy,by rw[←hn2];exact hi.on,hi.keep⟩;clear hi hy hn2;go_wp2
   go_ret2
   exact HP.out
variable {w:World}{a dv dc D Z:Nat}{lv:Value}{st:Int}{f:Nat->Nat}{F:Nat->Nat->List UInt8}{W:List Lw}
def WJ(W:World)(a dv dc D:Nat)(lv:Value)(k:Nat)(wr:World):Prop:=(k≤4/\aA aB W wr)\/(k=5/\aA (fun i=>i=a) W wr/\∃st',wr.heap[a]?=some (.cells #[.slice (some ⟨dv,0,none⟩) D dc,lv,.int .i64 (-1),.bool false,.int .i64 st'] eW (0,0)))
theorem ckj{W:World}{G k:Nat}(hk:k≤3){x:Array Value}{v:Value}(hv:v=.func (.func G) #[] x\/v=.func (.func G) x #[])(hc:∀w,Sem.run Tryz.prog (callFunc G x) w=.ok (.enter G x) w)(hC:∀wr,aA aB W wr->Calls Tryz.prog G x wr (aK wr (.int .i64 0))) :
 ∃G x,(v=.func (.func G) #[] x\/v=.func (.func G) x #[])/\(∀w,Sem.run Tryz.prog (callFunc G x) w=.ok (.enter G x) w)/\∀wr,WJ W a dv dc D lv k wr->Calls Tryz.prog G x wr fun e w'=>e=.returned (.int .i64 0)/\WJ W a dv dc D lv (k+1) w':=
 ⟨G,x,hv,hc,fun wr hw=>by
  rcases hw with⟨-,k1⟩|⟨e,-⟩
  ·exact(hC wr k1).mono fun e w' h=>⟨h.1,.inl ⟨by omega,k1.trans h.2⟩⟩
  ·omega⟩
theorem bP.ne3(h:bP w a dv dc lv st f F W D Z):∀d,d<D->dv≠f d:=by
 rintro d hd rfl;obtain⟨cur,hc⟩:=aL h.devs (k:=f d) rfl;have hc2:=h.firm d hd;rw[hc] at hc2;simp[gP,fF] at hc2
def iH(F:Nat->Nat->List UInt8)(d s:Nat)(b:List UInt8):Nat->Nat->List UInt8:=fun d' s'=>if d'=d/\s'=s then b else F d' s'
theorem CX(F:Nat->Nat->List UInt8){Z d s:Nat}(hs:s<Z)(b:List UInt8)(hb:b.length=256)(hF:∀s,s<Z->(F d s).length=256):spl (dA (F d) Z).toArray (s*256) (b.map vb)=(dA (iH F d s b d) Z).toArray:=by
 have hl:(dA (F d) Z).length=Z*256:=by
  have:=nW (c:=fun s=>(F d s).map vb) (n:=256) (l:=List.range Z) fun x hx=>by rw[List.length_map];exact hF x (List.mem_range.1 hx)
  rw[List.length_range] at this;exact this
 have hl2:(dA (iH F d s b d) Z).length=Z*256:=by
  have:=nW (c:=fun t=>(iH F d s b d t).map vb) (n:=256) (l:=List.range Z) fun x hx=>by
   rw[List.length_map];unfold iH;split
   ·exact hb
   ·exact hF x (List.mem_range.1 hx)
  rw[List.length_range] at this;exact this
 have hm:s*256+256≤Z*256:=by omega
 apply Array.ext_getElem?;intro j;rw[mA _ _ _ _ (by rw[List.size_toArray,hl,List.length_map,hb];exact hm)];simp only[List.getElem?_toArray,List.length_map,hb]
 by_cases hj:j<Z*256
 ·obtain⟨q,r,rfl,hr⟩:∃q r,j=q*256+r/\r<256:=⟨j / 256,j % 256,by omega,by omega⟩
  have hq:q<Z:=by omega
  have e2:(dA (iH F d s b d) Z)[q*256+r]?=((iH F d s b d q).map vb)[r]?:=by
   have hlen:((iH F d s b d q).map vb).length=256:=by
    rw[List.length_map];unfold iH;split
    ·exact hb
    ·exact hF q hq
   obtain⟨v,hv⟩:∃v,((iH F d s b d q).map vb)[r]?=some v:=⟨_,List.getElem?_eq_getElem (by rw[hlen];exact hr)⟩
   rw[hv]
   exact fT (c:=fun t=>(iH F d s b d t).map vb) (n:=256) (l:=List.range Z) (fun x hx=>by
    rw[List.length_map];unfold iH;split
    ·exact hb
    ·exact hF x (List.mem_range.1 hx)) (iG hq) hv
  have e1:(dA (F d) Z)[q*256+r]?=((F d q).map vb)[r]?:=by
   have hlen:((F d q).map vb).length=256:=by rw[List.length_map];exact hF q hq
   obtain⟨v,hv⟩:∃v,((F d q).map vb)[r]?=some v:=⟨_,List.getElem?_eq_getElem (by rw[hlen];exact hr)⟩
   rw[hv];exact fT (c:=fun t=>(F d t).map vb) (n:=256) (l:=List.range Z) (fun x hx=>by rw[List.length_map];exact hF x (List.mem_range.1 hx)) (iG hq) hv
  rw[e1,e2];unfold iH
  by_cases e:q=s
  ·subst e
   rw[if_pos (by omega),if_pos ⟨rfl,rfl⟩,show q*256+r-q*256=r by omega]
  ·rw[if_neg (by omega),if_neg (fun h=>e h.2)]
 ·rw[if_neg (by omega),List.getElem?_eq_none (by omega),List.getElem?_eq_none (by omega)]
theorem uK{G:Nat->List UInt8}{Z:Nat}(hG:∀s,s<Z->(G s).length=256):(dA G Z).length=Z*256:=by
 have:=nW (c:=fun s=>(G s).map vb) (n:=256) (l:=List.range Z) fun x hx=>by rw[List.length_map];exact hG x (List.mem_range.1 hx)
 rw[List.length_range] at this;exact this
theorem bP.turn(h:bP w a dv dc lv st f F W D Z){w':World}{d s:Nat}{b:List UInt8}(hd:d<D)(hs:s<Z)(hb:b.length=256)(k:aA (fun i=>i=f d) w w')(hn:w'.heap[f d]?=some (.cells (dA (iH F d s b d) Z).toArray gP (0,0))):bP w' a dv dc lv st f (iH F d s b) W D Z:=by
 obtain⟨n1,n2,n3⟩:=h.ne;refine⟨k.blk h.top fun e=>n2 d hd e,k.owns h.devs fun i hi e=>h.ne3 d hd (by cases hi;exact e),fun e he=>?_,h.inj,k.owns h.loose fun i hi e=>(h.ne2 i hi).2 d hd e,h.wok,?_,h.bd⟩
 ·by_cases hde:e=d
  ·subst hde;exact hn
  ·have e1:iH F d s b e=F e:=by
    funext t;unfold iH;rw[if_neg (fun h=>hde h.1)]
   rw[e1];exact k.blk (h.firm e he) fun e2=>hde (h.inj e d he hd e2)
 ·intro e t he ht
  unfold iH;split
  ·exact hb
  ·exact h.fok e t he ht
theorem qW{d s:Nat}:∀(l:List Lw) (b:List UInt8),dV (l.filter fun x=>decide (x.dev=d)) d s b=dV l d s b
 | [],b=>rfl
 | x::l,b=>by
   by_cases e:x.dev=d
   ·rw[List.filter_cons_of_pos (by simpa using e)]
    exact qW l _
   ·rw[List.filter_cons_of_neg (by simpa using e),qW l b]
    show _=dV l d s (if x.dev=d/\x.at_=s then x.b else b);rw[if_neg (fun h=>e h.1)]
theorem sN{d d' s:Nat}(hd:d'≠d):∀(l:List Lw) (b:List UInt8),dV (l.filter fun x=>!decide (x.dev=d)) d' s b=dV l d' s b
 | [],b=>rfl
 | x::l,b=>by
   by_cases e:x.dev=d
   ·rw[List.filter_cons_of_neg (by simpa using e),sN hd l b]
    show _=dV l d' s (if x.dev=d'/\x.at_=s then x.b else b);rw[if_neg (fun h=>hd (h.1.symm.trans e))]
   ·rw[List.filter_cons_of_pos (by simpa using e)]
    exact sN hd l _
theorem uL{d s:Nat}:∀(l:List Lw) (b:List UInt8),dV (l.filter fun x=>!decide (x.dev=d)) d s b=b
 | [],b=>rfl
 | x::l,b=>by
   by_cases e:x.dev=d
   ·rw[List.filter_cons_of_neg (by simpa using e)]
    exact uL l b
   ·rw[List.filter_cons_of_pos (by simpa using e)]
    show dV _ d s (if x.dev=d/\x.at_=s then x.b else b)=b;rw[if_neg (fun h=>e h.1)];exact uL l b
def nD(F:Nat->Nat->List UInt8)(d:Nat)(Y:List Lw):Nat->Nat->List UInt8:=fun d' s'=>if d'=d then dV Y d' s' (F d' s') else F d' s'
theorem Ir(F:Nat->Nat->List UInt8)(d:Nat)(Y:List Lw)(x:Lw)(hx:x.dev=d):iH (nD F d Y) d x.at_ x.b=nD F d (Y++[x]):=by
 funext d' s'
 unfold iH nD
 by_cases e:d'=d
 ·subst e
  rw[if_pos rfl,if_pos rfl,oQ]
  by_cases e2:s'=x.at_
  ·rw[if_pos ⟨rfl,e2⟩,if_pos ⟨hx,e2.symm⟩]
  ·rw[if_neg (fun h=>e2 h.2),if_neg (fun h=>e2 h.2.symm)]
 ·rw[if_neg (fun h=>e h.1),if_neg e,if_neg e]
theorem Km(F:Nat->Nat->List UInt8)(d:Nat)(W:List Lw):∀d' s',dV (W.filter fun x=>!decide (x.dev=d)) d' s' (nD F d (W.filter fun x=>decide (x.dev=d)) d' s')=dV W d' s' (F d' s'):=by
 intro d' s';unfold nD
 by_cases e:d'=d
 ·subst e;rw[if_pos rfl,uL,qW]
 ·rw[if_neg e,sN e]
def AY(w:World)(a:Nat)(B:Nat->Prop)(D Z:Nat)(M:Nat->Nat->List UInt8)(nw:Nat)(e:Ending)(w':World):Prop:=
 e=.returned (.int .i64 0)/\∃B' nw',bM w' a B' D Z M nw'/\nw'≤nw/\(∀k,B' k->B k\/w.heap.size≤k)/\aA B w w'
theorem yS{B:Nat->Prop}{M:Nat->Nat->List UInt8}{nw:Nat}(h:bM w a B D Z M nw){d:Nat}(hd:d<D)(hn:nw<100000000000):Calls Tryz.prog 99 #[.pointer (some ⟨a,0,none⟩),.int .i64 (d:Int)] w (AY w a B D Z M nw):=by
 obtain⟨dv,dc,lv,st,f,F,W,h,rfl,hW,hM⟩:=h;obtain⟨p2,cap2,hlv⟩:=h.lv;have HL:=O (Loc.nil (dQ a dv lv f D) (dQ a dv lv f D) w);have HH:=O h;have HDB:(decide (0≤(d:Int)) && decide ((d:Int)<(D:Int)))=true:=by simp only[Bool.and_eq_true,decide_eq_true_eq];omega
 replace HDB:=O HDB;have HM:=O hM;have HW:=O hW;have HLV:=O hlv;have hd2:(d:Int)<(D:Int):=by omega
 have hd0:(0:Int)≤(d:Int):=by omega
 clear h hM hW hlv;go_in
 go_wp2_with ((with_reducible show WL _ _);refine bx 3 (.tmp 1) (#[.int .i64 (d:Int)]) ?_)
 intro b3 w1 hbs hk hb;replace HL:=O (HL.out.new (fun _ hk=>HH.out.lt hk) hbs hk hb);replace HH:=O (HH.out.keep hk fun _ h=>h.elim);clear hbs hk hb;go_wp2_with fail;refine dwA (dQ a dv lv f D) (by kernel_rfl) ?_;intro w2 S HSE HSI hS hkd;replace HL:=kL HL hkd;replace HH:=O (HH.out.keep hkd fun _ h=>h.elim);clear hkd;have HLs:=HL;have HHs:=HH;refine tnd 0 (.int .i64 (d:Int)) rfl (.inl ⟨by rfl,fun w' hw'=>by have c:=aC (i:=0) ((HSE.out w' hw').blk (HLs.out.b 0) ((HLs.out.aq 0))) rfl;go_simp⟩) hS ?_;refine tna 1 (.pointer (some ⟨a,0,none⟩)) rfl hS ?_;refine tnb 2 (.func (.func 131) #[.pointer (some ⟨a,0,none⟩)] #[]) rfl hS ?_;refine tna 3 (.pointer (some ⟨a,0,none⟩)) rfl hS ?_;refine tnb 4 (.func (.func 132) #[.pointer (some ⟨a,0,none⟩)] #[]) rfl hS ?_;refine tna 5 (.pointer (some ⟨a,0,none⟩)) rfl hS ?_;refine tnd 6 (.int .i64 (d:Int)) rfl (.inl ⟨by rfl,fun w' hw'=>by have c:=aC (i:=0) ((HSE.out w' hw').blk (HLs.out.b 0) ((HLs.out.aq 0))) rfl;go_simp⟩) hS ?_;refine tna 8 (.pointer (some ⟨a,0,none⟩)) rfl hS ?_;refine tnd 9 (.int .i64 (d:Int)) rfl (.inl ⟨by rfl,fun w' hw'=>by have c:=aC (i:=0) ((HSE.out w' hw').blk (HLs.out.b 0) ((HLs.out.aq 0))) rfl;go_simp⟩) hS ?_;refine tna 11 (.pointer (some ⟨a,0,none⟩)) rfl hS ?_;refine tnb 12 (.func (.func 135) #[.pointer (some ⟨a,0,none⟩)] #[]) rfl hS ?_;refine wA9 7 ?_;go_wp2_with fail;refine(FV w2 a (d:Int)).mono ?_;rintro e w3 hp;obtain⟨p0,p1,rfl,HP0,HP1,hk⟩:=hp.two;have hS1:=HSI.out _ ((HSE.out _ hS).trans hk.any);replace HL:=kL HL hk;replace HH:=O (HH.out.keep hk fun _ h=>h.elim);clear hS hk;replace HP0:=O HP0;replace HP1:=O HP1;go_wp2_with fail;refine⟨hS1,?_⟩;refine wA9 10 ?_;go_wp2_with fail;refine(oS w3 a (d:Int)).mono ?_;rintro e w4 hp;obtain⟨q0,q1,rfl,HQ0,HQ1,hk⟩:=hp.two;have hS2:=HSI.out _ ((HSE.out _ hS1).trans hk.any);replace HL:=kL HL hk;replace HH:=O (HH.out.keep hk fun _ h=>h.elim);replace HP0:=O (hk.blk HP0.out id);replace HP1:=O (hk.blk HP1.out id);clear hS1 hk;replace HQ0:=O HQ0;replace HQ1:=O HQ1;go_wp2_with fail;refine⟨hS2,?_⟩;refine wA9 13 ?_;obtain⟨w5,hw_w5,hk,hb,-⟩:=aT w4 #[.func (.func 131) #[.pointer (some ⟨a,0,none⟩)] #[],.func (.func 132) #[.pointer (some ⟨a,0,none⟩)] #[],.func (.func 187) #[] #[.pointer (some ⟨p0,0,none⟩),.pointer (some ⟨p1,0,none⟩)],.func (.func 188) #[] #[.pointer (some ⟨q0,0,none⟩),.pointer (some ⟨q1,0,none⟩)],.func (.func 135) #[.pointer (some ⟨a,0,none⟩)] #[]] 113;obtain⟨b23,hbs⟩:∃b,w4.heap.size=b:=⟨_,rfl⟩
 rw[hbs] at hb;have hS3:=HSI.out _ ((HSE.out _ hS2).trans hk.any);clear hS2;replace HL:=O (HL.out.new (fun _ hk=>HH.out.lt hk) hbs hk hb);have HBSb23:=O hbs;replace HH:=O (HH.out.keep hk fun _ h=>h.elim);replace HP0:=O (hk.blk HP0.out id);replace HP1:=O (hk.blk HP1.out id);replace HQ0:=O (hk.blk HQ0.out id);replace HQ1:=O (hk.blk HQ1.out id);clear hk hb hbs;go_wp2_with fail;clear hw_w5;rw[HBSb23.out];refine⟨hS3,?_⟩;refine wA9 14 ?_;go_wp2_with fail;have HFB:=O (HL.out.b 0)
 have HI:Hid (∀k wr,WJ w5 a dv dc D lv k wr->wr.heap[b23]?=some (.cells #[.func (.func 131) #[.pointer (some ⟨a,0,none⟩)] #[],.func (.func 132) #[.pointer (some ⟨a,0,none⟩)] #[],.func (.func 187) #[] #[.pointer (some ⟨p0,0,none⟩),.pointer (some ⟨p1,0,none⟩)],.func (.func 188) #[] #[.pointer (some ⟨q0,0,none⟩),.pointer (some ⟨q1,0,none⟩)],.func (.func 135) #[.pointer (some ⟨a,0,none⟩)] #[]] 113 (0,0))):=O (by
  rintro k wr (⟨-,hk⟩|⟨-,hk,-⟩)
  ·exact hk.blk HFB.out id
  ·exact hk.blk HFB.out (fun e=>(HL.out.aq 0) (.inl e)))
 have HCK:Hid (∀k,k<5->k≤5->∃G x,((#[.func (.func 131) #[.pointer (some ⟨a,0,none⟩)] #[],.func (.func 132) #[.pointer (some ⟨a,0,none⟩)] #[],.func (.func 187) #[] #[.pointer (some ⟨p0,0,none⟩),.pointer (some ⟨p1,0,none⟩)],.func (.func 188) #[] #[.pointer (some ⟨q0,0,none⟩),.pointer (some ⟨q1,0,none⟩)],.func (.func 135) #[.pointer (some ⟨a,0,none⟩)] #[]]:Array Value).getD k .nilFunc=.func (.func G) #[] x\/(#[.func (.func 131) #[.pointer (some ⟨a,0,none⟩)] #[],.func (.func 132) #[.pointer (some ⟨a,0,none⟩)] #[],.func (.func 187) #[] #[.pointer (some ⟨p0,0,none⟩),.pointer (some ⟨p1,0,none⟩)],.func (.func 188) #[] #[.pointer (some ⟨q0,0,none⟩),.pointer (some ⟨q1,0,none⟩)],.func (.func 135) #[.pointer (some ⟨a,0,none⟩)] #[]]:Array Value).getD k .nilFunc=.func (.func G) x #[])/\(∀w,Sem.run Tryz.prog (callFunc G x) w=.ok (.enter G x) w)/\∀wr,WJ w5 a dv dc D lv k wr->Calls Tryz.prog G x wr fun e w'=>e=.returned (.int .i64 0)/\WJ w5 a dv dc D lv (k+1) w'):=O (by
  intro k hk hm
  match k,hk,hm with
  | 0,_,_=>exact ckj (by decide) (.inr rfl) (fun w=>by rfl) fun wr k=>B4 (HH.out.keep k fun _ h=>h.elim)
  | 1,_,_=>exact ckj (by decide) (.inr rfl) (fun w=>by rfl) fun wr k=>B5 (HH.out.keep k fun _ h=>h.elim)
  | 2,_,_=>exact ckj (by decide) (.inl rfl) (fun w=>by rfl) fun wr k=>rki (by rw[HDB.out];rfl) (Eg (HH.out.keep k fun _ h=>h.elim) (d:Int) p0 p1 (k.blk HP0.out id) (k.blk HP1.out id))
  | 3,_,_=>exact ckj (by decide) (.inl rfl) (fun w=>by rfl) fun wr k=>qV (HH.out.keep k fun _ h=>h.elim) hd q0 q1 (k.blk HQ0.out id) (k.blk HQ1.out id)
  | 4,_,_ =>
    refine⟨135,#[.pointer (some ⟨a,0,none⟩)],.inr rfl,fun w=>by rfl,fun wr hw=>?_⟩;rcases hw with⟨-,k1⟩|⟨e,-⟩
    ·refine(CU (k1.blk HH.out.top id)).mono ?_
     rintro e w' ⟨h1,h2,h3⟩;exact⟨h1,.inr ⟨rfl,k1.trans' h2 (fun _ _ h=>h.elim) (fun _ _ h=>h),h3⟩⟩
    ·exact absurd e (by decide))
 refine(oR w5 (d:Int) b23 5 5 #[.func (.func 131) #[.pointer (some ⟨a,0,none⟩)] #[],.func (.func 132) #[.pointer (some ⟨a,0,none⟩)] #[],.func (.func 187) #[] #[.pointer (some ⟨p0,0,none⟩),.pointer (some ⟨p1,0,none⟩)],.func (.func 188) #[] #[.pointer (some ⟨q0,0,none⟩),.pointer (some ⟨q1,0,none⟩)],.func (.func 135) #[.pointer (some ⟨a,0,none⟩)] #[]] (fun _=>0) (WJ w5 a dv dc D lv) (by decide) (by decide) HI.out (by intro k hk;match k,hk with
  | 0,_=>rfl
  | 1,_=>rfl
  | 2,_=>rfl
  | 3,_=>rfl
  | 4,_=>rfl) (.inl ⟨by decide,aA.refl _ _⟩) (fun _ _=>rfl) (fun h=>absurd h (by decide)) HCK.out).mono ?_
 rintro e w6 ⟨h1,h2,hwi⟩;clear HCK HFB HI HP0 HP1 HQ0 HQ1;obtain rfl:=h1 rfl
 obtain⟨hk,st',htop⟩:aA (fun i=>i=a) w5 w6/\∃st',w6.heap[a]?=some (.cells #[.slice (some ⟨dv,0,none⟩) D dc,lv,.int .i64 (-1),.bool false,.int .i64 st'] eW (0,0)):=by
  rcases hwi with⟨h6,-⟩|⟨-,h6⟩
  ·exact absurd h6 (by decide)
  ·exact h6
 have hkB:aA (dQ a dv lv f D) w5 w6:=hk.mono fun _ _ e=>.inl e
 have hS4:=HSI.out _ ((HSE.out _ hS3).trans hkB);replace HL:=O (HL.out.turn (B:=(dQ a dv lv f D)) (B':=(dQ a dv lv f D)) hkB (fun _ _ h=>h) (fun _ _ h=>h));replace HH:=O (HH.out.top2 hk htop);clear h1 h2 hwi hk hkB htop hS3;go_wp2_with fail;refine⟨hS4,?_⟩;refine tna 15 .nilIface rfl hS4 ?_;refine wpAnyH_done (by kernel_rfl) ?_ _;clear hS4 HSE HSI HLs HHs;obtain⟨n,hn_⟩:∃n,W.length=n:=⟨_,rfl⟩
 have HN:=O hn_;have HLN:Hid (lv=.slice p2 n cap2):=O (by rw[←hn_];exact HLV.out);have hnn:W.length<100000000000:=by rw[HW.out];exact hn
 clear hn_;have c1:w6.cell? ⟨a,1,none⟩=some (.slice p2 n cap2):=(by rw[←HLN.out];exact aC (i:=1) HH.out.top rfl)
 go_wp2_with fail;clear c1;have HKX:=O HL.out.keep.size;have hr:=Rd.of_owns HH.out.loose;rw[HLV.out] at hr;have HPT:=BI w6 W d p2 cap2 hr HH.out.wok hnn b3 (HL.out.b 1);rw[HN.out] at HPT;clear hr;refine(HPT).mono ?_;rintro e w7 ⟨yv,nv,rfl,hoy,hon,hk⟩;replace HL:=kL HL hk;replace HH:=O (HH.out.keep hk fun _ h=>h.elim);clear hk;obtain⟨Y,hY⟩:∃l,(W.filter fun x=>decide (x.dev=d))=l:=⟨_,rfl⟩
 obtain⟨N,hN⟩:∃l,(W.filter fun x=>!decide (x.dev=d))=l:=⟨_,rfl⟩
 rw[hY] at hoy;rw[hN] at hon;obtain⟨py,cy,rfl,-,-⟩:=(Rd.of_owns hoy).form;obtain⟨pn,cn,rfl,-,-⟩:=(Rd.of_owns hon).form;have HYE:=O hY;have HNE:=O hN;obtain⟨my,hmy⟩:∃n,Y.length=n:=⟨_,rfl⟩
 obtain⟨mn,hmn⟩:∃n,N.length=n:=⟨_,rfl⟩
 have HMY:=O hmy;have HMN:=O hmn;have hmx:my≤maxLen:=by obtain⟨_,a',c',h1,h2,h3,-⟩:=Rd.of_owns hoy;omega
 unfold maxLen at hmx;rw[hmy] at hoy;rw[hmn] at hon;rw[hmy,hmn];have HOY:=O hoy;have HON:=O hon;clear hY hN hmy hmn hoy hon;go_wp2_with fail;obtain⟨B0,hB0⟩:∃B0,w7.heap.size=B0:=⟨_,rfl⟩
 have HLb:=O HL.out.tail
 have HYW:Hid (∀y∈Y,y.dev=d/\y.b.length=256/\y.at_<Z):=O (by
  intro y hy;rw[←HYE.out,List.mem_filter] at hy;have:=HH.out.wok y hy.1;exact⟨by simpa using hy.2,this.1,this.2.2⟩)
 have HH0:=O (show bP w7 a dv dc lv st' f (nD F d (Y.take 0)) W D Z from by
  have e:nD F d (Y.take 0)=F:=by funext d' s';unfold nD;split<;>rfl
  rw[e];exact HH.out)
 go_loopw [40] (fun i wr=>∃k:Nat,k≤my/\i=.int .i64 k/\Hid (Loc (dQ a dv lv f D) (dQ a dv lv f D) w wr [(b3,#[.int .i64 (d:Int)],3)])/\Hid (bP wr a dv dc lv st' f (nD F d (Y.take k)) W D Z)/\Hid (wr.ownsRow w.heap.size WrT 258 (.slice py my cy) my (cZ Y))/\Hid (wr.ownsRow w.heap.size WrT 258 (.slice pn mn cn) mn (cZ N))) (fun i _=>my-(intOf i).toNat)
 case atStart=>exact⟨0,by omega,rfl,HLb,HH0,O (aV HOY.out HKX.out),O (aV HON.out HKX.out)⟩
 case round =>
  clear HL HH HOY HON HLb HH0;obtain⟨k,hk,rfl,HL,HH,HOY,HON⟩:=hrel
  by_cases hk8:k<my
  ·obtain⟨x,hx⟩:∃x,Y[k]?=some x:=⟨Y[k]'(by rw[HMY.out];exact hk8),List.getElem?_eq_getElem _⟩
   have hxy:=HYW.out x (List.mem_of_getElem? hx);have hYok:vJ D Z Y:=fun y hy=>by have:=HYW.out y hy;exact⟨this.2.1,by omega,this.2.2⟩
   obtain⟨g,o,rfl,hat⟩:=Lz (by have:=Rd.of_owns HOY.out;exact this) hYok hx;have HX:=O hat;have HXX:=O hx;have hlx:=kU hxy.2.1;have hxb:(x.b.map vb).length=256:=by rw[List.length_map];exact hxy.2.1
   have hxd:=hxy.1;have hxa:(x.at_:Int)<(Z:Int):=by omega
   have hxa2:x.at_<Z:=hxy.2.2;have hxa0:(0:Int)≤(x.at_:Int):=by omega
   have hk0:(0:Int)≤(k:Int):=by omega
   have hk1:(k:Int)<(my:Int):=by omega
   have hfd:(dQ a dv lv f D) (f d):=.inr (.inr (.inr ⟨d,hd,rfl⟩))
   have hnwr:∀i,(Value.slice (some ⟨g,o,none⟩) my cy).ownBlock=some i->¬i=f d:=fun i hi e=>by
    obtain⟨cur,hc⟩:=aL HOY.out hi;have hc2:=HH.out.firm d hd;rw[←e,hc] at hc2;simp[WrT,gP] at hc2
   have hnwn:∀i,(Value.slice pn mn cn).ownBlock=some i->¬i=f d:=fun i hi e=>by
    obtain⟨cur,hc⟩:=aL HON.out hi;have hc2:=HH.out.firm d hd;rw[←e,hc] at hc2;simp[WrT,gP] at hc2
   clear hat hx hxy hYok
   go_wp2_with ((with_reducible show WL _ _);first
    | refine wpList_load_mid rfl 212 (.tmp 42) rfl g (o+k*258) rfl (dU x) _ HX.out oX rfl (by rw[hlx];exact jY) ?_
    | refine al 212 (.agg fU.toArray) (fU.toArray) Aj ?_)
   intro b9 w8 hbs hk0 hb0_
   go_wp2_with ((with_reducible show WL _ _);refine sta 212 (.tmp 9) (.tmp 43) b9 0 (dU x) hb0_ (by first|decide|(rw[List.size_toArray,hlx];exact Nat.le_refl _)|simp[hlx,iP]) (by rw[hlx];exact jY) (sJ x) ?_)
   intro w9 hk hb;rw[aI _ _ (by first|rfl|(rw[List.size_toArray,hlx];rfl)|simp[hlx,iP])] at hb;replace hk:=tX hk0 hk (fun i hi e=>by omega);replace HL:=O (HL.out.new (fun _ hk=>HH.out.lt hk) hbs hk hb);replace HX:=O (hk.rangeAt HX.out);replace HH:=O (HH.out.keep hk fun _ h=>h.elim);replace HOY:=O (hk.owns HOY.out fun _ _=>id);replace HON:=O (hk.owns HON.out fun _ _=>id);clear hbs hk hb hk0 hb0_;clear HX;go_wp2_with fail;go_wp2_with fail;refine dwA (fun k=>k=f d) (by kernel_rfl) ?_;intro wa S HSE HSI hS hkd;replace HL:=kL HL hkd;replace HH:=O (HH.out.keep hkd fun _ h=>h.elim);replace HOY:=O (hkd.owns HOY.out fun _ _=>id);replace HON:=O (hkd.owns HON.out fun _ _=>id);clear hkd;have HLs:=HL;have HHs:=HH;have HOYs:=HOY;have HONs:=HON;refine tna 0 (.pointer (some ⟨a,0,none⟩)) rfl hS ?_;refine tnb 1 (.pointer (some ⟨a,0,none⟩)) rfl hS ?_;refine tnb 2 (.pointer (some ⟨a,0,none⟩)) rfl hS ?_;refine tnd 3 (.slice (some ⟨dv,0,none⟩) D dc) rfl (.inl ⟨by rfl,fun w' hw'=>by have c:=(HSE.out w' hw').cell (aC (i:=0) HHs.out.top rfl) (HHs.out.ne.2.1 d hd);go_simp⟩) hS ?_;refine tnd 4 (.int .i64 (d:Int)) rfl (.inl ⟨by rfl,fun w' hw'=>by have c:=aC (i:=0) ((HSE.out w' hw').blk (HLs.out.b 1) (HLs.out.nin hfd 1)) rfl;go_simp⟩) hS ?_;refine tnb 5 (.pointer (some ⟨dv,d*5,none⟩)) rfl hS ?_;refine tnb 6 (.pointer (some ⟨dv,d*5,none⟩)) rfl hS ?_;refine tnd 7 (.slice (some ⟨f d,0,none⟩) Z Z) rfl (.inl ⟨by rfl,fun w' hw'=>by have c:=(HSE.out w' hw').cell (show World.cell? _ ⟨dv,d*5,none⟩=some (.slice (some ⟨f d,0,none⟩) Z Z) from HHs.out.dev hd 0 _ rfl) (HHs.out.ne3 d hd);go_simp⟩) hS ?_;refine tnb 8 (.pointer (some ⟨b9,1,none⟩)) rfl hS ?_;refine tnd 9 (.int .i64 (x.at_:Int)) rfl (.inl ⟨by rfl,fun w' hw'=>by have c:=(aC (i:=1) ((HSE.out w' hw').blk (HLs.out.b 0) (HLs.out.nin hfd 0)) (by rw[List.getElem?_toArray];rfl));go_simp⟩) hS ?_;refine tnb 10 (.pointer (some ⟨b9,2,none⟩)) rfl hS ?_;refine tnd 11 (.agg (x.b.map vb).toArray) rfl (yieldsIf_load_mid (by rfl) 210 (.tmp 54) rfl b9 2 rfl (x.b.map vb) _ (fun w' h=>(CR ((HSE.out w' h).blk (HLs.out.b 0) (HLs.out.nin hfd 0)))) Tryz.underlying210 rfl (by rw[hxb];exact kV)) hS ?_;refine tnb 12 (.pointer (some ⟨f d,x.at_*256,none⟩)) rfl hS ?_;refine wA9 13 ?_;refine sta gP (.tmp 56) (.tmp 55) (f d) (x.at_*256) (x.b.map vb) (HH.out.firm d hd) (by rw[hxb,List.size_toArray,uK fun t ht=>HH.out.fok d t hd ht];omega) (by rw[hxb];exact kV) (bN _) ?_;intro wb hk hb;rw[CX _ hxa2 x.b (by rw[←List.length_map (f:=vb)];exact hxb) fun t ht=>HH.out.fok d t hd ht] at hb;have hS1:=HSI.out _ ((HSE.out _ hS).trans hk);have HT:=O (HH.out.turn hd hxa2 (by rw[←List.length_map (f:=vb)];exact hxb) hk hb);rw[Ir F d (Y.take k) x hxd,show Y.take k++[x]=Y.take (k+1) by rw[List.take_add_one,HXX.out];rfl] at HT;replace HL:=O (HL.out.turn (B:=(dQ a dv lv f D)) (B':=(dQ a dv lv f D)) (hk.mono fun _ _ e=>e▸hfd) (fun _ _ h=>h) (fun _ _ h=>h));replace HOY:=O (hk.owns HOY.out hnwr);replace HON:=O (hk.owns HON.out hnwn);clear hk hb hS;refine wpList_nil ?_;refine⟨hS1,?_⟩;refine wpAnyH_done (by kernel_rfl) ?_ _;clear hS1 HSE HSI HLs HHs HOYs HONs;clear HH;go_wp2
   go_roundw
   case rel=>exact⟨k+1,by omega,by go_num,O HL.out.tail,HT,HOY,HON⟩
   case measure=>simp[intOf];omega
  ·obtain rfl:my=k:=by omega
   rw[List.take_of_length_le (by rw[HMY.out];exact Nat.le_refl _)] at HH;have HTOP:=O HH.out.top
   go_wp2_with ((with_reducible show WL _ _);refine sta 141 (.tmp 61) (.tmp 59) a 1 [.slice pn mn cn] HTOP.out (by simp) (by kernel_rfl) (one9) ?_)
   intro w9 hk9 hb9;replace hb9:w9.heap[a]?=some (.cells #[.slice (some ⟨dv,0,none⟩) D dc,.slice pn mn cn,.int .i64 (-1),.bool false,.int .i64 st'] eW (0,0)):=hb9
   have HP:Hid (AY w a (dQ a dv lv f D) D Z M nw (.returned (.int .i64 0)) w9):=O (by
    have h:=HH.out;refine⟨rfl,dQ a dv (.slice pn mn cn) f D,mn,⟨dv,dc,_,st',f,nD F d Y,N,⟨hb9,?_,?_,h.inj,?_,?_,h.fok,h.bd⟩,rfl,HMN.out,?_⟩,?_,?_,?_⟩
    ·exact hk9.owns h.devs fun i hi e=>h.ne.1 (by cases hi;exact e.symm)
    ·exact fun e he=>hk9.blk (h.firm e he) fun e2=>h.ne.2.1 e he e2.symm
    ·rw[HMN.out]
     refine hk9.owns (aV HON.out (Nat.zero_le _)) fun i hi e=>?_
     obtain⟨cur,hc⟩:=aL HON.out hi;have hc2:=h.top;rw[←e,hc] at hc2;simp[WrT,eW] at hc2
    ·intro y hy
     rw[←HNE.out,List.mem_filter] at hy;exact h.wok y hy.1
    ·intro d' s' h1 h2
     rw[←HNE.out,←HYE.out,Km];exact HM.out d' s' h1 h2
    ·rw[←HMN.out,←HNE.out,←HW.out]
     exact List.length_filter_le _ _
    ·rintro k (rfl|rfl|hk|hk)
     ·exact .inl (.inl rfl)
     ·exact .inl (.inr (.inl rfl))
     ·exact .inr (aS HON.out hk)
     ·exact .inl (.inr (.inr (.inr hk)))
    ·exact HL.out.keep.trans (hk9.mono fun _ _ e=>.inl e))
   clear hk9 hb9;go_wp2;go_ret;exact HP.out
def zB:List UInt8:=List.replicate 256 0
theorem CY(Z:Nat):(madeCells dB.toArray (Z*256)).toList=dA (fun _=>zB) Z:=by
 have hl:(dA (fun _=>zB) Z).length=Z*256:=uK fun s hs=>rfl
 apply List.ext_getElem?;intro j
 by_cases hj:j<Z*256
 ·obtain⟨q,r,rfl,hr⟩:∃q r,j=q*256+r/\r<256:=⟨j / 256,j % 256,by omega,by omega⟩
  have hq:q<Z:=by omega
  have e2:(dA (fun _=>zB) Z)[q*256+r]?=some (.int .u8 0):=fT (c:=fun _=>zB.map vb) (n:=256) (l:=List.range Z) (fun x hx=>rfl) (iG hq) (by
   have:zB.map vb=List.replicate 256 (.int .u8 0):=by rfl
   rw[this,List.getElem?_replicate,if_pos hr])
  rw[e2];unfold madeCells;rw[Array.getElem?_toList,Array.getElem?_map,Array.getElem?_range,if_pos hj];have hz:dB.toArray.size=256:=rfl;show some (dB.toArray[(q*256+r) % dB.toArray.size]!)=_;rw[hz,show (q*256+r) % 256=r by omega]
  have:dB.toArray[r]?=some (.int .u8 0):=by
   unfold dB;rw[List.getElem?_toArray,List.getElem?_replicate,if_pos hr]
  rw[getElem!_def,this]
 ·rw[List.getElem?_eq_none (by rw[Array.length_toList,size_madeCells];omega),List.getElem?_eq_none (by omega)]
theorem BJ(f:Nat->Nat)(Z k g:Nat):gO (fun d=>if d=k then g else f d) Z (k+1)=gO f Z k++[.slice (some ⟨g,0,none⟩) Z Z,.bool false,.int .u8 0,.int .i64 0,.int .i64 0]:=by
 unfold gO;rw[List.range_succ,List.flatMap_append]
 congr 1
 ·rw[List.flatMap_def,List.flatMap_def]
  congr 1
  refine List.map_congr_left fun d hd=>?_
  have:=List.mem_range.1 hd;show ([.slice (some ⟨if d=k then g else f d,0,none⟩) Z Z,.bool false,.int .u8 0,.int .i64 0,.int .i64 0]:List Value)=_;rw[if_neg (by omega)];rfl
 ·simp[yO]
structure NwI(w wr:World)(a k Z:Nat)(p:Option Addr)(c:Nat)(f:Nat->Nat):Prop where
 top:wr.heap[a]?=some (.cells #[.slice p k c,.slice none 0 0,.int .i64 (-1),.bool false,.int .i64 0] eW (0,0))
 own:wr.ownsRow w.heap.size fF 5 (.slice p k c) k (gO f Z k)
 firm:∀d,d<k->wr.heap[f d]?=some (.cells (dA (fun _=>zB) Z).toArray gP (0,0))
 inj:∀d e,d<k->e<k->f d=f e->d=e
 ge:w.heap.size≤a/\∀d,d<k->w.heap.size≤f d
 keep:aA aB w wr
theorem NwI.next{w wr wm we w8 w9:World}{a k Z g c g2 c2:Nat}{p:Option Addr}{f:Nat->Nat}(h:NwI w wr a k Z p c f)(hg:wr.heap.size=g)(k1:aA aB wr wm)(hm:wm.heap[g]?=some (.cells (dA (fun _=>zB) Z).toArray gP (0,0)))(k2:aA aB wm we)
 (ho:w8.ownsRow w.heap.size fF 5 (.slice (some ⟨g2,0,none⟩) (k+1) c2) (k+1) (gO f Z k++[.slice (some ⟨g,0,none⟩) Z Z,.bool false,.int .u8 0,.int .i64 0,.int .i64 0])) (k3:aA (fun i=>(Value.slice p k c).ownBlock=some i) we w8)
 (hb:(Value.slice (some ⟨g2,0,none⟩) (k+1) c2).ownBlock=(Value.slice p k c).ownBlock\/(Value.slice (some ⟨g2,0,none⟩) (k+1) c2).ownBlock=some we.heap.size)
 (k4:aA (fun i=>i=a) w8 w9) (ht:w9.heap[a]?=some (.cells #[.slice (some ⟨g2,0,none⟩) (k+1) c2,.slice none 0 0,.int .i64 (-1),.bool false,.int .i64 0] eW (0,0))):NwI w w9 a (k+1) Z (some ⟨g2,0,none⟩) c2 (fun d=>if d=k then g else f d):=by
 have hty:∀i,(Value.slice p k c).ownBlock=some i->i≠g/\∀d,d<k->i≠f d:=fun i hi=>by
  obtain⟨cur,hc⟩:=aL h.own hi;refine⟨fun e=>?_,fun d hd e=>?_⟩
  ·have:=lt_of_block hc;omega
  ·have:=h.firm d hd
   rw[←e,hc] at this;simp[fF,gP] at this
 have hag:a≠g:=fun e=>by have:=lt_of_block h.top;omega
 have haf:∀d,d<k->a≠f d:=fun d hd e=>by
  have:=h.firm d hd;rw[←e,h.top] at this;simp[eW,gP] at this
 have hg8:w9.heap[g]?=some (.cells (dA (fun _=>zB) Z).toArray gP (0,0)):=k4.blk (k3.blk (k2.blk hm id) fun e=>(hty g e).1 rfl) fun e=>hag e.symm
 have hf8:∀d,d<k->w9.heap[f d]?=some (.cells (dA (fun _=>zB) Z).toArray gP (0,0)):=fun d hd=>k4.blk (k3.blk (k2.blk (k1.blk (h.firm d hd) id) id) fun e=>(hty _ e).2 d hd rfl) fun e=>haf d hd e.symm
 have hga:g2≠a:=by
  intro e;obtain⟨cur,hc⟩:=aL ho (k:=g2) rfl
  have h8:w8.heap[a]?=some (.cells #[.slice p k c,.slice none 0 0,.int .i64 (-1),.bool false,.int .i64 0] eW (0,0)):=k3.blk (k2.blk (k1.blk h.top id) id) fun e2=>by
   obtain⟨cur,hc⟩:=aL h.own e2;rw[h.top] at hc;simp[eW,fF] at hc
  rw[e,h8] at hc;simp[eW,fF] at hc
 have hlt:∀d,d<k->f d<g:=fun d hd=>by have:=lt_of_block (h.firm d hd);omega
 refine⟨ht,?_,?_,?_,⟨h.ge.1,?_⟩,?_⟩
 ·rw[BJ]
  exact k4.owns ho fun i hi e=>hga (by cases hi;exact e)
 ·intro d hd
  by_cases e:d=k
  ·rw[if_pos e];exact hg8
  ·rw[if_neg e];exact hf8 d (by omega)
 ·intro d e hd he hde
  by_cases e1:d=k
  ·by_cases e2:e=k
   ·omega
   ·rw[if_pos e1,if_neg e2] at hde
    have:=hlt e (by omega);omega
  ·by_cases e2:e=k
   ·rw[if_neg e1,if_pos e2] at hde
    have:=hlt d (by omega);omega
   ·rw[if_neg e1,if_neg e2] at hde
    exact h.inj d e (by omega) (by omega) hde
 ·intro d hd
  by_cases e:d=k
  ·rw[if_pos e];have:=h.keep.size;omega
  ·rw[if_neg e];exact h.ge.2 d (by omega)
 ·have ka:=((h.keep.trans k1).trans k2).trans' k3 (U:=aB) (fun _ _ h=>h) fun i hi e=>by have:=aS h.own e;omega
  exact ka.trans' k4 (fun _ _ h=>h) fun i hi e=>by have:=h.ge.1;omega
def CZ(w:World)(D Z:Nat)(e:Ending)(w':World):Prop:=∃a B,e=.returned (.tuple #[.pointer (some ⟨a,0,none⟩),.int .i64 0])/\bM w' a B D Z (fun _ _=>zB) 0/\(∀k,B k->w.heap.size≤k)/\aA aB w w'
theorem oY:(Tryz.prog.info? fF).map (fun i=>(i.zero,i.size,i.bytes))=some (some (.agg #[.slice none 0 0,.bool false,.int .u8 0,.int .i64 0,.int .i64 0]),5,48):=by kernel_rfl
theorem Mh:∃i,Tryz.prog.info? gP=some i/\i.zero=some (.agg dB.toArray)/\i.size=256/\i.bytes=256:=by
 have h:(Tryz.prog.info? gP).map (fun i=>(i.zero,i.size,i.bytes))=some (some (.agg dB.toArray),256,256):=by kernel_rfl
 obtain⟨i,hi,he⟩:=Option.map_eq_some_iff.1 h;injection he with h1 h2
 injection h2 with h2 h3
 exact⟨i,hi,h1,h2,h3⟩
theorem C3(g Z:Nat)(w:World):(Instr.build fF #[(0,.slice (some ⟨g,0,none⟩) Z Z)]).run Tryz.prog w=.ok (.agg ([.slice (some ⟨g,0,none⟩) Z Z,.bool false,.int .u8 0,.int .i64 0,.int .i64 0]:List Value).toArray) w:=by kernel_rfl
theorem Kn(w:World):(Instr.build eW #[(2,.int .i64 (-1))]).run Tryz.prog w=.ok (.agg #[.slice none 0 0,.slice none 0 0,.int .i64 (-1),.bool false,.int .i64 0]) w:=by kernel_rfl
theorem Ko(w:World)(D Z:Nat)(hb:2≤D/\D≤8/\8≤Z/\Z≤4096):Calls Tryz.prog 43 #[.int .i64 (D:Int),.int .i64 (Z:Int)] w (CZ w D Z):=by
 have HBD:=O hb;obtain⟨h1,h2,h3,h4⟩:=hb;have e1:¬((D:Int)<2):=by omega
 have e2:¬(8<(D:Int)):=by omega
 have e3:¬((Z:Int)<8):=by omega
 have e4:¬(4096<(Z:Int)):=by omega
 have HL:=lN w;have hbA:=Kn;go_in;obtain⟨w1,hw1,hk1,hb1,hs1⟩:=aT w #[.slice none 0 0,.slice none 0 0,.int .i64 (-1),.bool false,.int .i64 0] eW;obtain⟨a,ha⟩:∃a,w.heap.size=a:=⟨_,rfl⟩
 rw[ha] at hb1;have HA:=O ha;have H0:Hid (NwI w w1 a 0 Z none 0 fun _=>0):=O ⟨hb1,World.ownsRow_nil _ _ _ _,fun d hd=>absurd hd (by omega),fun d e hd=>absurd hd (by omega),⟨by omega,fun d hd=>absurd hd (by omega)⟩,hk1⟩;clear hb1 hk1 hs1 h1 h2 h3 h4;go_wp2_with fail;clear hw1 hbA e1 e2 e3 e4
 try rw[ha]
 clear ha
 go_loopw [24] (fun i wr=>∃(k:Nat) (p:Option Addr) (c:Nat) (f:Nat->Nat),k≤D/\i=.int .i64 k/\Hid (NwI w wr a k Z p c f)) (fun i _=>D-(intOf i).toNat)
 case atStart=>exact⟨0,none,0,fun _=>0,by omega,rfl,H0⟩
 case round =>
  clear H0;obtain⟨k,p,c,f,hk,rfl,HI⟩:=hrel
  by_cases hk8:k<D
  ·have hD8:=HBD.out.2.1
   have hZ4:=HBD.out.2.2.2;have hk0:(0:Int)≤(k:Int):=by omega
   have hk1:(k:Int)<(D:Int):=by omega
   go_wp2_with fail;obtain⟨S,hS0⟩:∃S:World->Prop,S=fun _=>True:=⟨_,rfl⟩
   have HS:Hid (∀w,S w):=O (fun w=>by rw[hS0];trivial);clear hS0;refine wp_region_held (S:=S) (by kernel_rfl) ?_;change wpAnyH _ _ _ _ _ _ _ _ wr.drew;have hkd:=(aA.refl aB wr).drew;have hS:=HS.out wr.drew;generalize wr.drew=wd at hkd hS ⊢;have HI2:Hid (NwI w wd a k Z p c f):=O ⟨hkd.blk HI.out.top id,hkd.owns HI.out.own fun _ _=>id,fun d hd=>hkd.blk (HI.out.firm d hd) id,HI.out.inj,HI.out.ge,HI.out.keep.trans hkd⟩;clear hkd HI;obtain⟨g,hg⟩:∃g,wd.heap.size=g:=⟨_,rfl⟩
   have HG:=O hg;clear hg;refine tna 0 (.pointer (some ⟨a,0,none⟩)) rfl hS ?_;refine tna 1 (.pointer (some ⟨a,0,none⟩)) rfl hS ?_;refine tnb 2 (.pointer (some ⟨a,0,none⟩)) rfl hS ?_;refine tnb 3 (.pointer (some ⟨a,0,none⟩)) rfl hS ?_;refine tna 5 (.int .i64 (Z:Int)) rfl hS ?_;obtain⟨i,hi,hi1,hi2,hi3⟩:=Mh;refine gH (k:=4) (l:=6) rfl rfl (by kernel_rfl) ?_ ?_
   ·have c0:wd.cell? ⟨a,0,none⟩=some (.slice p k c):=aC HI2.out.top rfl
    go_wp2_with fail;refine⟨HS.out _,?_⟩;clear c0;refine wA9 6 ?_;refine wpList_make_full wd rfl (.tmp 31) (.tmp 31) 144 rfl 0 gP i _ 256 Tryz.underlying144 hi hi1 hi2 .i64 .i64 (Z:Int) (Z:Int) Z rfl rfl rfl rfl (by rw[hi3];omega) (by unfold maxLen;omega) (Nat.zero_le _) ?_;intro wm hom hgm;have hkm:=aA.of_grown hgm;replace hkm:aA aB wd wm:=hkm.mono fun _ _ h=>by cases h
    rw[HG.out] at hom ⊢
    have hbm:wm.heap[g]?=some (.cells (dA (fun _=>zB) Z).toArray gP (0,0)):=by
     rcases hom.2 with⟨e,-⟩|⟨g',cap,cur,e,-,hb,h1,h2,h3,h4⟩
     ·cases e
     ·cases e
      have:cur.toList=dA (fun _=>zB) Z:=by
       rw[←CY];rw[List.take_of_length_le (by rw[Array.length_toList,h3];exact Nat.le_refl _)] at h4;exact h4
      rw[←this];exact hb
    have HKM:=O hkm;have HBM:=O hbm;have HTM:=O (hkm.blk HI2.out.top id);have HOM:=O (hkm.owns HI2.out.own fun _ _=>id);clear hom hgm hkm hbm;refine wpList_nil ?_;refine⟨HS.out _,?_⟩;refine tnd 7 (.agg ([.slice (some ⟨g,0,none⟩) Z Z,.bool false,.int .u8 0,.int .i64 0,.int .i64 0]:List Value).toArray) rfl (fA fF #[(0,.tmp 32)] [(0,.slice (some ⟨g,0,none⟩) Z Z)] _ (C3 g Z)) (HS.out _) ?_;obtain⟨dc,hdc⟩:∃l,([.slice (some ⟨g,0,none⟩) Z Z,.bool false,.int .u8 0,.int .i64 0,.int .i64 0]:List Value)=l:=⟨_,rfl⟩
    rw[hdc];have HDC:=O hdc;have hdn:dc.length=5:=by rw[←hdc];rfl
    have HOC:Hid (∀u∈dc,u.oneCell'=true):=O (by rw[←hdc];intro u hu;simp only[List.mem_cons,List.not_mem_nil,or_false] at hu;rcases hu with rfl|rfl|rfl|rfl|rfl<;>rfl);obtain⟨we,hwe,hke,hbe,-⟩:=aT wm dc.toArray fF;obtain⟨bx,hbx⟩:∃x,wm.heap.size=x:=⟨_,rfl⟩
    rw[hbx] at hbe;have HRN:Hid (Rd we 5 (.slice (some ⟨bx,0,none⟩) 1 1) 1 dc):=O (eE (n:=1) (size:=5) hbe (by rw[hdn]) (by unfold maxLen;omega));have HKE:=O hke;have HTE:=O (hke.blk HTM.out id);have HOE:=O (hke.owns HOM.out fun _ _=>id);have hze:=hke.size;clear hbe hke hdc;refine wA9 8 ?_;refine cC rfl 140 fF (.tmp 33) rfl Tryz.underlying140 oY (by decide) dc hdn (by decide) rfl ?_;rw[hwe,hbx];clear hwe hbx;refine wpList_nil ?_;refine⟨HS.out _,?_⟩;have hbase:w.heap.size≤we.heap.size:=by have h1:=HI2.out.keep.size;have h2:=HKM.out.size;omega
    refine wA9 9 ?_;refine aN rfl (.tmp 30) (.tmp 34) 140 rfl w.heap.size fF _ 5 48 Tryz.underlying140 oY rfl (by decide) (.slice p k c) k (gO f Z k) rfl HOE.out (.slice (some ⟨bx,0,none⟩) 1 1) 1 dc rfl HRN.out HOC.out (by unfold maxLen;omega) (by omega) hbase ?_;intro v' w8 ho5 hk5 hn5 hb5;obtain⟨g2,c2,rfl⟩:=ownsRow_succ ho5
    have HT8:=O (hk5.blk HTE.out fun e=>by
     obtain⟨cur,hc⟩:=aL HOE.out e;rw[HTE.out] at hc;simp[eW,fF] at hc)
    rw[←HDC.out] at ho5;have HO5:=O ho5;have HK5:=O hk5;have HB5:=O hb5;clear ho5 hk5 hn5 hb5;refine wpList_nil ?_;refine⟨HS.out _,?_⟩;refine tnb 10 (.pointer (some ⟨a,0,none⟩)) rfl (HS.out _) ?_;refine tnb 11 (.pointer (some ⟨a,0,none⟩)) rfl (HS.out _) ?_;refine wA9 12 ?_;refine sta 140 (.tmp 37) (.tmp 35) a 0 [.slice (some ⟨g2,0,none⟩) (k+1) c2] HT8.out (by simp) (by kernel_rfl) (one9) ?_;intro w9 hk9 hb9;have HN:=O (HI2.out.next HG.out HKM.out HBM.out HKE.out HO5.out HK5.out HB5.out hk9 hb9);clear hk9 hb9;refine wpList_nil ?_;refine⟨HS.out _,?_⟩;refine wpAnyH_done (by kernel_rfl) ?_ _;clear HS;go_wp2
    go_roundw
    case rel=>exact⟨k+1,_,_,_,by omega,by go_num,HN⟩
    case measure=>simp[intOf];omega
   ·refine wpList_make_full wd rfl (.tmp 31) (.tmp 31) 144 rfl 0 gP i _ 256 Tryz.underlying144 hi hi1 hi2 .i64 .i64 (Z:Int) (Z:Int) Z rfl rfl rfl rfl (by rw[hi3];omega) (by unfold maxLen;omega) (Nat.zero_le _) ?_
    intro wm hom hgm;have hkm:=aA.of_grown hgm;replace hkm:aA aB wd wm:=hkm.mono fun _ _ h=>by cases h
    rw[HG.out] at hom ⊢
    have hbm:wm.heap[g]?=some (.cells (dA (fun _=>zB) Z).toArray gP (0,0)):=by
     rcases hom.2 with⟨e,-⟩|⟨g',cap,cur,e,-,hb,h1,h2,h3,h4⟩
     ·cases e
     ·cases e
      have:cur.toList=dA (fun _=>zB) Z:=by
       rw[←CY];rw[List.take_of_length_le (by rw[Array.length_toList,h3];exact Nat.le_refl _)] at h4;exact h4
      rw[←this];exact hb
    have HKM:=O hkm;have HBM:=O hbm;have HTM:=O (hkm.blk HI2.out.top id);have HOM:=O (hkm.owns HI2.out.own fun _ _=>id);clear hom hgm hkm hbm;refine wpList_nil ?_;refine⟨HS.out _,?_⟩;refine tnd 7 (.agg ([.slice (some ⟨g,0,none⟩) Z Z,.bool false,.int .u8 0,.int .i64 0,.int .i64 0]:List Value).toArray) rfl (fA fF #[(0,.tmp 32)] [(0,.slice (some ⟨g,0,none⟩) Z Z)] _ (C3 g Z)) (HS.out _) ?_;obtain⟨dc,hdc⟩:∃l,([.slice (some ⟨g,0,none⟩) Z Z,.bool false,.int .u8 0,.int .i64 0,.int .i64 0]:List Value)=l:=⟨_,rfl⟩
    rw[hdc];have HDC:=O hdc;have hdn:dc.length=5:=by rw[←hdc];rfl
    have HOC:Hid (∀u∈dc,u.oneCell'=true):=O (by rw[←hdc];intro u hu;simp only[List.mem_cons,List.not_mem_nil,or_false] at hu;rcases hu with rfl|rfl|rfl|rfl|rfl<;>rfl);obtain⟨we,hwe,hke,hbe,-⟩:=aT wm dc.toArray fF;obtain⟨bx,hbx⟩:∃x,wm.heap.size=x:=⟨_,rfl⟩
    rw[hbx] at hbe;have HRN:Hid (Rd we 5 (.slice (some ⟨bx,0,none⟩) 1 1) 1 dc):=O (eE (n:=1) (size:=5) hbe (by rw[hdn]) (by unfold maxLen;omega));have HKE:=O hke;have HTE:=O (hke.blk HTM.out id);have HOE:=O (hke.owns HOM.out fun _ _=>id);have hze:=hke.size;clear hbe hke hdc;refine gH (k:=4) (l:=8) rfl rfl (by kernel_rfl) ?_ ?_
    ·have c0:wm.cell? ⟨a,0,none⟩=some (.slice p k c):=aC HTM.out rfl
     go_wp2_with fail;refine⟨HS.out _,?_⟩;clear c0;refine wA9 8 ?_;refine cC rfl 140 fF (.tmp 33) rfl Tryz.underlying140 oY (by decide) dc hdn (by decide) rfl ?_;rw[hwe,hbx];clear hwe hbx;refine wpList_nil ?_;refine⟨HS.out _,?_⟩;have hbase:w.heap.size≤we.heap.size:=by have h1:=HI2.out.keep.size;have h2:=HKM.out.size;omega
     refine wA9 9 ?_;refine aN rfl (.tmp 30) (.tmp 34) 140 rfl w.heap.size fF _ 5 48 Tryz.underlying140 oY rfl (by decide) (.slice p k c) k (gO f Z k) rfl HOE.out (.slice (some ⟨bx,0,none⟩) 1 1) 1 dc rfl HRN.out HOC.out (by unfold maxLen;omega) (by omega) hbase ?_;intro v' w8 ho5 hk5 hn5 hb5;obtain⟨g2,c2,rfl⟩:=ownsRow_succ ho5
     have HT8:=O (hk5.blk HTE.out fun e=>by
      obtain⟨cur,hc⟩:=aL HOE.out e;rw[HTE.out] at hc;simp[eW,fF] at hc)
     rw[←HDC.out] at ho5;have HO5:=O ho5;have HK5:=O hk5;have HB5:=O hb5;clear ho5 hk5 hn5 hb5;refine wpList_nil ?_;refine⟨HS.out _,?_⟩;refine tnb 10 (.pointer (some ⟨a,0,none⟩)) rfl (HS.out _) ?_;refine tnb 11 (.pointer (some ⟨a,0,none⟩)) rfl (HS.out _) ?_;refine wA9 12 ?_;refine sta 140 (.tmp 37) (.tmp 35) a 0 [.slice (some ⟨g2,0,none⟩) (k+1) c2] HT8.out (by simp) (by kernel_rfl) (one9) ?_;intro w9 hk9 hb9;have HN:=O (HI2.out.next HG.out HKM.out HBM.out HKE.out HO5.out HK5.out HB5.out hk9 hb9);clear hk9 hb9;refine wpList_nil ?_;refine⟨HS.out _,?_⟩;refine wpAnyH_done (by kernel_rfl) ?_ _;clear HS;go_wp2
     go_roundw
     case rel=>exact⟨k+1,_,_,_,by omega,by go_num,HN⟩
     case measure=>simp[intOf];omega
    ·refine cC rfl 140 fF (.tmp 33) rfl Tryz.underlying140 oY (by decide) dc hdn (by decide) rfl ?_
     rw[hwe,hbx];clear hwe hbx;refine wpList_nil ?_;refine⟨HS.out _,?_⟩;refine wA9 4 ?_;have c0:we.cell? ⟨a,0,none⟩=some (.slice p k c):=aC HTE.out rfl;go_wp2_with fail;refine⟨HS.out _,?_⟩;clear c0;have hbase:w.heap.size≤we.heap.size:=by have h1:=HI2.out.keep.size;have h2:=HKM.out.size;omega
     refine wA9 9 ?_;refine aN rfl (.tmp 30) (.tmp 34) 140 rfl w.heap.size fF _ 5 48 Tryz.underlying140 oY rfl (by decide) (.slice p k c) k (gO f Z k) rfl HOE.out (.slice (some ⟨bx,0,none⟩) 1 1) 1 dc rfl HRN.out HOC.out (by unfold maxLen;omega) (by omega) hbase ?_;intro v' w8 ho5 hk5 hn5 hb5;obtain⟨g2,c2,rfl⟩:=ownsRow_succ ho5
     have HT8:=O (hk5.blk HTE.out fun e=>by
      obtain⟨cur,hc⟩:=aL HOE.out e;rw[HTE.out] at hc;simp[eW,fF] at hc)
     rw[←HDC.out] at ho5;have HO5:=O ho5;have HK5:=O hk5;have HB5:=O hb5;clear ho5 hk5 hn5 hb5;refine wpList_nil ?_;refine⟨HS.out _,?_⟩;refine tnb 10 (.pointer (some ⟨a,0,none⟩)) rfl (HS.out _) ?_;refine tnb 11 (.pointer (some ⟨a,0,none⟩)) rfl (HS.out _) ?_;refine wA9 12 ?_;refine sta 140 (.tmp 37) (.tmp 35) a 0 [.slice (some ⟨g2,0,none⟩) (k+1) c2] HT8.out (by simp) (by kernel_rfl) (one9) ?_;intro w9 hk9 hb9;have HN:=O (HI2.out.next HG.out HKM.out HBM.out HKE.out HO5.out HK5.out HB5.out hk9 hb9);clear hk9 hb9;refine wpList_nil ?_;refine⟨HS.out _,?_⟩;refine wpAnyH_done (by kernel_rfl) ?_ _;clear HS;go_wp2
     go_roundw
     case rel=>exact⟨k+1,_,_,_,by omega,by go_num,HN⟩
     case measure=>simp[intOf];omega
  ·obtain rfl:D=k:=by omega
   have HP:Hid (CZ w D Z (.returned (.tuple #[.pointer (some ⟨a,0,none⟩),.int .i64 0])) wr):=O (by
    have h:=HI.out
    have hp:∃dv,p=some ⟨dv,0,none⟩:=by
     rcases h.own.2 with⟨-,e⟩|⟨g,cap,cur,e,-⟩
     ·have:=HBD.out.1;omega
     ·cases e;exact⟨_,rfl⟩
    obtain⟨dv,rfl⟩:=hp;refine⟨a,dQ a dv (.slice none 0 0) f D,rfl,⟨dv,c,.slice none 0 0,0,f,fun _ _=>zB,[],⟨h.top,aV h.own (Nat.zero_le _),h.firm,h.inj,World.ownsRow_nil _ _ _ _,(fun x hx=>by cases hx),fun _ _ _ _=>rfl,HBD.out⟩,rfl,rfl,fun _ _ _ _=>rfl⟩,?_,h.keep⟩;rintro k (rfl|rfl|hk|⟨d,hd,rfl⟩)
    ·exact h.ge.1
    ·exact aS h.own (k:=k) rfl
    ·cases hk
    ·exact h.ge.2 d hd)
   clear HI;go_wp2
   go_ret2
   exact HP.out
end
end Go.Proofs.YtiinnfhjpaeffaaGreat
