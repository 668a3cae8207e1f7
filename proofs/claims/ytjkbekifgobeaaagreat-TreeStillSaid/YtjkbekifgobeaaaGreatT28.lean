/- A part of the proof. Conditions: those told. -/
import Derived.Test.YtjkbekifgobeaaaGreatT1
import Derived.Test.YtjkbekifgobeaaaGreatT27
namespace Go.Proofs.YtjkbekifgobeaaaGreat
set_option maxHeartbeats 64000000
set_option maxRecDepth 100000
set_option linter.unusedVariables false
section
open Go.RowKit Go.Maps Go.ChangeMaps
theorem DE(uc:List Value)(h:uc.length=32):uc=(List.range 32).map fun i=>uc.getD i undef:=by
 apply List.ext_getElem?;intro i;rw[List.getElem?_map]
 by_cases hi:i<32
 ·rw[List.getElem?_range hi,List.getElem?_eq_getElem (by omega)]
  simp[List.getD,List.getElem?_eq_getElem (show i<uc.length by omega)]
 ·rw[List.getElem?_eq_none (by omega),List.getElem?_eq_none (by simp;omega)];rfl
theorem EQ(a m:Nat)(f:Nat->Value)(cp:Int):Tryz.prog.built tZ [(0,.pointer (some ⟨a,0,none⟩)),(1,.pointer (some ⟨m,0,none⟩)),(2,.agg ((List.range 32).map f).toArray),(3,.int .i64 cp)]=some (Value.pointer (some ⟨a,0,none⟩)::.pointer (some ⟨m,0,none⟩)::((List.range 32).map f++(.int .i64 cp::.slice none 0 0::.pointer none::.slice none 0 0::.slice none 0 0::lQ 0))).toArray:=by kernel_rfl
theorem GH(a m cp:Nat)(pid:List UInt8)(h:pid.length=32)(w:World):(Instr.build tZ #[(0,.pointer (some ⟨a,0,none⟩)),(1,.pointer (some ⟨m,0,none⟩)),(2,.agg (pid.map vb).toArray),(3,.int .i64 (cp:Int))]).run Tryz.prog w=.ok (.agg (gE a m pid cp (.slice none 0 0) (.pointer none) 0).toArray) w:=by
 refine run_build w tZ _ _ ?_;unfold gE;rw[DE (pid.map vb) (by rw[List.length_map,h])];exact EQ a m _ _
def As(w:World)(a:Nat)(pid:List UInt8)(cp:Nat)(e:Ending)(w':World):Prop:=∃c m,e=.returned (.pointer (some ⟨c,0,none⟩))/\bB w' c a m pid cp (.slice none 0 0) (.pointer none) 0/\eS w' m a/\w.heap.size≤c/\w.heap.size≤m/\m<c/\aA aB w w'
theorem IY{w:World}{a:Nat}{D Z nw:Nat}{B:Nat->Prop}{Mm:Nat->Nat->List UInt8}(ha:bP w a B D Z Mm nw)(pid:List UInt8)(hpid:pid.length=32)(cp:Nat):Calls Tryz.prog 104 #[.pointer (some ⟨a,0,none⟩),.agg (pid.map vb).toArray,.int .i64 (cp:Int)] w (As w a pid cp):=by
 have hpl:(pid.map vb).length=32:=by rw[List.length_map];exact hpid
 have HPID:=H' hpid;have HA:=H' ha;have HL:=H' (Loc.nil aB aB w);clear ha hpid;go_enter Tryz.func104,Tryz.ntmps104
 go_wp2_with (first
  | ((with_reducible show WL (some 4) (.box 24 _));refine bx 24 (.tmp 1) ((pid.map vb).toArray) ?_))
 intro b4 w1 hbs hk hb;replace HL:=H' (HL.out.new (fun _ h=>h.elim) hbs hk hb);replace HA:=H' (HA.out.keep0 hk);clear hbs hk hb;go_wp2_with fail;have HSZ:=H' HL.out.keep.size;refine(IE HA.out).mono ?_;rintro e w2 ⟨m,rfl,hmg,hm,hk⟩;replace HL:=H' (HL.out.keeps hk);replace HA:=H' (HA.out.keep0 hk);clear hk;have HM:=H' hm;have HMG:=H' (Nat.le_trans HSZ.out hmg);clear hm hmg;have hbC:=GH a m cp pid HPID.out;have HKX:=H' HL.out.keep;have HB4:=H' (HL.out.b 0);have hmw:m<w2.heap.size:=lt_of_block HM.out;clear HL HA
 go_wp2_with (first
  | ((with_reducible show WL (some 16) (.load 24 _));refine wpList_load_mid rfl 24 (.tmp 4) rfl b4 0 rfl (pid.map vb) _ (aC HB4.out) Tryz.underlying24 rfl (by rw[hpl];exact vP) ?_)
  | ((with_reducible show WL (some 18) (.build _ _));refine bld tZ #[(0,.tmp 14),(1,.tmp 15),(2,.tmp 16),(3,.tmp 17)] [(0,.pointer (some ⟨a,0,none⟩)),(1,.pointer (some ⟨m,0,none⟩)),(2,.agg (pid.map vb).toArray),(3,.int .i64 (cp:Int))] (.agg (gE a m pid cp (.slice none 0 0) (.pointer none) 0).toArray) hbC ?_)
  | ((with_reducible show WL (some 19) (.box _ _));refine bx tZ (.tmp 18) (gE a m pid cp (.slice none 0 0) (.pointer none) 0).toArray ?_))
 intro c w9 hb hk hn;have HP:Hid (As w a pid cp (.returned (.pointer (some ⟨c,0,none⟩))) w9):=H' ⟨c,m,rfl,⟨hn,HPID.out⟩,hk.blk HM.out id,by have:=HKX.out.size;omega,HMG.out,by omega,HKX.out.trans hk⟩;clear hb hk hn;go_wp2_with fail;go_ret;exact HP.out
theorem C7{w:World}{a:Nat}{D Z nw:Nat}{B:Nat->Prop}{Mm:Nat->Nat->List UInt8}(ha:bP w a B D Z Mm nw){bc:Nat}(hb:w.heap[bc]?=some (.cells #[.pointer (some ⟨a,0,none⟩)] 37 (0,0)))(d:Int)(h0:0≤d)(hd:d<(D:Int)):Calls Tryz.prog 107 #[.int .i64 d,.pointer (some ⟨bc,0,none⟩)] w (aM w (.bool false)):=by
 have HBC:=H' (cell_of_one hb);have HU:Hid ((decide (0≤d) && decide (d<(D:Int)))=true):=H' (by rw[decide_eq_true h0,decide_eq_true hd];rfl);have HA:=H' ha;have HL:=H' (Loc.nil aB aB w);clear ha hb h0 hd;go_enter Tryz.func107,Tryz.ntmps107;have c1:w.cell? ⟨bc,0,none⟩=some (.pointer (some ⟨a,0,none⟩)):=HBC.out;go_wp2_with fail;clear c1;refine(LW HA.out d).mono ?_;rintro e w1 ⟨rfl,hk⟩;replace HL:=H' (HL.out.keeps hk);replace HA:=H' (HA.out.keep0 hk);replace HBC:=H' (hk.cell HBC.out id);clear hk;rw[HU.out];go_wp2_with fail;go_ret;exact aM.of HL.out.keep
theorem ER(w:World)(v:Value)(l:List Int)(hr:Rd w 1 v l.length (l.map fun x=>.int .i64 x))(h8:l.length≤65536)(gf bc:Nat)(eg:∀args w,(callFunc gf args).run Tryz.prog w=.ok (.enter gf args) w)(hno:∀x∈l,∀w',aA aB w w'->Calls Tryz.prog gf #[.int .i64 x,.pointer (some ⟨bc,0,none⟩)] w' (aM w' (.bool false))) :
 Calls Tryz.prog 142 #[v,.func (.func gf) #[] #[.pointer (some ⟨bc,0,none⟩)]] w (aM w (.int .i64 (-1))):=by
 obtain⟨oa,ca,rfl,-,-⟩:=hr.form;obtain⟨n,hn⟩:∃n,l.length=n:=⟨_,rfl⟩
 have HN:=H' hn;rw[hn] at hr h8 ⊢;have hnc:n≤ca:=by obtain⟨_,a',c',h1,h2,h3,-⟩:=hr;cases h1;exact h2
 have HR:=H' hr;have HNO:=H' hno;clear hr hno hn;go_enter Tryz.func142,Tryz.ntmps142;go_wp2_with fail
 go_loopw [5,8] (fun _ i wr=>∃k:Nat,k≤n/\i=.int .i64 k/\Hid (aA aB w wr)) (fun _ i _=>n-(intOf i).toNat)
 case atStart=>exact⟨0,by omega,rfl,H' (aA.refl _ _)⟩
 case round =>
  obtain⟨k,hk,rfl,HK⟩:=hrel
  by_cases hk8:k<n
  ·obtain⟨x,hx⟩:∃x,l[k]?=some x:=⟨l[k]'(by rw[HN.out];exact hk8),List.getElem?_eq_getElem _⟩
   obtain⟨g,o,cap',hv,hat⟩:=A9 HR.out (k:=k) (u:=.int .i64 x) (by rw[List.getElem?_map,hx];rfl);obtain rfl:oa=some ⟨g,o,none⟩:=by cases hv;rfl
   have HX:=H' (HK.out.cell hat id);have HC:=H' (HNO.out x (List.mem_of_getElem? hx) wr HK.out);have HL:=H' (Loc.nil aB aB wr);have hk0:(0:Int)≤(k:Int):=by omega
   have hk1:(k:Int)<(n:Int):=by omega
   have hkc:(k:Int)≤(ca:Int):=by omega
   clear hx hat hv;have c1:wr.cell? ⟨g,o+k,none⟩=some (.int .i64 x):=HX.out;go_wp2_with fail;clear c1;refine(HC.out).mono ?_;rintro e w1 ⟨rfl,hk⟩;replace HL:=H' (HL.out.keeps hk);replace HX:=H' (hk.cell HX.out id);clear hk;go_wp2_with fail;have HK8:=H' (HK.out.trans HL.out.keep);clear HL HC HX
   go_roundw
   case rel=>exact⟨k+1,by omega,by go_num,HK8⟩
   case measure=>simp[intOf];omega
  ·obtain rfl:k=n:=by omega
   go_wp2_with fail;go_ret;exact aM.of HK.out
theorem C8(w:World)(v:Value)(l:List Int)(hr:Rd w 1 v l.length (l.map fun x=>.int .i64 x))(h8:l.length≤65536)(gf bc:Nat)(eg:∀args w,(callFunc gf args).run Tryz.prog w=.ok (.enter gf args) w)(hno:∀x∈l,∀w',aA aB w w'->Calls Tryz.prog gf #[.int .i64 x,.pointer (some ⟨bc,0,none⟩)] w' (aM w' (.bool false))) :
 Calls Tryz.prog 105 #[v,.func (.func gf) #[] #[.pointer (some ⟨bc,0,none⟩)]] w (aM w v):=by
 have HI:=H' (ER w v l hr h8 gf bc eg hno);have HL:=H' (Loc.nil aB aB w);clear hr hno h8;go_enter Tryz.func105,Tryz.ntmps105;go_wp2_with fail;refine(HI.out).mono ?_;rintro e w1 ⟨rfl,hk⟩;replace HL:=H' (HL.out.keeps hk);clear hk;go_wp2_with fail;go_ret;exact aM.of HL.out.keep
end
end Go.Proofs.YtjkbekifgobeaaaGreat
