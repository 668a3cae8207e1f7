/- A part of the proof. Conditions: those told. -/
import Derived.Test.YthihofpfonfjfaaGreatDoorB1
import Derived.Test.YthihofpfonfjfaaGreatDoorB26
namespace Go.Proofs.YthihofpfonfjfaaGreatDoor
set_option maxHeartbeats 64000000
set_option maxRecDepth 100000
set_option linter.unusedVariables false
section
open Go.RowKit Go.Maps Go.ChangeMaps
theorem DT{w:World}{a:Nat}{D Z nw:Nat}{B:Nat->Prop}{Mm:Nat->Nat->List UInt8}(ha:bI w a B D Z Mm nw){bc:Nat}(hb:w.heap[bc]?=some (.cells #[.pointer (some ⟨a,0,none⟩)] 51 (0,0)))(d:Int)(h0:0≤d)(hd:d<(D:Int)):Calls Tryz.prog 42 #[.int .i64 d,.pointer (some ⟨bc,0,none⟩)] w (aF w (.bool false)):=by
 have HBC:=O (cell_of_one hb);have HU:Hid ((decide (0≤d) && decide (d<(D:Int)))=true):=O (by rw[decide_eq_true h0,decide_eq_true hd];rfl);have HA:=O ha;have HL:=O (Loc.nil aB aB w);clear ha hb h0 hd;go_enter Tryz.func42,Tryz.ntmps42;have c1:w.cell? ⟨bc,0,none⟩=some (.pointer (some ⟨a,0,none⟩)):=HBC.out;go_wp2_with fail;clear c1;refine(Nm HA.out d).mono ?_;rintro e w1 ⟨rfl,hk⟩;replace HL:=O (HL.out.keeps hk);replace HA:=O (HA.out.keep0 hk);replace HBC:=O (hk.cell HBC.out id);clear hk;rw[HU.out];go_wp2_with fail;go_ret;exact aF.of HL.out.keep
theorem FO(w:World)(v:Value)(l:List Int)(hr:Rd w 1 v l.length (l.map fun x=>.int .i64 x))(h8:l.length≤65536)(gf bc:Nat)(eg:∀args w,(callFunc gf args).run Tryz.prog w=.ok (.enter gf args) w)(hno:∀x∈l,∀w',aA aB w w'->Calls Tryz.prog gf #[.int .i64 x,.pointer (some ⟨bc,0,none⟩)] w' (aF w' (.bool false))) :
 Calls Tryz.prog 76 #[v,.func (.func gf) #[] #[.pointer (some ⟨bc,0,none⟩)]] w (aF w (.int .i64 (-1))):=by
 obtain⟨oa,ca,rfl,-,-⟩:=hr.form;obtain⟨n,hn⟩:∃n,l.length=n:=⟨_,rfl⟩
 have HN:=O hn;rw[hn] at hr h8 ⊢;have hnc:n≤ca:=by obtain⟨_,a',c',h1,h2,h3,-⟩:=hr;cases h1;exact h2
 have HR:=O hr;have HNO:=O hno;clear hr hno hn;go_enter Tryz.func76,Tryz.ntmps76;go_wp2_with fail
 go_loopw [5,8] (fun _ i wr=>∃k:Nat,k≤n/\i=.int .i64 k/\Hid (aA aB w wr)) (fun _ i _=>n-(intOf i).toNat)
 case atStart=>exact⟨0,by omega,rfl,O (aA.refl _ _)⟩
 case round =>
  obtain⟨k,hk,rfl,HK⟩:=hrel
  by_cases hk8:k<n
  ·obtain⟨x,hx⟩:∃x,l[k]?=some x:=⟨l[k]'(by rw[HN.out];exact hk8),List.getElem?_eq_getElem _⟩
   obtain⟨g,o,cap',hv,hat⟩:=BV HR.out (k:=k) (u:=.int .i64 x) (by rw[List.getElem?_map,hx];rfl);obtain rfl:oa=some ⟨g,o,none⟩:=by cases hv;rfl
   have HX:=O (HK.out.cell hat id);have HC:=O (HNO.out x (List.mem_of_getElem? hx) wr HK.out);have HL:=O (Loc.nil aB aB wr);have hk0:(0:Int)≤(k:Int):=by omega
   have hk1:(k:Int)<(n:Int):=by omega
   have hkc:(k:Int)≤(ca:Int):=by omega
   clear hx hat hv;have c1:wr.cell? ⟨g,o+k,none⟩=some (.int .i64 x):=HX.out;go_wp2_with fail;clear c1;refine(HC.out).mono ?_;rintro e w1 ⟨rfl,hk⟩;replace HL:=O (HL.out.keeps hk);replace HX:=O (hk.cell HX.out id);clear hk;go_wp2_with fail;have HK8:=O (HK.out.trans HL.out.keep);clear HL HC HX
   go_roundw
   case rel=>exact⟨k+1,by omega,by go_num,HK8⟩
   case measure=>simp[intOf];omega
  ·obtain rfl:k=n:=by omega
   go_wp2_with fail;go_ret;exact aF.of HK.out
theorem DU(w:World)(v:Value)(l:List Int)(hr:Rd w 1 v l.length (l.map fun x=>.int .i64 x))(h8:l.length≤65536)(gf bc:Nat)(eg:∀args w,(callFunc gf args).run Tryz.prog w=.ok (.enter gf args) w)(hno:∀x∈l,∀w',aA aB w w'->Calls Tryz.prog gf #[.int .i64 x,.pointer (some ⟨bc,0,none⟩)] w' (aF w' (.bool false))) :
 Calls Tryz.prog 40 #[v,.func (.func gf) #[] #[.pointer (some ⟨bc,0,none⟩)]] w (aF w v):=by
 have HI:=O (FO w v l hr h8 gf bc eg hno);have HL:=O (Loc.nil aB aB w);clear hr hno h8;go_enter Tryz.func40,Tryz.ntmps40;go_wp2_with fail;refine(HI.out).mono ?_;rintro e w1 ⟨rfl,hk⟩;replace HL:=O (HL.out.keeps hk);clear hk;go_wp2_with fail;go_ret;exact aF.of HL.out.keep
end
end Go.Proofs.YthihofpfonfjfaaGreatDoor
