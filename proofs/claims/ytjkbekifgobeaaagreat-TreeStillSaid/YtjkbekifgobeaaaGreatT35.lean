/- A part of the proof. Conditions: those told. -/
import Derived.Test.YtjkbekifgobeaaaGreatT1
import Derived.Test.YtjkbekifgobeaaaGreatT33
import Derived.Test.YtjkbekifgobeaaaGreatT34
namespace Go.Proofs.YtjkbekifgobeaaaGreat
set_option maxHeartbeats 64000000
set_option maxRecDepth 100000
set_option linter.unusedVariables false
section
open Go.ChangeShapes Go.WideShapes Go.ChangeAt Go.RowKit
theorem own:ownKnob Tryz.prog.godebug=none:=by kernel_rfl
theorem zG:laidOutB Tryz.prog=true:=by kernel_rfl
def CE(x:EdV):Prop:=sG x.n/\sG x.many
theorem yB{cs l:List Value}{o k:Nat}(m:Nat)(h:(cs.drop o).take k=l)(hm:o+k=m):cs.drop o=l++cs.drop m:=by
 rw[←h,←hm,←List.drop_drop];exact(List.take_append_drop k (cs.drop o)).symm
section
variable {H:Type}{enc:TypeId×Value->H}{w:World}{base:Nat}{spare:Nat->Bool}{held:Bool}{fuel:Nat}
theorem Ln{t:TypeId}{cs:List Value}{x:DataW H×List MemPlace}{fs:List (String×TypeId×Nat)}(hu:Tryz.prog.underlying t=some (.struct (Tryz.prog.fieldsOf t)))
 (hF:(Tryz.prog.fieldsOf t).toList.map (fun f=>(f.name,f.type,f.offset))=fs) (h:DataW.trod enc Tryz.prog w base spare held fuel t cs=some x) :
 cs.length=Tryz.prog.cellsOf t/\∃m,∀(i:Nat) (n:String) (u:TypeId) (o:Nat),fs[i]?=some (n,u,o)->∃y,DataW.trod enc Tryz.prog w base spare held m u ((cs.drop o).take (Tryz.prog.cellsOf u))=some y:=by
 obtain⟨xs,m,-,-,hl,hx,hf⟩:=DataW.trod_struct hu h;refine⟨hl,m,fun i n u o h2=>?_⟩;rw[←hF,List.getElem?_map] at h2;obtain⟨f,hf1,hf2⟩:=Option.map_eq_some_iff.1 h2;have h3:=hf i f (by simpa using hf1);cases hf2
 have hi:i<xs.length:=by
  have:=(List.getElem?_eq_some_iff.1 hf1).1;rw[hx];simpa using this
 rw[List.getElem?_eq_getElem hi] at h3;exact⟨_,h3⟩
theorem L0:Tryz.prog.cellsOf 3=1:=by kernel_rfl
theorem cU8:Tryz.prog.cellsOf 5=1:=by kernel_rfl
theorem LN:Tryz.prog.cellsOf 4=1:=by kernel_rfl
theorem cEd:Tryz.prog.cellsOf 65=4:=by kernel_rfl
theorem uEd:Tryz.prog.underlying 65=some (.struct (Tryz.prog.fieldsOf 65)):=by kernel_rfl
theorem fEd : (Tryz.prog.fieldsOf 65).toList.map (fun f => (f.name, f.type, f.offset)) = [("N", 3, 0), ("Many", 3, 1), ("Cut", 4, 2), ("B", 5, 3)] := by kernel_rfl
theorem G6{cs:List Value}{x:DataW H×List MemPlace}(h:DataW.trod enc Tryz.prog w base spare held fuel 3 cs=some x):∃a:Int,sG a/\cs=[.int .i64 a]:=by
 obtain⟨a,e0,-,wa⟩:=DataW.trod_int Tryz.underlying3 h;exact⟨a,bounds_i64 wa,e0⟩
theorem DQ{cs:List Value}{x:DataW H×List MemPlace}(h:DataW.trod enc Tryz.prog w base spare held fuel 5 cs=some x):∃b:UInt8,cs=[vb b]:=by
 obtain⟨a,e0,rfl,wa⟩:=DataW.trod_int Tryz.underlying5 h;have hb:=bounds_u8 wa;refine⟨UInt8.ofNat a.toNat,?_⟩;rw[e0];unfold vb;simp;omega
theorem LO{cs:List Value}{x:DataW H×List MemPlace}(h:DataW.trod enc Tryz.prog w base spare held fuel 65 cs=some x):∃a:EdV,CE a/\cs=kO a:=by
 obtain⟨hl,m,hf⟩:=Ln uEd fEd h;rw[cEd] at hl;obtain⟨_,h0⟩:=hf 0 _ _ _ rfl;obtain⟨_,h1⟩:=hf 1 _ _ _ rfl;obtain⟨_,h2⟩:=hf 2 _ _ _ rfl;obtain⟨_,h3⟩:=hf 3 _ _ _ rfl;obtain⟨a0,o0,e0⟩:=G6 h0;obtain⟨a1,o1,e1⟩:=G6 h1;obtain⟨a2,e2,-⟩:=DataW.trod_bool Tryz.underlying4 h2;obtain⟨a3,e3⟩:=DQ h3;rw[L0] at e0 e1;rw[LN] at e2;rw[cU8] at e3;refine⟨⟨a0,a1,a2,a3⟩,⟨o0,o1⟩,?_⟩;have q0:=yB 1 e0 rfl;rw[yB 2 e1 rfl,yB 3 e2 rfl,yB 4 e3 rfl,List.drop_eq_nil_of_le (i:=4) (by omega)] at q0;exact q0
theorem Dg{a:Option Addr}{len cap:Nat}{x:DataW H×List MemPlace}(h:DataW.trod enc Tryz.prog w base spare held fuel 59 [.slice a len cap]=some x) :
 ∃l:List EdV,l.length=len/\(∀y∈l,CE y)/\Rd w 4 (.slice a len cap) len (Bb l):=
 CD (f:=kO) (ok:=CE) Tryz.underlying59 cEd (by decide) (fun y hy=>rfl) (fun n cs x hx=>LO hx) h
end
theorem LP{w:World}{v:Value}{l:List EdV}(h:Rd w 4 v l.length (Bb l)){k:Nat}{x:EdV}(hk:l[k]?=some x):∃g o cap,v=.slice (some ⟨g,o,none⟩) l.length cap/\w.rangeAt g (o+k*4) (kO x):=by
 obtain⟨h0,a,cap,rfl,h1,h2,h3,h4⟩:=h;have hlt:=(List.getElem?_eq_some_iff.1 hk).1;obtain⟨g,o,rfl,hc⟩:=h4 (by rw[h0];omega);refine⟨g,o,cap,rfl,fun j u hj=>?_⟩;have hj5:j<4:=(List.getElem?_eq_some_iff.1 hj).1;have h5:=pY (f:=kO) (k:=4) (l:=l) (fun _ _=>rfl) k hk j hj5;rw[hj] at h5;have:=hc (k*4+j) u h5
 rwa [←Nat.add_assoc] at this
end
section
open Go.RowKit Go.Maps Go.ChangeMaps
theorem KC:zbl=blC fun _=>0:=Jh.symm
theorem G7(bl:Nat->UInt8):∃l,Hid (blC bl=l)/\l.length=64/\Hid (∀u∈l,u.oneCell'=true):=⟨_,H' rfl,jR bl,H' (uA bl)⟩
def StR(bl:Nat->UInt8)(k:Nat)(w:World)(vs:List Value)(w':World):Prop:=w=w'/\∃s1 s2 s3 s4 s5 s6 s7 b,vs=[s1,s2,s3,s4,s5,s6,s7,.bool b]/\(b=true->k<64/\bl k=0)
theorem zH(W:World)(v:Value)(l:List EdV)(ho:∀y∈l,CE y)(hr:Rd W 4 v l.length (Bb l))(n:Int)(hn0:-9223372036854775808≤n)(hn1:n≤9223372036854775807)(m:UInt8):Calls Tryz.prog 4 #[v,.int .i64 n,vb m] W (E8 W):=by
 obtain⟨oa,oc,rfl,hlc,hcm⟩:=hr.form;have hlm:l.length≤maxLen:=by omega
 unfold maxLen at hlm;obtain⟨N,hn⟩:∃n,l.length=n:=⟨_,rfl⟩
 have HN:=H' hn;have HR:=H' hr;have HOK:=H' ho;have HNN:=H' (And.intro hn0 hn1);obtain⟨mz,hmz⟩:∃z:Int,(m.toNat:Int)=z:=⟨_,rfl⟩
 have HMZ:=H' hmz;have HVM:Hid (vb m=.int .u8 mz):=H' (by unfold vb;rw[hmz]);rw[HVM.out];rw[hn] at HR hlm ⊢;clear hr hn hlc hcm ho hn0 hn1 hmz;have hzp:(aJ (.slice none 0 0) zPt).length=35:=rfl;have hzb:=iL;obtain⟨zp,hzpe⟩:∃l,aJ (.slice none 0 0) zPt=l:=⟨_,rfl⟩
 have HOZP:Hid (∀u∈zp,u.oneCell'=true):=H' (by rw[←hzpe];exact bY zPt);have HZPE:=H' hzpe;rw[hzpe] at hzp hzb;have HZB:=H' hzb;clear hzpe hzb;go_enter Tryz.func4,Tryz.ntmps4;have HKW:=H' (aA.refl aB W);go_wp2_with fail;refine((Df W)).mono ?_;rintro e w1 ⟨rfl,hk⟩;replace HKW:=H' (HKW.out.trans hk);clear hk;go_wp2_with fail;refine((xY w1 200 (by omega))).mono ?_;rintro e w2 ⟨c,M,B,rfl,hki,hB,hk⟩;have HBN:Hid (∀k,B k->W.heap.size≤k):=H' (fun k h=>Nat.le_trans HKW.out.size (hB k h));replace HKW:=H' (HKW.out.trans hk);have HL:=H' (Cs.start hki);clear hki hB hk
 by_cases h30:30<N
 ·have hi:(30:Int)<(N:Int):=by omega
  have d1:decide ((30:Int)<(N:Int))=true:=decide_eq_true hi;go_wp2_with fail;go_ret;exact⟨rfl,HKW.out⟩
 ·have hi:¬(30:Int)<(N:Int):=by omega
  have d1:decide ((30:Int)<(N:Int))=false:=decide_eq_false hi
  go_wp2_with (first
   | ((with_reducible show WL (some 43) (.build _ _));refine bld 26 #[] [] (.agg zp.toArray) HZB.out ?_)
   | ((with_reducible show WL (some 9) (.alloc 26));refine al 26 (.agg aH.toArray) (aH.toArray) aU ?_))
  intro b9 w3 hbs hk0 hb0_
  go_wp2_with (first
   | ((with_reducible show WL (some 43) (.build _ _));refine bld 26 #[] [] (.agg zp.toArray) HZB.out ?_)
   | ((with_reducible show WL _ (.store 26 (.tmp 9) (.tmp 43)));refine sta 26 (.tmp 9) (.tmp 43) b9 0 zp hb0_ (by first|decide|(rw[List.size_toArray,hzp];exact Nat.le_refl _)|simp[hzp,aG]) (by rw[hzp];exact aE) HOZP.out ?_))
  intro w4 hk hb;rw[aK _ _ (by first|rfl|(rw[List.size_toArray,hzp];rfl)|simp[hzp,aG])] at hb;replace hk:=hk0.trans' hk (U:=aB) (fun _ _ h=>h) (fun i hi e=>by omega);replace HL:=H' (HL.out.new (trivial) hbs hk hb);clear hbs hk hb hk0 hb0_
  go_wp2_with (first
   | ((with_reducible show WL (some 43) (.build _ _));refine bld 26 #[] [] (.agg zp.toArray) HZB.out ?_)
   | ((with_reducible show WL (some 10) (.alloc 61));refine al 61 (.agg zbl.toArray) (zbl.toArray) wG ?_))
  intro b10 w5 hbs hk hb;replace HL:=H' (HL.out.new (trivial) hbs hk hb);clear hbs hk hb;go_wp2_with fail;rw[KC] at HL
  go_loopw [11] (fun i wr=>∃(k:Nat) (S:Kor) (B':Nat->Prop) (v:Value) (t:Tr) (bl:Nat->UInt8),k≤N/\i=.int .i64 (k:Int)/\Hid (Tr.Ok S 3 t/\iA t bl)/\Hid (Cs B w2 c S B' [(v,t.ptr)] wr [(b10,(blC bl).toArray,61),(b9,(aJ v t.ptr).toArray,26)])) (fun i _=>N-(intOf i).toNat)
  case atStart=>exact⟨0,_,B,.slice none 0 0,.hole,fun _=>0,Nat.zero_le _,rfl,H' ⟨Tr.ok_hole _ 3,iA.hole⟩,H' (by
   have h:=HL.out;rw[←HZPE.out] at h;exact⟨⟨h.loc.keep,h.loc.ge,h.loc.nd,h.loc.at_,fun x hx hb=>h.loc.ap x hx (hb.elim .inl fun ⟨r,hr,e⟩=>by cases List.mem_singleton.1 hr;cases e)⟩,h.ki,fun r hr=>by cases List.mem_singleton.1 hr;exact aL.hole _ _,h.bb⟩)⟩
  case round =>
  clear HL;obtain⟨k,S,B',v,t,bl,hk,rfl,HT,HL⟩:=hrel;obtain⟨pc,HPC,hpc,HOP⟩:=nmP (HL.out.pv0 0);obtain⟨bc,HBC,hbc,HOBC⟩:=G7 bl;rw[HPC.out,HBC.out] at HL
  by_cases hlt:k<N
  ·have hki:(k:Int)<(N:Int):=by omega
   have hk0:(0:Int)≤(k:Int):=by omega
   obtain⟨x,hx⟩:∃x,l[k]?=some x:=⟨l[k]'(by rw[HN.out];exact hlt),List.getElem?_eq_getElem _⟩
   have HXO:=H' (HOK.out x (List.mem_of_getElem? hx));have hr2:=HR.out;rw[←HN.out] at hr2;obtain⟨g,o,cap,hv,hc0⟩:=LP hr2 hx;rw[HN.out] at hv;have e1:oa=some ⟨g,o,none⟩:=by cases hv;rfl
   subst e1;have hgl:g<W.heap.size:=World.block_lt_of_cell? W _ (hc0 0 _ rfl);have HGB:Hid (∀i,B' i->i≠g):=H' (fun i e h=>(HL.out.bb i e).elim (fun h2=>by have:=HBN.out i h2;omega) fun h2=>by have:=HKW.out.size;omega);have HX:=H' ((HL.out.fin HBN.out HKW.out).rangeAt2 hc0 id);obtain⟨ec,hece⟩:∃q,kO x=q:=⟨_,rfl⟩
   have HEC:=H' hece;have hec:ec.length=4:=by rw[←hece];rfl
   rw[hece] at HX;obtain⟨rr,hrr⟩:∃r,edR S t x=r:=⟨_,rfl⟩
   obtain⟨r,T⟩:=rr;have HED:=H' hrr;obtain⟨dc,HDC,hdc,HODC⟩:=G7 (edB x bl);obtain⟨rs,hrs⟩:∃b,r.isSome=b:=⟨_,rfl⟩
   have HRS:=H' hrs;have HL0:=HL;clear hece hrr hx hr2 hv hc0 hgl hrs;go_wp2_with fail;apply CA (R:=fun(b12:Nat) (b13:Nat) (rc:List Value) w'=>Hid (∃v2 B2,aJ v2 (dM r)=rc/\Cs B w2 c T B2 [(v2,dM r),(v,t.ptr)] w' ((b13,dc.toArray,61)::(b12,rc.toArray,26)::[(b10,bc.toArray,61),(b9,pc.toArray,26)])))
   case h =>
    refine nY (B') HL (by kernel_rfl) ?_;intro w6 SW HSE HSI hkd HL;replace HX:=H' (hkd.rangeAt2 HX.out id);clear hkd;have HLs:=HL;have HXs:=HX;refine tna 0 (.pointer (some ⟨c,0,none⟩)) rfl (HSI.out _ HL.out.dr) ?_;refine tnd 1 (.agg pc.toArray) rfl (ldD 26 (.tmp 9) b9 0 pc _ (fun w' h=>aC (HLs.out.own (HSE.out w' h) 1)) aI (by rw[hpc];exact aE)) (HSI.out _ HL.out.dr) ?_;refine tnd 2 (.agg bc.toArray) rfl (ldD 61 (.tmp 10) b10 0 bc _ (fun w' h=>aC (HLs.out.own (HSE.out w' h) 0)) Tryz.underlying61 (by rw[hbc];exact gQ)) (HSI.out _ HL.out.dr) ?_;refine tna 3 (.slice (some ⟨g,o,none⟩) N oc) rfl (HSI.out _ HL.out.dr) ?_;refine tna 4 (.int .i64 (k:Int)) rfl (HSI.out _ HL.out.dr) ?_;refine tnb 5 (.pointer (some ⟨g,o+k*4,none⟩)) rfl (HSI.out _ HL.out.dr) ?_;refine tnd 6 (.agg ec.toArray) rfl (ldD 65 (.tmp 56) g (o+k*4) ec _ (fun w' h=>(HSE.out w' h).rangeAt2 HXs.out (fun e=>HGB.out _ e rfl)) LM (by rw[hec];exact Lm)) (HSI.out _ HL.out.dr) ?_;refine Cz 7 13 14 rfl rfl rfl (by kernel_rfl) ?_ ?_ ?_
    ·go_wp2_with fail
     refine((by rw[←HPC.out,←HBC.out,←HEC.out];have h:=lD HL.out.ki v t HT.out.1 (HL.out.pv0 0) bl x HXO.out;rw[HED.out] at h;exact h:Calls _ _ _ w6 (kA w6 c B' r T (edB x bl)))).mono ?_;rintro e w7 ⟨v2,B2,rfl,hpv,hki2,hbb,hnw,hk2⟩;replace HL:=H' (HL.out.laid (fun _ _ e=>e) hpv hki2 hbb hnw hk2);obtain⟨rc,HRC,hrc,HORC⟩:=nmP hpv;rw[HRC.out,HDC.out,HRS.out];clear hpv hki2 hbb hnw hk2 HX;go_wp2_with fail;refine⟨HSI.out _ HL.out.dr,?_⟩;refine tna 8 (.tuple #[.agg rc.toArray,.agg dc.toArray,.bool rs,.bool true]) rfl (HSI.out _ HL.out.dr) ?_;refine tnb 9 (.agg rc.toArray) rfl (HSI.out _ HL.out.dr) ?_;refine tnb 10 (.agg dc.toArray) rfl (HSI.out _ HL.out.dr) ?_;refine tnb 11 (.bool rs) rfl (HSI.out _ HL.out.dr) ?_;refine tnb 12 (.bool true) rfl (HSI.out _ HL.out.dr) ?_;refine dN (k:=13) (l:=14) rfl rfl (by kernel_rfl) ?_ ?_
     ·refine alD HL HSI 26 (.agg aH.toArray) (aH.toArray) aU ?_
      intro b12 w8 hb12 hk HL;clear hk;refine aF (k:=14) rfl (by kernel_rfl) ?_;refine alD HL HSI 61 (.agg zbl.toArray) (zbl.toArray) wG ?_;intro b13 w9 hb13 hk HL;clear hk;refine aF (k:=15) rfl (by kernel_rfl) ?_;refine stD HL HSI 1 rfl 26 (.tmp 12) (.tmp 59) rc (.inl hb12) (by first|rfl|simp[hrc,aG]) (by rw[hrc];exact aE) HORC.out ?_;intro wa HL;refine aF (k:=16) rfl (by kernel_rfl) ?_;refine stD HL HSI 0 rfl 61 (.tmp 13) (.tmp 60) dc (.inl hb13) (by first|rfl|simp[hdc,iV]) (by rw[hdc];exact gQ) HODC.out ?_;intro wb HL;refine tna 17 (.bool rs) rfl (HSI.out _ HL.out.dr) ?_;refine tna 18 (.bool true) rfl (HSI.out _ HL.out.dr) ?_;refine wpAnyH_done (by kernel_rfl) ?_ _;refine noP ?_;exact⟨rfl,b12,b13,rc,rfl,H' ⟨v2,B2,HRC.out,HL.out.toCs⟩⟩
     ·refine alD HL HSI 61 (.agg zbl.toArray) (zbl.toArray) wG ?_
      intro b13 w8 hb13 hk HL;clear hk;refine aF (k:=13) rfl (by kernel_rfl) ?_;refine alD HL HSI 26 (.agg aH.toArray) (aH.toArray) aU ?_;intro b12 w9 hb12 hk HL;clear hk;refine aF (k:=15) rfl (by kernel_rfl) ?_;refine stD HL HSI 0 rfl 26 (.tmp 12) (.tmp 59) rc (.inl hb12) (by first|rfl|simp[hrc,aG]) (by rw[hrc];exact aE) HORC.out ?_;intro wa HL;refine aF (k:=16) rfl (by kernel_rfl) ?_;refine stD HL HSI 1 rfl 61 (.tmp 13) (.tmp 60) dc (.inl hb13) (by first|rfl|simp[hdc,iV]) (by rw[hdc];exact gQ) HODC.out ?_;intro wb HL;refine tna 17 (.bool rs) rfl (HSI.out _ HL.out.dr) ?_;refine tna 18 (.bool true) rfl (HSI.out _ HL.out.dr) ?_;refine wpAnyH_done (by kernel_rfl) ?_ _;refine noP ?_;exact⟨rfl,b12,b13,rc,rfl,H' ⟨v2,B2,HRC.out,HL.out.toCs.swap⟩⟩
    ·refine alD HL HSI 26 (.agg aH.toArray) (aH.toArray) aU ?_
     intro b12 w7 hb12 hk HL;replace HX:=H' (hk.rangeAt2 HX.out id);clear hk;refine dN (k:=7) (l:=14) rfl rfl (by kernel_rfl) ?_ ?_
     ·go_wp2_with fail
      refine((by rw[←HPC.out,←HBC.out,←HEC.out];have h:=lD HL.out.ki v t HT.out.1 (HL.out.pv0 0) bl x HXO.out;rw[HED.out] at h;exact h:Calls _ _ _ w7 (kA w7 c B' r T (edB x bl)))).mono ?_;rintro e w8 ⟨v2,B2,rfl,hpv,hki2,hbb,hnw,hk2⟩;replace HL:=H' (HL.out.laid (fun _ _ e=>e) hpv hki2 hbb hnw hk2);obtain⟨rc,HRC,hrc,HORC⟩:=nmP hpv;rw[HRC.out,HDC.out,HRS.out];clear hpv hki2 hbb hnw hk2 HX;go_wp2_with fail;refine⟨HSI.out _ HL.out.dr,?_⟩;refine tna 8 (.tuple #[.agg rc.toArray,.agg dc.toArray,.bool rs,.bool true]) rfl (HSI.out _ HL.out.dr) ?_;refine tnb 9 (.agg rc.toArray) rfl (HSI.out _ HL.out.dr) ?_;refine tnb 10 (.agg dc.toArray) rfl (HSI.out _ HL.out.dr) ?_;refine tnb 11 (.bool rs) rfl (HSI.out _ HL.out.dr) ?_;refine tnb 12 (.bool true) rfl (HSI.out _ HL.out.dr) ?_;refine aF (k:=14) rfl (by kernel_rfl) ?_;refine alD HL HSI 61 (.agg zbl.toArray) (zbl.toArray) wG ?_;intro b13 w9 hb13 hk HL;clear hk;refine aF (k:=15) rfl (by kernel_rfl) ?_;refine stD HL HSI 1 rfl 26 (.tmp 12) (.tmp 59) rc (.inl hb12) (by first|rfl|simp[hrc,aG]) (by rw[hrc];exact aE) HORC.out ?_;intro wa HL;refine aF (k:=16) rfl (by kernel_rfl) ?_;refine stD HL HSI 0 rfl 61 (.tmp 13) (.tmp 60) dc (.inl hb13) (by first|rfl|simp[hdc,iV]) (by rw[hdc];exact gQ) HODC.out ?_;intro wb HL;refine tna 17 (.bool rs) rfl (HSI.out _ HL.out.dr) ?_;refine tna 18 (.bool true) rfl (HSI.out _ HL.out.dr) ?_;refine wpAnyH_done (by kernel_rfl) ?_ _;refine noP ?_;exact⟨rfl,b12,b13,rc,rfl,H' ⟨v2,B2,HRC.out,HL.out.toCs⟩⟩
     ·refine alD HL HSI 61 (.agg zbl.toArray) (zbl.toArray) wG ?_
      intro b13 w8 hb13 hk HL;replace HX:=H' (hk.rangeAt2 HX.out id);clear hk;refine aF (k:=7) rfl (by kernel_rfl) ?_;go_wp2_with fail;refine((by rw[←HPC.out,←HBC.out,←HEC.out];have h:=lD HL.out.ki v t HT.out.1 (HL.out.pv0 0) bl x HXO.out;rw[HED.out] at h;exact h:Calls _ _ _ w8 (kA w8 c B' r T (edB x bl)))).mono ?_;rintro e w9 ⟨v2,B2,rfl,hpv,hki2,hbb,hnw,hk2⟩;replace HL:=H' (HL.out.laid (fun _ _ e=>e) hpv hki2 hbb hnw hk2);obtain⟨rc,HRC,hrc,HORC⟩:=nmP hpv;rw[HRC.out,HDC.out,HRS.out];clear hpv hki2 hbb hnw hk2 HX;go_wp2_with fail;refine⟨HSI.out _ HL.out.dr,?_⟩;refine tna 8 (.tuple #[.agg rc.toArray,.agg dc.toArray,.bool rs,.bool true]) rfl (HSI.out _ HL.out.dr) ?_;refine tnb 9 (.agg rc.toArray) rfl (HSI.out _ HL.out.dr) ?_;refine tnb 10 (.agg dc.toArray) rfl (HSI.out _ HL.out.dr) ?_;refine tnb 11 (.bool rs) rfl (HSI.out _ HL.out.dr) ?_;refine tnb 12 (.bool true) rfl (HSI.out _ HL.out.dr) ?_;refine aF (k:=15) rfl (by kernel_rfl) ?_;refine stD HL HSI 1 rfl 26 (.tmp 12) (.tmp 59) rc (.inl hb12) (by first|rfl|simp[hrc,aG]) (by rw[hrc];exact aE) HORC.out ?_;intro wa HL;refine aF (k:=16) rfl (by kernel_rfl) ?_;refine stD HL HSI 0 rfl 61 (.tmp 13) (.tmp 60) dc (.inl hb13) (by first|rfl|simp[hdc,iV]) (by rw[hdc];exact gQ) HODC.out ?_;intro wb HL;refine tna 17 (.bool rs) rfl (HSI.out _ HL.out.dr) ?_;refine tna 18 (.bool true) rfl (HSI.out _ HL.out.dr) ?_;refine wpAnyH_done (by kernel_rfl) ?_ _;refine noP ?_;exact⟨rfl,b12,b13,rc,rfl,H' ⟨v2,B2,HRC.out,HL.out.toCs⟩⟩
    ·refine alD HL HSI 61 (.agg zbl.toArray) (zbl.toArray) wG ?_
     intro b13 w7 hb13 hk HL;replace HX:=H' (hk.rangeAt2 HX.out id);clear hk;refine dN (k:=7) (l:=13) rfl rfl (by kernel_rfl) ?_ ?_
     ·go_wp2_with fail
      refine((by rw[←HPC.out,←HBC.out,←HEC.out];have h:=lD HL.out.ki v t HT.out.1 (HL.out.pv0 0) bl x HXO.out;rw[HED.out] at h;exact h:Calls _ _ _ w7 (kA w7 c B' r T (edB x bl)))).mono ?_;rintro e w8 ⟨v2,B2,rfl,hpv,hki2,hbb,hnw,hk2⟩;replace HL:=H' (HL.out.laid (fun _ _ e=>e) hpv hki2 hbb hnw hk2);obtain⟨rc,HRC,hrc,HORC⟩:=nmP hpv;rw[HRC.out,HDC.out,HRS.out];clear hpv hki2 hbb hnw hk2 HX;go_wp2_with fail;refine⟨HSI.out _ HL.out.dr,?_⟩;refine tna 8 (.tuple #[.agg rc.toArray,.agg dc.toArray,.bool rs,.bool true]) rfl (HSI.out _ HL.out.dr) ?_;refine tnb 9 (.agg rc.toArray) rfl (HSI.out _ HL.out.dr) ?_;refine tnb 10 (.agg dc.toArray) rfl (HSI.out _ HL.out.dr) ?_;refine tnb 11 (.bool rs) rfl (HSI.out _ HL.out.dr) ?_;refine tnb 12 (.bool true) rfl (HSI.out _ HL.out.dr) ?_;refine aF (k:=13) rfl (by kernel_rfl) ?_;refine alD HL HSI 26 (.agg aH.toArray) (aH.toArray) aU ?_;intro b12 w9 hb12 hk HL;clear hk;refine aF (k:=15) rfl (by kernel_rfl) ?_;refine stD HL HSI 0 rfl 26 (.tmp 12) (.tmp 59) rc (.inl hb12) (by first|rfl|simp[hrc,aG]) (by rw[hrc];exact aE) HORC.out ?_;intro wa HL;refine aF (k:=16) rfl (by kernel_rfl) ?_;refine stD HL HSI 1 rfl 61 (.tmp 13) (.tmp 60) dc (.inl hb13) (by first|rfl|simp[hdc,iV]) (by rw[hdc];exact gQ) HODC.out ?_;intro wb HL;refine tna 17 (.bool rs) rfl (HSI.out _ HL.out.dr) ?_;refine tna 18 (.bool true) rfl (HSI.out _ HL.out.dr) ?_;refine wpAnyH_done (by kernel_rfl) ?_ _;refine noP ?_;exact⟨rfl,b12,b13,rc,rfl,H' ⟨v2,B2,HRC.out,HL.out.toCs.swap⟩⟩
     ·refine alD HL HSI 26 (.agg aH.toArray) (aH.toArray) aU ?_
      intro b12 w8 hb12 hk HL;replace HX:=H' (hk.rangeAt2 HX.out id);clear hk;refine aF (k:=7) rfl (by kernel_rfl) ?_;go_wp2_with fail;refine((by rw[←HPC.out,←HBC.out,←HEC.out];have h:=lD HL.out.ki v t HT.out.1 (HL.out.pv0 0) bl x HXO.out;rw[HED.out] at h;exact h:Calls _ _ _ w8 (kA w8 c B' r T (edB x bl)))).mono ?_;rintro e w9 ⟨v2,B2,rfl,hpv,hki2,hbb,hnw,hk2⟩;replace HL:=H' (HL.out.laid (fun _ _ e=>e) hpv hki2 hbb hnw hk2);obtain⟨rc,HRC,hrc,HORC⟩:=nmP hpv;rw[HRC.out,HDC.out,HRS.out];clear hpv hki2 hbb hnw hk2 HX;go_wp2_with fail;refine⟨HSI.out _ HL.out.dr,?_⟩;refine tna 8 (.tuple #[.agg rc.toArray,.agg dc.toArray,.bool rs,.bool true]) rfl (HSI.out _ HL.out.dr) ?_;refine tnb 9 (.agg rc.toArray) rfl (HSI.out _ HL.out.dr) ?_;refine tnb 10 (.agg dc.toArray) rfl (HSI.out _ HL.out.dr) ?_;refine tnb 11 (.bool rs) rfl (HSI.out _ HL.out.dr) ?_;refine tnb 12 (.bool true) rfl (HSI.out _ HL.out.dr) ?_;refine aF (k:=15) rfl (by kernel_rfl) ?_;refine stD HL HSI 0 rfl 26 (.tmp 12) (.tmp 59) rc (.inl hb12) (by first|rfl|simp[hrc,aG]) (by rw[hrc];exact aE) HORC.out ?_;intro wa HL;refine aF (k:=16) rfl (by kernel_rfl) ?_;refine stD HL HSI 1 rfl 61 (.tmp 13) (.tmp 60) dc (.inl hb13) (by first|rfl|simp[hdc,iV]) (by rw[hdc];exact gQ) HODC.out ?_;intro wb HL;refine tna 17 (.bool rs) rfl (HSI.out _ HL.out.dr) ?_;refine tna 18 (.bool true) rfl (HSI.out _ HL.out.dr) ?_;refine wpAnyH_done (by kernel_rfl) ?_ _;refine noP ?_;exact⟨rfl,b12,b13,rc,rfl,H' ⟨v2,B2,HRC.out,HL.out.toCs.swap⟩⟩
   case hR =>
    rintro b12 b13 rc wc HF;obtain⟨v2,B2,hcs,hl⟩:=HF.out;have HL:=H' hl;have HRC:=H' hcs;have hrc:rc.length=35:=by rw[←hcs];exact aN (HL.out.pv0 0).pt.sum
    have HORC:Hid (∀u∈rc,u.oneCell'=true):=H' (by rw[←hcs];exact bC (HL.out.pv0 0).pt);clear hcs hl HF HX;cases rs with
    | false =>
      go_wp2_with fail;go_ret;exact⟨rfl,HL.out.fin HBN.out HKW.out⟩
    | true =>
      obtain⟨u,hu⟩:=Option.isSome_iff_exists.1 HRS.out;have HO:Hid (Tr.Ok T 3 u/\iA u (edB x bl)):=H' ((LK HL0.out.ki.bd HT.out.1 HT.out.2 HED.out).2 u hu);have HRC2:Hid (aJ v2 u.ptr=rc):=H' (by rw[hu] at HRC;exact HRC.out);replace HL:=H' (by rw[hu] at HL;exact HL.out);clear HRC HRS HED hu
      go_wp2_with (first
       | ((with_reducible show WL (some 68) (.load 26 _));refine wpList_load_mid rfl 26 (.tmp 12) rfl b12 0 rfl rc _ (aC (HL.out.b 1)) aI rfl (by rw[hrc];exact aE) ?_)
       | ((with_reducible show WL _ (.store 26 (.tmp 9) (.tmp 68)));refine sta 26 (.tmp 9) (.tmp 68) b9 0 rc (HL.out.b 3) (by first|decide|(rw[hrc];exact Nat.le_refl _)|simp[hrc,hpc]) (by rw[hrc];exact aE) HORC.out ?_))
      intro wd hk hb;rw[aK _ _ (by first|rfl|simp[hrc,hpc])] at hb;replace HL:=H' (HL.out.set 3 hk hb);clear hk hb
      go_wp2_with (first
       | ((with_reducible show WL (some 69) (.load 61 _));refine wpList_load_mid rfl 61 (.tmp 13) rfl b13 0 rfl dc _ (aC (HL.out.b 0)) Tryz.underlying61 rfl (by rw[hdc];exact gQ) ?_)
       | ((with_reducible show WL _ (.store 61 (.tmp 10) (.tmp 69)));refine sta 61 (.tmp 10) (.tmp 69) b10 0 dc (HL.out.b 2) (by first|decide|(rw[hdc];exact Nat.le_refl _)|simp[hdc,hbc]) (by rw[hdc];exact gQ) HODC.out ?_))
      intro we hk hb;rw[aK _ _ (by first|rfl|simp[hdc,hbc])] at hb;replace HL:=H' (HL.out.set 2 hk hb);clear hk hb;go_wp2_with fail
      go_roundw
      case rel=>exact⟨k+1,T,B2,v2,u,edB x bl,by omega,by go_num,HO,H' (by rw[HRC2.out,HDC.out];exact HL.out.tail.tail.sub (fun r hr=>by cases List.mem_singleton.1 hr;exact List.mem_cons_self ..))⟩
      case measure=>simp[intOf];omega
  ·obtain rfl:N=k:=by omega
   go_wp2_with fail;have hm0:=Int.emod_nonneg n (show (64:Int)≠0 by omega);have hm1:=Int.emod_lt_of_pos n (show (0:Int)<64 by omega);obtain⟨f,hf⟩:∃f:Nat,n % 64=(f:Int):=⟨(n % 64).toNat,by omega⟩
   have HF:=H' hf;have hf64:f<64:=by omega
   have hfi:(f:Int)<64:=by omega
   have hf0:(0:Int)≤(f:Int):=by omega
   clear hm0 hm1 hf;obtain⟨q,hq⟩:∃q,bl f=q:=⟨_,rfl⟩
   have HQ:=H' hq;have HBQ:Hid (bc.toArray[f]?=some (vb q)):=H' (by rw[←HBC.out,List.getElem?_toArray,DN bl hf64,hq]);have HTQ:Hid (t.blk 3 f=sec q):=H' (by rw[HT.out.2 f hf64,hq]);clear hq;go_wp2_with fail;refine(vM wr n 64 (by omega) (by omega) HNN.out.1 HNN.out.2).mono ?_;rintro e wf ⟨rfl,rfl⟩;rw[HF.out];go_wp2_with fail;refine(HL.out.ki.rooms).mono ?_;rintro e wg ⟨R,hR,rfl,hk⟩;have HRM:=H' hR;clear hR;replace HL:=H' (HL.out.keeps hk);clear hk;go_wp2_with fail;apply oV (R:=fun(b18:Nat) (roa:Option Addr) (roc:Nat) (sc:List Value) w'=>Hid (∃vsc B2,aJ vsc t.ptr=sc/\Cs B w2 c S B2 [(vsc,t.ptr),(v,t.ptr)] w' ((b18,sc.toArray,26)::[(b10,bc.toArray,61),(b9,pc.toArray,26)])))
   case h =>
    refine nY (B') HL (by kernel_rfl) ?_;intro wh SW HSE HSI hkd HL;clear hkd;have HLs:=HL;refine tna 0 (.pointer (some ⟨c,0,none⟩)) rfl (HSI.out _ HL.out.dr) ?_;refine tnd 1 (.agg pc.toArray) rfl (ldD 26 (.tmp 9) b9 0 pc _ (fun w' h=>aC (HLs.out.own (HSE.out w' h) 1)) aI (by rw[hpc];exact aE)) (HSI.out _ HL.out.dr) ?_;refine tna 2 (.int .i64 (f:Int)) rfl (HSI.out _ HL.out.dr) ?_;refine tna 3 (.int .i64 (f:Int)) rfl (HSI.out _ HL.out.dr) ?_;refine tnb 4 (.pointer (some ⟨b10,f,none⟩)) rfl (HSI.out _ HL.out.dr) ?_;refine tnd 5 (vb q) rfl (.inl ⟨by rfl,fun w' h=>by have c:World.cell? w' ⟨b10,f,none⟩=some (vb q):=(aD (i:=f) (HLs.out.own (HSE.out w' h) 0) HBQ.out);go_simp⟩) (HSI.out _ HL.out.dr) ?_;refine dN (k:=6) (l:=11) rfl rfl (by kernel_rfl) ?_ ?_
    ·go_wp2_with fail
     refine(gF wh q).mono ?_;rintro e wi ⟨v_,rfl,ho,hk⟩;obtain⟨roa,roc,rfl,-,-⟩:=(Rd.of_owns ho).form;have Hro:=H' ho;have HroO:=H' (jQ ho (fun i e=>HL.out.ki.lt e));replace HL:=H' (HL.out.keeps hk);clear ho hk;go_wp2_with fail;refine⟨HSI.out _ HL.out.dr,?_⟩;refine dN (k:=7) (l:=11) rfl rfl (by kernel_rfl) ?_ ?_
     ·go_wp2_with fail
      have hsz:=HL.out.keep.size;refine((by rw[←HPC.out];have h:=gP HL.out.ki v t HT.out.1 (HL.out.pv0 0) f hf64 (.slice roa 256 roc) (sec q) (eN q) (Rd.of_owns Hro.out) HroO.out;rw[tQ HTQ.out] at h;exact h:Calls _ _ _ wi (bA wi c B' (.slice none 0 0) (some t) S))).mono ?_;rintro e wj ⟨vsc,B2,rfl,hpv,hki,hbb,-,hnw,hk⟩;replace hpv:aL wj B2 vsc t.ptr:=hpv;rw[show dM (some t)=t.ptr from rfl,show eL (some t)=0 from rfl];replace HL:=H' (HL.out.laid (fun _ _ e=>e) hpv hki hbb (iN hnw) hk);obtain⟨sc,HSC,hsc,HOSC⟩:=nmP hpv;rw[HSC.out];clear hsz hpv hki hbb hnw hk Hro HroO;go_wp2_with fail;refine⟨HSI.out _ HL.out.dr,?_⟩;refine tna 8 (.tuple #[.agg sc.toArray,.int .i64 0]) rfl (HSI.out _ HL.out.dr) ?_;refine tnb 9 (.agg sc.toArray) rfl (HSI.out _ HL.out.dr) ?_;refine tnb 10 (.int .i64 0) rfl (HSI.out _ HL.out.dr) ?_;refine aF (k:=11) rfl (by kernel_rfl) ?_;refine alD HL HSI 26 (.agg aH.toArray) (aH.toArray) aU ?_;intro b18 wk hb18 hk HL;clear hk;refine aF (k:=12) rfl (by kernel_rfl) ?_;refine stD HL HSI 0 rfl 26 (.tmp 18) (.tmp 86) sc (.inl hb18) (by first|rfl|simp[hsc,aG]) (by rw[hsc];exact aE) HOSC.out ?_;intro wl HL;refine tna 13 (.int .i64 0) rfl (HSI.out _ HL.out.dr) ?_;refine wpAnyH_done (by kernel_rfl) ?_ _;refine noP ?_;exact⟨rfl,b18,roa,roc,sc,rfl,H' ⟨vsc,B2,HSC.out,HL.out.toCs⟩⟩
     ·refine alD HL HSI 26 (.agg aH.toArray) (aH.toArray) aU ?_
      intro b18 wj hb18 hk HL;replace Hro:=H' (hk.owns Hro.out fun _ _=>id);replace HroO:=H' (fun i hi=>And.intro (HroO.out i hi).1 (Nat.lt_of_lt_of_le (HroO.out i hi).2 (hk).size));clear hk;refine aF (k:=7) rfl (by kernel_rfl) ?_;go_wp2_with fail;have hsz:=HL.out.keep.size;refine((by rw[←HPC.out];have h:=gP HL.out.ki v t HT.out.1 (HL.out.pv0 0) f hf64 (.slice roa 256 roc) (sec q) (eN q) (Rd.of_owns Hro.out) HroO.out;rw[tQ HTQ.out] at h;exact h:Calls _ _ _ wj (bA wj c B' (.slice none 0 0) (some t) S))).mono ?_;rintro e wk ⟨vsc,B2,rfl,hpv,hki,hbb,-,hnw,hk⟩;replace hpv:aL wk B2 vsc t.ptr:=hpv;rw[show dM (some t)=t.ptr from rfl,show eL (some t)=0 from rfl];replace HL:=H' (HL.out.laid (fun _ _ e=>e) hpv hki hbb (iN hnw) hk);obtain⟨sc,HSC,hsc,HOSC⟩:=nmP hpv;rw[HSC.out];clear hsz hpv hki hbb hnw hk Hro HroO;go_wp2_with fail;refine⟨HSI.out _ HL.out.dr,?_⟩;refine tna 8 (.tuple #[.agg sc.toArray,.int .i64 0]) rfl (HSI.out _ HL.out.dr) ?_;refine tnb 9 (.agg sc.toArray) rfl (HSI.out _ HL.out.dr) ?_;refine tnb 10 (.int .i64 0) rfl (HSI.out _ HL.out.dr) ?_;refine aF (k:=12) rfl (by kernel_rfl) ?_;refine stD HL HSI 0 rfl 26 (.tmp 18) (.tmp 86) sc (.inl hb18) (by first|rfl|simp[hsc,aG]) (by rw[hsc];exact aE) HOSC.out ?_;intro wl HL;refine tna 13 (.int .i64 0) rfl (HSI.out _ HL.out.dr) ?_;refine wpAnyH_done (by kernel_rfl) ?_ _;refine noP ?_;exact⟨rfl,b18,roa,roc,sc,rfl,H' ⟨vsc,B2,HSC.out,HL.out.toCs⟩⟩
    ·refine alD HL HSI 26 (.agg aH.toArray) (aH.toArray) aU ?_
     intro b18 wi hb18 hk HL;clear hk;refine aF (k:=6) rfl (by kernel_rfl) ?_;go_wp2_with fail;refine(gF wi q).mono ?_;rintro e wj ⟨v_,rfl,ho,hk⟩;obtain⟨roa,roc,rfl,-,-⟩:=(Rd.of_owns ho).form;have Hro:=H' ho;have HroO:=H' (jQ ho (fun i e=>HL.out.ki.lt e));replace HL:=H' (HL.out.keeps hk);clear ho hk;go_wp2_with fail;refine⟨HSI.out _ HL.out.dr,?_⟩;refine aF (k:=7) rfl (by kernel_rfl) ?_;go_wp2_with fail;have hsz:=HL.out.keep.size;refine((by rw[←HPC.out];have h:=gP HL.out.ki v t HT.out.1 (HL.out.pv0 0) f hf64 (.slice roa 256 roc) (sec q) (eN q) (Rd.of_owns Hro.out) HroO.out;rw[tQ HTQ.out] at h;exact h:Calls _ _ _ wj (bA wj c B' (.slice none 0 0) (some t) S))).mono ?_;rintro e wk ⟨vsc,B2,rfl,hpv,hki,hbb,-,hnw,hk⟩;replace hpv:aL wk B2 vsc t.ptr:=hpv;rw[show dM (some t)=t.ptr from rfl,show eL (some t)=0 from rfl];replace HL:=H' (HL.out.laid (fun _ _ e=>e) hpv hki hbb (iN hnw) hk);obtain⟨sc,HSC,hsc,HOSC⟩:=nmP hpv;rw[HSC.out];clear hsz hpv hki hbb hnw hk Hro HroO;go_wp2_with fail;refine⟨HSI.out _ HL.out.dr,?_⟩;refine tna 8 (.tuple #[.agg sc.toArray,.int .i64 0]) rfl (HSI.out _ HL.out.dr) ?_;refine tnb 9 (.agg sc.toArray) rfl (HSI.out _ HL.out.dr) ?_;refine tnb 10 (.int .i64 0) rfl (HSI.out _ HL.out.dr) ?_;refine aF (k:=12) rfl (by kernel_rfl) ?_;refine stD HL HSI 0 rfl 26 (.tmp 18) (.tmp 86) sc (.inl hb18) (by first|rfl|simp[hsc,aG]) (by rw[hsc];exact aE) HOSC.out ?_;intro wl HL;refine tna 13 (.int .i64 0) rfl (HSI.out _ HL.out.dr) ?_;refine wpAnyH_done (by kernel_rfl) ?_ _;refine noP ?_;exact⟨rfl,b18,roa,roc,sc,rfl,H' ⟨vsc,B2,HSC.out,HL.out.toCs⟩⟩
   case hR =>
    rintro b18 roa roc sc wm HF;obtain⟨vsc,B2,hcs,hl⟩:=HF.out;have HL:=H' hl;have HSC:=H' hcs;have hsc:sc.length=35:=by rw[←hcs];exact aN (HL.out.pv0 0).pt.sum
    have HOSC:Hid (∀u∈sc,u.oneCell'=true):=H' (by rw[←hcs];exact bC (HL.out.pv0 0).pt);clear hcs hl HF;go_wp2_with fail
    go_loopw [20] (fun i w'=>∃k:Nat,f≤k/\k≤64/\i=.int .i64 (k:Int)/\Hid (∀i,f≤i->i<k->bl i=0)/\w'=wm) (fun i _=>64-(intOf i).toNat)
    case atStart=>exact⟨f,Nat.le_refl _,by omega,rfl,H' (fun i h1 h2=>by omega),rfl⟩
    case round =>
    obtain⟨k,hk1,hk2,rfl,HZ,rfl⟩:=hrel;have hkk0:(0:Int)≤(k:Int):=by omega
    refine wp_seq_k fun K1 hK1=>?_
    refine wp_seq_k fun K2 hK2=>?_
    refine Jg [89,90,91,92,93,94,95,96] (StR bl k wr) ?_ ?_
    ·rcases Nat.lt_or_ge k 64 with h64|h64
     ·have hki:(k:Int)<64:=by omega
      have d0:decide ((k:Int)<64)=true:=decide_eq_true hki;have c1:wr.cell? ⟨b10,k,none⟩=some (vb (bl k)):=aD (HL.out.b 1) (by rw[←HBC.out,List.getElem?_toArray,DN bl h64]);rcases Decidable.em (bl k=0) with hz|hz
      ·rw[hz,show vb 0=.int .u8 0 from rfl] at c1
       go_wp2_with fail;exact⟨rfl,[.int .i64 (k:Int),.bool true,.bool true,.int .i64 (k:Int),.pointer (some ⟨b10,k,none⟩),.int .u8 0,.bool true,.bool true],(by simp only[rV,Act.put,List.setIfInBounds_toArray,List.set_cons_zero,List.set_cons_succ]),rfl,_,_,_,_,_,_,_,_,rfl,fun _=>⟨h64,hz⟩⟩
      ·obtain⟨z,hz2⟩:∃z:Int,((bl k).toNat:Int)=z:=⟨_,rfl⟩
       have hz3:z≠0:=fun e=>hz (UInt8.toNat_inj.1 (show (bl k).toNat=0 by omega))
       have d1:(z == 0)=false:=by simp[hz3]
       have d2:decide (z=0)=false:=decide_eq_false hz3;rw[show vb (bl k)=.int .u8 z by unfold vb;rw[hz2]] at c1;go_wp2_with fail;exact⟨rfl,[.int .i64 (k:Int),.bool true,.bool true,.int .i64 (k:Int),.pointer (some ⟨b10,k,none⟩),.int .u8 z,.bool false,.bool false],(by simp only[rV,Act.put,List.setIfInBounds_toArray,List.set_cons_zero,List.set_cons_succ]),rfl,_,_,_,_,_,_,_,_,rfl,fun e=>by cases e⟩
     ·have hki:¬(k:Int)<64:=by omega
      have d0:decide ((k:Int)<64)=false:=decide_eq_false hki;go_wp2_with fail;exact⟨rfl,[.int .i64 (k:Int),.bool false,.bool false,undef,undef,undef,undef,.bool false],(by simp only[rV,Act.put,List.setIfInBounds_toArray,List.set_cons_zero,List.set_cons_succ]),rfl,_,_,_,_,_,_,_,_,rfl,fun e=>by cases e⟩
    rintro _ _ ⟨rfl,s1,s2,s3,s4,s5,s6,s7,bb,rfl,hbb⟩;refine hK2 _ _ ?_;simp only[rV,Act.put,List.setIfInBounds_toArray,List.set_cons_zero,List.set_cons_succ];have HBB:=H' hbb;clear hbb;cases bb with
    | true =>
      go_wp2_with fail
      go_roundw
      case rel=>exact⟨k+1,by omega,(HBB.out rfl).1,by go_num,H' (fun i h1 h2=>by
       by_cases e:i=k
       ·rw[e];exact(HBB.out rfl).2
       ·exact HZ.out i h1 (by omega)),trivial⟩
      case measure=>have:=(HBB.out rfl).1;simp[intOf];omega
    | false =>
      have HCUT:=H' (Ag (l:=3) (S:=S) (f:=(f:Int)) (g:=(k:Int)) HT.out.1 fun i hi h0 h5=>by rw[HT.out.2 i hi,HZ.out i (by omega) (by omega)];exact Ct);have HFK:=H' (And.intro hk1 hk2);clear HZ HBB hk1 hk2 hkk0
      go_wp2_with (first
       | ((with_reducible show WL (some 101) (.load 26 _));refine wpList_load_mid rfl 26 (.tmp 9) rfl b9 0 rfl pc _ (aC (HL.out.b 2)) aI rfl (by rw[hpc];exact aE) ?_))
      have hsz:=HL.out.keep.size;refine((by rw[←HPC.out];have h:=CB HL.out.ki v t HT.out.1 (HL.out.pv0 1) f k HFK.out.1 HFK.out.2;rw[HCUT.out] at h;exact h:Calls _ _ _ wr (bA wr c B2 (.slice none 0 0) (some t) S))).mono ?_;rintro e wn ⟨vcc,B3,rfl,hpv,hki,hbb,-,hnw,hk⟩;replace hpv:aL wn B3 vcc t.ptr:=hpv;rw[show dM (some t)=t.ptr from rfl,show eL (some t)=0 from rfl];replace HL:=H' (HL.out.laid hpv hki hbb (iN hnw) hk);obtain⟨cc,HCC,hcc,HOCC⟩:=nmP hpv;rw[HCC.out];clear hsz hpv hki hbb hnw hk
      go_wp2_with (first
       | ((with_reducible show WL (some 21) (.alloc 26));refine al 26 (.agg aH.toArray) (aH.toArray) aU ?_))
      intro b21 wo hbs hk0 hb0_
      go_wp2_with (first
       | ((with_reducible show WL _ (.store 26 (.tmp 21) (.tmp 105)));refine sta 26 (.tmp 21) (.tmp 105) b21 0 cc hb0_ (by first|decide|(rw[List.size_toArray,hcc];exact Nat.le_refl _)|simp[hcc,aG]) (by rw[hcc];exact aE) HOCC.out ?_))
      intro wp hk hb;rw[aK _ _ (by first|rfl|(rw[List.size_toArray,hcc];rfl)|simp[hcc,aG])] at hb;replace hk:=hk0.trans' hk (U:=aB) (fun _ _ h=>h) (fun i hi e=>by omega);replace HL:=H' (HL.out.new (trivial) hbs hk hb);clear hbs hk hb hk0 hb0_;go_wp2_with fail;refine((Cy HL.out.ki HRM.out ((R:Int)) (by omega))).mono ?_;rintro e wq ⟨rfl,hk⟩;replace HL:=H' (HL.out.keeps hk);clear hk
      go_wp2_with (first
       | ((with_reducible show WL (some 132) (.load 26 _));refine aV (by rfl) 26 (.tmp 18) rfl b18 0 rfl sc _ (aC (HL.out.b 1)) aI rfl (by rw[hsc];exact aE) ?_)
       | ((with_reducible show WL (some 133) (.load 26 _));refine aV (by rfl) 26 (.tmp 9) rfl b9 0 rfl pc _ (aC (HL.out.b 3)) aI rfl (by rw[hpc];exact aE) ?_))
      refine((by rw[←HSC.out,←HPC.out];exact nO wq vsc v t.ptr t.ptr (HL.out.pv0 1).pt (HL.out.pv0 2).pt:Calls _ _ _ wq (bE wq (t.ptr.eqB t.ptr)))).mono ?_;rintro e wr ⟨rfl,hk⟩;replace HL:=H' (HL.out.keeps hk);clear hk;rw[oN]
      go_wp2_with (first
       | ((with_reducible show WL (some 138) (.load 26 _));refine aV (by rfl) 26 (.tmp 21) rfl b21 0 rfl cc _ (aC (HL.out.b 0)) aI rfl (by rw[hcc];exact aE) ?_)
       | ((with_reducible show WL (some 139) (.load 26 _));refine aV (by rfl) 26 (.tmp 9) rfl b9 0 rfl pc _ (aC (HL.out.b 3)) aI rfl (by rw[hpc];exact aE) ?_))
      refine((by rw[←HCC.out,←HPC.out];exact nO wr vcc v t.ptr t.ptr (HL.out.pv0 0).pt (HL.out.pv0 2).pt:Calls _ _ _ wr (bE wr (t.ptr.eqB t.ptr)))).mono ?_;rintro e ws ⟨rfl,hk⟩;replace HL:=H' (HL.out.keeps hk);clear hk;rw[oN];have HFEW:=H' (HL.out.ki.few HRM.out);obtain⟨qz,hqz⟩:∃z:Int,(q.toNat:Int)=z:=⟨_,rfl⟩
      have HQZ:=H' hqz;have HBZ:Hid (bc.toArray[f]?=some (.int .u8 qz)):=H' (by have h:=HBQ.out;unfold vb at h;rwa [hqz] at h);clear hqz;have cq:ws.cell? ⟨b10,f,none⟩=some (.int .u8 qz):=aD (i:=f) (HL.out.b 2) HBZ.out;rcases Nat.lt_or_ge R 4 with h4|h4
      ·have d1:decide ((R:Int)<4)=true:=decide_eq_true (by omega)
       go_wp2_with fail;go_ret;exact⟨rfl,HL.out.fin HBN.out HKW.out⟩
      have d1:decide ((R:Int)<4)=false:=decide_eq_false (by omega);rcases Decidable.em (mz=0) with hz|hz
      ·have d2:decide (mz=0)=true:=decide_eq_true hz
       have d3:(mz == 0)=true:=by simp[hz]
       go_wp2_with fail;go_ret;exact⟨rfl,HL.out.fin HBN.out HKW.out⟩
      have d2:decide (mz=0)=false:=decide_eq_false hz;have d3:(mz == 0)=false:=by simp[hz]
      rcases Decidable.em (mz=qz) with hq|hq
      ·have d4:decide (mz=qz)=true:=decide_eq_true hq
       have d5:(mz == qz)=true:=by simp[hq]
       go_wp2_with fail;go_ret;exact⟨rfl,HL.out.fin HBN.out HKW.out⟩
      have d4:decide (mz=qz)=false:=decide_eq_false hq;have d5:(mz == qz)=false:=by simp[hq]
      obtain⟨u,T,hset,hrm,hu⟩:=xR (t:=t) (n:=f) (b:=sec m) (N:=R-4) (S:=S) (by rw[show R-4+4=R by omega];exact HRM.out) (xX (b:=0) (fun e=>hz (by rw[←HMZ.out,e];rfl))) (by rw[HTQ.out];exact xX fun e=>hq (by rw[←HMZ.out,←HQZ.out,e]));have HSET:=H' hset;have HRM2:=H' hrm;have hso:=zE HL.out.ki.bd HT.out.1 hf64 (eN m) hset;have HU:=H' (hso.2 u rfl).1;have HUM:Hid (decide (u.blk 3 f=sec m)=true):=H' (decide_eq_true (by rw[(hso.2 u rfl).2 f hf64,if_pos rfl]));have HTM:Hid (decide (t.blk 3 f=sec q)=true):=H' (decide_eq_true HTQ.out);have HT2:=H' (HT.out.1.ext hso.1.ext);clear hset hrm hu hso;go_wp2_with fail;clear cq d1 d2 d3 d4 d5 hz hq;go_wp2_with fail;apply oV (R:=fun(b25:Nat) (rua:Option Addr) (ruc:Nat) (nc:List Value) w'=>Hid (∃vnc B4,aJ vnc u.ptr=nc/\Cs B w2 c T B4 [(vnc,u.ptr),(vcc,t.ptr),(vsc,t.ptr),(v,t.ptr)] w' ((b25,nc.toArray,26)::[(b21,cc.toArray,26),(b18,sc.toArray,26),(b10,bc.toArray,61),(b9,pc.toArray,26)])))
      case h =>
       refine nY B3 HL (by kernel_rfl) ?_;intro wt SW HSE HSI hkd HL;clear hkd;have HLs:=HL;refine tna 0 (.pointer (some ⟨c,0,none⟩)) rfl (HSI.out _ HL.out.dr) ?_;refine tnd 1 (.agg pc.toArray) rfl (ldD 26 (.tmp 9) b9 0 pc _ (fun w' h=>aC (HLs.out.own (HSE.out w' h) 3)) aI (by rw[hpc];exact aE)) (HSI.out _ HL.out.dr) ?_;refine tna 2 (.int .i64 (f:Int)) rfl (HSI.out _ HL.out.dr) ?_;refine tna 3 (.int .u8 mz) rfl (HSI.out _ HL.out.dr) ?_;refine dN (k:=4) (l:=9) rfl rfl (by kernel_rfl) ?_ ?_
       ·go_wp2_with fail
        refine((by rw[←HVM.out];exact gF wt m:Calls _ _ _ wt (lY wt m))).mono ?_;rintro e wu ⟨v_,rfl,ho,hk⟩;obtain⟨rua,ruc,rfl,-,-⟩:=(Rd.of_owns ho).form;have Hru:=H' ho;have HruO:=H' (jQ ho (fun i e=>HL.out.ki.lt e));replace HL:=H' (HL.out.keeps hk);clear ho hk;go_wp2_with fail;refine⟨HSI.out _ HL.out.dr,?_⟩;refine dN (k:=5) (l:=9) rfl rfl (by kernel_rfl) ?_ ?_
        ·go_wp2_with fail
         have hsz:=HL.out.keep.size;refine((by rw[←HPC.out];have h:=gP HL.out.ki v t HT.out.1 (HL.out.pv0 2) f hf64 (.slice rua 256 ruc) (sec m) (eN m) (Rd.of_owns Hru.out) HruO.out;rw[HSET.out] at h;exact h:Calls _ _ _ wu (bA wu c B3 (.slice none 0 0) (some u) T))).mono ?_;rintro e wv ⟨vnc,B4,rfl,hpv,hki,hbb,-,hnw,hk⟩;replace hpv:aL wv B4 vnc u.ptr:=hpv;rw[show dM (some u)=u.ptr from rfl,show eL (some u)=0 from rfl];replace HL:=H' (HL.out.laid (fun _ _ e=>e) hpv hki hbb (iN hnw) hk);obtain⟨nc,HNC,hnc,HONC⟩:=nmP hpv;rw[HNC.out];clear hsz hpv hki hbb hnw hk Hru HruO;go_wp2_with fail;refine⟨HSI.out _ HL.out.dr,?_⟩;refine tna 6 (.tuple #[.agg nc.toArray,.int .i64 0]) rfl (HSI.out _ HL.out.dr) ?_;refine tnb 7 (.agg nc.toArray) rfl (HSI.out _ HL.out.dr) ?_;refine tnb 8 (.int .i64 0) rfl (HSI.out _ HL.out.dr) ?_;refine aF (k:=9) rfl (by kernel_rfl) ?_;refine alD HL HSI 26 (.agg aH.toArray) (aH.toArray) aU ?_;intro b25 ww hb25 hk HL;clear hk;refine aF (k:=10) rfl (by kernel_rfl) ?_;refine stD HL HSI 0 rfl 26 (.tmp 25) (.tmp 164) nc (.inl hb25) (by first|rfl|simp[hnc,aG]) (by rw[hnc];exact aE) HONC.out ?_;intro wx HL;refine tna 11 (.int .i64 0) rfl (HSI.out _ HL.out.dr) ?_;refine wpAnyH_done (by kernel_rfl) ?_ _;refine noP ?_;exact⟨rfl,b25,rua,ruc,nc,rfl,H' ⟨vnc,B4,HNC.out,HL.out.toCs⟩⟩
        ·refine alD HL HSI 26 (.agg aH.toArray) (aH.toArray) aU ?_
         intro b25 wv hb25 hk HL;replace Hru:=H' (hk.owns Hru.out fun _ _=>id);replace HruO:=H' (fun i hi=>And.intro (HruO.out i hi).1 (Nat.lt_of_lt_of_le (HruO.out i hi).2 (hk).size));clear hk;refine aF (k:=5) rfl (by kernel_rfl) ?_;go_wp2_with fail;have hsz:=HL.out.keep.size;refine((by rw[←HPC.out];have h:=gP HL.out.ki v t HT.out.1 (HL.out.pv0 2) f hf64 (.slice rua 256 ruc) (sec m) (eN m) (Rd.of_owns Hru.out) HruO.out;rw[HSET.out] at h;exact h:Calls _ _ _ wv (bA wv c B3 (.slice none 0 0) (some u) T))).mono ?_;rintro e ww ⟨vnc,B4,rfl,hpv,hki,hbb,-,hnw,hk⟩;replace hpv:aL ww B4 vnc u.ptr:=hpv;rw[show dM (some u)=u.ptr from rfl,show eL (some u)=0 from rfl];replace HL:=H' (HL.out.laid (fun _ _ e=>e) hpv hki hbb (iN hnw) hk);obtain⟨nc,HNC,hnc,HONC⟩:=nmP hpv;rw[HNC.out];clear hsz hpv hki hbb hnw hk Hru HruO;go_wp2_with fail;refine⟨HSI.out _ HL.out.dr,?_⟩;refine tna 6 (.tuple #[.agg nc.toArray,.int .i64 0]) rfl (HSI.out _ HL.out.dr) ?_;refine tnb 7 (.agg nc.toArray) rfl (HSI.out _ HL.out.dr) ?_;refine tnb 8 (.int .i64 0) rfl (HSI.out _ HL.out.dr) ?_;refine aF (k:=10) rfl (by kernel_rfl) ?_;refine stD HL HSI 0 rfl 26 (.tmp 25) (.tmp 164) nc (.inl hb25) (by first|rfl|simp[hnc,aG]) (by rw[hnc];exact aE) HONC.out ?_;intro wx HL;refine tna 11 (.int .i64 0) rfl (HSI.out _ HL.out.dr) ?_;refine wpAnyH_done (by kernel_rfl) ?_ _;refine noP ?_;exact⟨rfl,b25,rua,ruc,nc,rfl,H' ⟨vnc,B4,HNC.out,HL.out.toCs⟩⟩
       ·refine alD HL HSI 26 (.agg aH.toArray) (aH.toArray) aU ?_
        intro b25 wu hb25 hk HL;clear hk;refine aF (k:=4) rfl (by kernel_rfl) ?_;go_wp2_with fail;refine((by rw[←HVM.out];exact gF wu m:Calls _ _ _ wu (lY wu m))).mono ?_;rintro e wv ⟨v_,rfl,ho,hk⟩;obtain⟨rua,ruc,rfl,-,-⟩:=(Rd.of_owns ho).form;have Hru:=H' ho;have HruO:=H' (jQ ho (fun i e=>HL.out.ki.lt e));replace HL:=H' (HL.out.keeps hk);clear ho hk;go_wp2_with fail;refine⟨HSI.out _ HL.out.dr,?_⟩;refine aF (k:=5) rfl (by kernel_rfl) ?_;go_wp2_with fail;have hsz:=HL.out.keep.size;refine((by rw[←HPC.out];have h:=gP HL.out.ki v t HT.out.1 (HL.out.pv0 2) f hf64 (.slice rua 256 ruc) (sec m) (eN m) (Rd.of_owns Hru.out) HruO.out;rw[HSET.out] at h;exact h:Calls _ _ _ wv (bA wv c B3 (.slice none 0 0) (some u) T))).mono ?_;rintro e ww ⟨vnc,B4,rfl,hpv,hki,hbb,-,hnw,hk⟩;replace hpv:aL ww B4 vnc u.ptr:=hpv;rw[show dM (some u)=u.ptr from rfl,show eL (some u)=0 from rfl];replace HL:=H' (HL.out.laid (fun _ _ e=>e) hpv hki hbb (iN hnw) hk);obtain⟨nc,HNC,hnc,HONC⟩:=nmP hpv;rw[HNC.out];clear hsz hpv hki hbb hnw hk Hru HruO;go_wp2_with fail;refine⟨HSI.out _ HL.out.dr,?_⟩;refine tna 6 (.tuple #[.agg nc.toArray,.int .i64 0]) rfl (HSI.out _ HL.out.dr) ?_;refine tnb 7 (.agg nc.toArray) rfl (HSI.out _ HL.out.dr) ?_;refine tnb 8 (.int .i64 0) rfl (HSI.out _ HL.out.dr) ?_;refine aF (k:=10) rfl (by kernel_rfl) ?_;refine stD HL HSI 0 rfl 26 (.tmp 25) (.tmp 164) nc (.inl hb25) (by first|rfl|simp[hnc,aG]) (by rw[hnc];exact aE) HONC.out ?_;intro wx HL;refine tna 11 (.int .i64 0) rfl (HSI.out _ HL.out.dr) ?_;refine wpAnyH_done (by kernel_rfl) ?_ _;refine noP ?_;exact⟨rfl,b25,rua,ruc,nc,rfl,H' ⟨vnc,B4,HNC.out,HL.out.toCs⟩⟩
      case hR =>
       rintro b25 rua ruc nc wy HF;obtain⟨vnc,B4,hcs,hl⟩:=HF.out;have HL:=H' hl;have HNC:=H' hcs;have hnc:nc.length=35:=by rw[←hcs];exact aN (HL.out.pv0 0).pt.sum
       have HONC:Hid (∀u∈nc,u.oneCell'=true):=H' (by rw[←hcs];exact bC (HL.out.pv0 0).pt);clear hcs hl HF;have hfew:=HFEW.out;go_wp2_with fail;refine((Cy HL.out.ki HRM2.out ((R:Int)-4) (by omega))).mono ?_;rintro e wz ⟨rfl,hk⟩;replace HL:=H' (HL.out.keeps hk);clear hk;go_wp2_with fail;have hr4:(4:Int)≤(R:Int):=by omega
       have hr5:(R:Int)≤40000:=by omega
       refine nY B4 HL (by kernel_rfl) ?_;intro wq36 SW HSE HSI hkd HL;clear hkd;have HLs:=HL;refine tna 0 (.bool true) rfl (HSI.out _ HL.out.dr) ?_;refine tna 1 (.bool true) rfl (HSI.out _ HL.out.dr) ?_;refine tna 2 (.int .i64 0) rfl (HSI.out _ HL.out.dr) ?_;refine tnb 3 (.bool true) rfl (HSI.out _ HL.out.dr) ?_;refine tna 4 (.bool true) rfl (HSI.out _ HL.out.dr) ?_;refine tna 5 (.bool true) rfl (HSI.out _ HL.out.dr) ?_;refine tna 6 (.int .i64 0) rfl (HSI.out _ HL.out.dr) ?_;refine tnb 7 (.bool true) rfl (HSI.out _ HL.out.dr) ?_;refine tna 8 (.bool true) rfl (HSI.out _ HL.out.dr) ?_;refine tna 9 (.bool true) rfl (HSI.out _ HL.out.dr) ?_;refine tna 10 (.int .i64 ((R:Int)-4)) rfl (HSI.out _ HL.out.dr) ?_;refine tna 11 (.int .i64 (R:Int)) rfl (HSI.out _ HL.out.dr) ?_;refine tnd 12 (.int .i64 ((R:Int)-4)) rfl (.inl ⟨by rfl,fun _ _=>by have hwr:IntKind.i64.wrap ((R:Int)-4)=(R:Int)-4:=(by rw[IntKind.wrap_i64];omega);go_simp⟩) (HSI.out _ HL.out.dr) ?_;refine tnb 13 (.bool true) rfl (HSI.out _ HL.out.dr) ?_;refine tna 14 (.bool true) rfl (HSI.out _ HL.out.dr) ?_;refine tna 15 (.bool true) rfl (HSI.out _ HL.out.dr) ?_;refine tna 16 (.pointer (some ⟨c,0,none⟩)) rfl (HSI.out _ HL.out.dr) ?_;refine tnd 17 (.agg nc.toArray) rfl (ldD 26 (.tmp 25) b25 0 nc _ (fun w' h=>aC (HLs.out.own (HSE.out w' h) 0)) aI (by rw[hnc];exact aE)) (HSI.out _ HL.out.dr) ?_;refine tna 18 (.int .i64 (f:Int)) rfl (HSI.out _ HL.out.dr) ?_;refine tna 19 (.int .u8 mz) rfl (HSI.out _ HL.out.dr) ?_;refine aF (k:=20) rfl (by kernel_rfl) ?_;go_wp2_with fail;refine((by rw[←HVM.out];exact gF wq36 m:Calls _ _ _ wq36 (lY wq36 m))).mono ?_;rintro e wq37 ⟨v_,rfl,ho,hk⟩;obtain⟨rpa,rpc,rfl,-,-⟩:=(Rd.of_owns ho).form;have Hrp:=H' ho;have HrpO:=H' (jQ ho (fun i e=>HL.out.ki.lt e));replace HL:=H' (HL.out.keeps hk);clear ho hk;go_wp2_with fail;refine⟨HSI.out _ HL.out.dr,?_⟩;refine aF (k:=21) rfl (by kernel_rfl) ?_;go_wp2_with fail;refine((by rw[←HNC.out];have h:=pH HL.out.ki vnc u HU.out (HL.out.pv0 0) f hf64 (.slice rpa 256 rpc) (sec m) (eN m) (Rd.of_owns Hrp.out);rw[HUM.out] at h;exact h:Calls _ _ _ wq37 (bE wq37 true))).mono ?_;rintro e wq38 ⟨rfl,hk⟩;replace HL:=H' (HL.out.keeps hk);clear hk Hrp HrpO;go_wp2_with fail;refine⟨HSI.out _ HL.out.dr,?_⟩;refine tna 22 (.bool true) rfl (HSI.out _ HL.out.dr) ?_;refine tna 23 (.bool true) rfl (HSI.out _ HL.out.dr) ?_;refine tna 24 (.pointer (some ⟨c,0,none⟩)) rfl (HSI.out _ HL.out.dr) ?_;refine tnd 25 (.agg pc.toArray) rfl (ldD 26 (.tmp 9) b9 0 pc _ (fun w' h=>aC (HLs.out.own (HSE.out w' h) 4)) aI (by rw[hpc];exact aE)) (HSI.out _ HL.out.dr) ?_;refine tna 26 (.int .i64 (f:Int)) rfl (HSI.out _ HL.out.dr) ?_;refine tna 27 (.int .i64 (f:Int)) rfl (HSI.out _ HL.out.dr) ?_;refine tnb 28 (.pointer (some ⟨b10,f,none⟩)) rfl (HSI.out _ HL.out.dr) ?_;refine tnd 29 (vb q) rfl (.inl ⟨by rfl,fun w' h=>by have c:World.cell? w' ⟨b10,f,none⟩=some (vb q):=(aD (i:=f) (HLs.out.own (HSE.out w' h) 3) HBQ.out);go_simp⟩) (HSI.out _ HL.out.dr) ?_;refine aF (k:=30) rfl (by kernel_rfl) ?_;go_wp2_with fail;refine(gF wq38 q).mono ?_;rintro e wq39 ⟨v_,rfl,ho,hk⟩;obtain⟨rqa,rqc,rfl,-,-⟩:=(Rd.of_owns ho).form;have Hrq:=H' ho;have HrqO:=H' (jQ ho (fun i e=>HL.out.ki.lt e));replace HL:=H' (HL.out.keeps hk);clear ho hk;go_wp2_with fail;refine⟨HSI.out _ HL.out.dr,?_⟩;refine aF (k:=31) rfl (by kernel_rfl) ?_;go_wp2_with fail;refine((by rw[←HPC.out];have h:=pH HL.out.ki v t HT2.out (HL.out.pv0 3) f hf64 (.slice rqa 256 rqc) (sec q) (eN q) (Rd.of_owns Hrq.out);rw[HTM.out] at h;exact h:Calls _ _ _ wq39 (bE wq39 true))).mono ?_;rintro e wq40 ⟨rfl,hk⟩;replace HL:=H' (HL.out.keeps hk);clear hk Hrq HrqO;go_wp2_with fail;refine⟨HSI.out _ HL.out.dr,?_⟩;refine tna 32 (.bool true) rfl (HSI.out _ HL.out.dr) ?_;refine tna 33 (.bool true) rfl (HSI.out _ HL.out.dr) ?_;refine wpAnyH_done (by kernel_rfl) ?_ _;refine noP ?_;have HP:=H' (HL.out.fin HBN.out HKW.out);clear HL HLs HSE HSI;go_wp2_with fail;go_ret;exact⟨rfl,HP.out⟩
end
section
open Go.ChangeShapes Go.WideShapes Go.ChangeAt Go.RowKit
theorem wH(os:Os)(started:os.Started)(H:Type)(enc:TypeId×Value->H) :
 ReturnsInHanded {} Tryz.checked os 4 .any (Rows.treeStillSpec.pre6 enc Tryz.prog Tryz.f4 Rows.treeStillRow.domain false) (Rows.treeStillSpec.post enc Tryz.prog Tryz.f4 false true false false):=by
 refine returnsInHanded_of_change (C:=Tryz.checked) own started (by kernel_rfl) Tryz.func4
  (ChangeSpec.witness6 (enc:=enc) (C:=Tryz.checked) false ⟨#[],#[.slice none 0 0,.int .i64 0,.int .u8 0],[]⟩ 64 (by kernel_rfl) (by kernel_rfl) (by kernel_rfl) (by kernel_rfl)) ?_
 intro W base args ds gs before hval0 hW hcnd _;have hval:∀(j:Nat) t v,Tryz.f4.params[j]?=some t->args[j]?=some v->Value.okWide Tryz.prog W .any base t v:=hval0;have hW':=hW;obtain⟨p,q,hA0,hV,rfl,hfz,hnd⟩:=hW;have hA:DataW.TrodAll enc Tryz.prog W 0 (fun _=>true) true Tryz.f4.params.toList args.toList ds p:=hA0;rw[Tryz.params4] at hA hval;obtain⟨v0,vs0,d0,ds0,p0,q0,hargs0,rfl,rfl,h0,r0⟩:=trodAll_cons hA;obtain⟨v1,vs1,d1,ds1,p1,q1,hargs1,rfl,rfl,h1,r1⟩:=trodAll_cons r0;obtain⟨v2,vs2,d2,ds2,p2,q2,hargs2,rfl,rfl,h2,r2⟩:=trodAll_cons r1;obtain⟨hv2,rfl,rfl⟩:=trodAll_nil r2;obtain rfl:args=#[v0,v1,v2]:=by apply Array.toList_inj.1;rw[hargs0];simp only[hargs1,hargs2,hv2]
 clear hargs0 hargs1 hargs2 hv2;obtain⟨rfl,rfl⟩:=trodVars_none hV;obtain⟨a0,len0,cap0,rfl⟩:=okWide_slice Tryz.underlying59 (hval 0 59 v0 rfl rfl);obtain⟨n1,rfl⟩:=okWide_int Tryz.underlying3 (hval 1 3 v1 rfl rfl);obtain⟨n2,rfl⟩:=okWide_int Tryz.underlying5 (hval 2 5 v2 rfl rfl);have k0:=h0;have lt0:∀x∈p0,x.block<W.heap.size:=by obtain⟨m,hm⟩:=k0;exact DataW.trod_lt m _ _ _ hm
 have k1:=h1;have lt1:∀x∈p1,x.block<W.heap.size:=by obtain⟨m,hm⟩:=k1;exact DataW.trod_lt m _ _ _ hm
 have k2:=h2;have lt2:∀x∈p2,x.block<W.heap.size:=by obtain⟨m,hm⟩:=k2;exact DataW.trod_lt m _ _ _ hm
 clear hA0 hval0 hval
 obtain⟨l0,hll0,hlo0,hrd0⟩:∃l:List EdV,l.length=len0/\(∀y∈l,CE y)/\Rd W 4 (.slice a0 len0 cap0) len0 (Bb l):=by
  obtain⟨fuel,hf⟩:=h0;exact Dg (by simpa [Value.cells] using hf)
 subst hll0
 have hn1:-9223372036854775808≤n1/\n1≤9223372036854775807:=by
  obtain⟨fuel,hf⟩:=h1;obtain⟨a,e0,-,wa⟩:=DataW.trod_int Tryz.underlying3 hf;simp[Value.cells] at e0;subst e0;exact bounds_i64 wa
 obtain⟨m2,rfl⟩:∃m:UInt8,n2=(m.toNat:Int):=by
  obtain⟨fuel,hf⟩:=h2;obtain⟨b,hb⟩:=DQ hf;simp[Value.cells,vb] at hb;exact⟨b,hb⟩
 refine(zH W _ l0 hlo0 hrd0 n1 hn1.1 hn1.2 m2).mono fun e W' ⟨he,hk⟩=>?_
 subst he;have bel:=hk.below;exact⟨_,rfl,_,_,_,[],_,[],hW',trodAll_mk1 (shut_bool Tryz.underlying4 _),(trodAll_cons_mk (Below.trod zG (by kernel_rfl) (of_decide_eq_true (by kernel_rfl)) k0 bel lt0) (trodAll_cons_mk (Below.trod zG (by kernel_rfl) (of_decide_eq_true (by kernel_rfl)) k1 bel lt1) (trodAll_cons_mk (Below.trod zG (by kernel_rfl) (of_decide_eq_true (by kernel_rfl)) k2 bel lt2) trodAll_mk0))),rfl,bel.frame _,fun h=>by cases h⟩
theorem cL{a b:Bool}(h:a=true)(k:b=true):(a && b)=true:=by rw[h,k];rfl
theorem cl0:(Rows.treeStillRow.wf (OpenSpec.ofChange Rows.treeStillSpec))=true:=by kernel_rfl
theorem cl1:(laidOutB Tryz.pinned.checked.prog)=true:=by kernel_rfl
theorem cl2:(mapsRowed Tryz.pinned.checked.prog)=true:=by kernel_rfl
theorem cl3:(Tryz.f4.params.all (Tryz.pinned.checked.prog.readableRec ·))=true:=by kernel_rfl
theorem cl4:(namedTie Tryz.pinned.checked.prog Rows.treeStillRow.named Rows.treeStillSpec.vars)=true:=by kernel_rfl
theorem cl5:(Rows.treeStillRow.stops == [])=true:=by kernel_rfl
theorem cl6:(Tryz.pinned.checked.prog.stops == [])=true:=by kernel_rfl
theorem cl7:(Rows.treeStillRow.knobs == [])=true:=by kernel_rfl
theorem cl8:(Tryz.pinned.checked.prog.stopKnobs == [])=true:=by kernel_rfl
theorem cl9:(Rows.treeStillRow.inPlace == Tryz.pinned.checked.prog.inPlace 4)=true:=by kernel_rfl
theorem L1:(Rows.treeStillRow.unfollowed == Tryz.pinned.checked.prog.unfollowed 4)=true:=by kernel_rfl
theorem L2:(Rows.treeStillRow.recurses == Tryz.pinned.checked.prog.recurses 4)=true:=by kernel_rfl
theorem L3:(Rows.treeStillRow.named == Tryz.pinned.checked.prog.varsNamed 4)=true:=by kernel_rfl
theorem L4:(Rows.treeStillRow.maps == (Tryz.f4.params.toList++Rows.treeStillSpec.plain.varTypes Tryz.pinned.checked.prog).any (Tryz.pinned.checked.prog.mapsRec ·))=true:=by kernel_rfl
theorem L5:(Rows.treeStillRow.ifaces == (Tryz.f4.params.toList++Rows.treeStillSpec.plain.varTypes Tryz.pinned.checked.prog).any (Tryz.pinned.checked.prog.ifacesRec ·))=true:=by kernel_rfl
theorem L6:(Rows.treeStillRow.mapsOut == Tryz.pinned.checked.prog.mapsAmong Tryz.f4.resultTypes.toList)=true:=by kernel_rfl
theorem L7:(Rows.treeStillRow.loops == (Tryz.f4.params.toList++Rows.treeStillSpec.plain.varTypes Tryz.pinned.checked.prog).any (Tryz.pinned.checked.prog.loopsFrom ·))=true:=by kernel_rfl
theorem L8:(Rows.treeStillRow.wideKeys == ((Tryz.f4.params.toList++Rows.treeStillSpec.plain.varTypes Tryz.pinned.checked.prog)++Tryz.f4.resultTypes.toList).any (Tryz.pinned.checked.prog.wideKeysFrom ·))=true:=by kernel_rfl
theorem L9:(Rows.treeStillSpec.vars.all (Tryz.pinned.checked.prog.varReadable ·))=true:=by kernel_rfl
theorem Ma:(Tryz.f4.resultTypes.all (fun t=>Tryz.pinned.checked.prog.readableRec t && decide (t<Tryz.pinned.checked.prog.types.size)))=true:=by kernel_rfl
theorem Mb:(Rows.treeStillRow.ifacesOut == Tryz.f4.resultTypes.toList.any (Tryz.pinned.checked.prog.ifacesRec ·))=true:=by kernel_rfl
theorem Mc:(Rows.treeStillRow.loopsOut == Tryz.f4.resultTypes.toList.any (Tryz.pinned.checked.prog.loopsFrom ·))=true:=by kernel_rfl
theorem Md:(Rows.treeStillRow.plainKeys == Tryz.pinned.checked.prog.plainKeys)=true:=by kernel_rfl
theorem Me:(Rows.treeStillRow.shortTexts.isNone)=true:=by kernel_rfl
theorem Mf:(Tryz.pinned.checked.prog.stopsHeard)=true:=by kernel_rfl
theorem Mg:(Tryz.pinned.checked.prog.mayEnter)=true:=by kernel_rfl
theorem Mh:(Rows.treeStillRow.lifted == Tryz.pinned.checked.prog.liftsFinal)=true:=by kernel_rfl
theorem Mi:(Tryz.pinned.checked.prog.make == some Rows.treeStillRow.make)=true:=by kernel_rfl
theorem Mj:(Rows.treeStillRow.kinds == (if Rows.treeStillRow.domain.isEmpty then [] else Tryz.f4.params.toList.map fun t=>match Tryz.pinned.checked.prog.underlying t with|some (.int k)=>some k|_=>none))=true:=by kernel_rfl
theorem Mk:(Rows.treeStillRow.pinned == Rows.treeStillRow.pinnedBy)=true:=by kernel_rfl
theorem Ml:(Rows.treeStillRow.veiled == ((Tryz.f4.params.toList++Rows.treeStillSpec.plain.varTypes Tryz.pinned.checked.prog)++Tryz.f4.resultTypes.toList).any (Tryz.pinned.checked.prog.veiledRec ·))=true:=by kernel_rfl
theorem Mn:(Rows.treeStillRow.veiledFits Tryz.pinned.checked.prog Tryz.f4.params.toList ((Tryz.f4.params.toList++Rows.treeStillSpec.plain.varTypes Tryz.pinned.checked.prog)++Tryz.f4.resultTypes.toList))=true:=by kernel_rfl
theorem wI:joinedFacts Tryz.pinned.checked.prog 4 Tryz.f4 Rows.treeStillSpec Rows.treeStillRow=true:=by
 unfold joinedFacts;exact(cL (cL (cL (cL (cL (cL (cL (cL (cL (cL (cL (cL (cL (cL (cL (cL (cL (cL (cL (cL (cL (cL (cL (cL (cL (cL (cL (cL (cL (cL (cL cl0 cl1) cl2) cl3) cl4) cl5) cl6) cl7) cl8) cl9) L1) L2) L3) L4) L5) L6) L7) L8) L9) Ma) Mb) Mc) Md) Me) Mf) Mg) Mh) Mi) Mj) Mk) Ml) Mn)
theorem zI:Tryz.f4.isWrapper Tryz.pinned.checked.prog Rows.treeStillRow.wrapper Rows.treeStillRow.mainSum:=by unfold Func.isWrapper;first|(rw[if_pos (by decide +kernel)];kernel_rfl)|(rw[if_neg (by decide +kernel)];exact⟨rfl,rfl⟩)
theorem yC:Tryz.pinned.checked.prog.funcNamed Rows.treeStillRow.func=some 4:=by kernel_rfl
theorem treeStill_proved:Rows.TreeStillSaid:=
 OpenClaim.holds_of_wide 4 Tryz.f4 rfl rfl rfl rfl rfl rfl rfl ⟨rfl,rfl,rfl,rfl,rfl⟩ rfl rfl rfl rfl rfl yC Tryz.func4 wI (of_decide_eq_true (by kernel_rfl)) zI
  (fun os started H enc _=>wH os started H enc)
end
end Go.Proofs.YtjkbekifgobeaaaGreat
