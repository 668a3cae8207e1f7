/- A part of the proof. Conditions: those told. -/
import Derived.Test.YtjkbekifgobeaaaGreatT1
import Derived.Test.YtjkbekifgobeaaaGreatT32
namespace Go.Proofs.YtjkbekifgobeaaaGreat
set_option maxHeartbeats 64000000
set_option maxRecDepth 100000
set_option linter.unusedVariables false
section
open Go.RowKit Go.Maps Go.ChangeMaps
def Ll(l:Nat):Prop:=∀(w:World) (c:Nat) (S:Kor) (B:Nat->Prop),KI w c S B->∀(b4 b5:Nat) (pv:Value) (t:Tr) (f g:Int),(-1000≤f/\f≤1000)->(-1000≤g/\g≤1000)->Tr.Ok S l t->aL w B pv t.ptr->cJ w B b4 b5 c ->
 Calls Tryz.prog 54 #[.agg (aJ pv t.ptr).toArray,.int .i64 (l:Int),.int .i64 f,.int .i64 g,.pointer (some ⟨b4,0,none⟩),.pointer (some ⟨b5,0,none⟩)] w (bA w c B pv (cU l S t f g).1 (cU l S t f g).2)
theorem G5{l:Nat}(hl2:l≤2)(IH:Ll l){w:World}{c:Nat}{S:Kor}{B:Nat->Prop}(hK:KI w c S B){b4 b5:Nat}(pv:Value)(t:Tr)(f g:Int)(hf:-1000≤f/\f≤1000)(hg:-1000≤g/\g≤1000)(ht:Tr.Ok S (l+1) t)(hp:aL w B pv t.ptr)(hc:cJ w B b4 b5 c)(hh:t.isHole=false)(he:¬min g (4 ^ (l+1))≤max f 0)(hw:¬min g (4 ^ (l+1))-max f 0=4 ^ (l+1)):Calls Tryz.prog 54 #[.agg (aJ pv t.ptr).toArray,.int .i64 ((l+1:Nat):Int),.int .i64 f,.int .i64 g,.pointer (some ⟨b4,0,none⟩),.pointer (some ⟨b5,0,none⟩)] w (bA w c B pv (cU (l+1) S t f g).1 (cU (l+1) S t f g).2):=by
 have HT:=H' ht;have HC:=H' hc;have HIH:=H' IH;have HBLT:=H' (fun i (e:B i)=>hK.lt e);have HBD:=H' hK.bd;have HC45:=H' (And.intro hc.o4.2 hc.o5.2);have HPLT:=H' (fun i hi=>(hp.off i hi).2.lt);have HHE:=H' ht.hole_eq;rw[hh] at HHE;have HPT:=H' hp;have HK:=H' hK;obtain⟨p,hpe⟩:∃p,t.ptr=p:=⟨_,rfl⟩
 have HPE:=H' hpe;rw[hpe] at HPT hp HHE ⊢;obtain⟨pc,HPC,hpc,HOP⟩:=nmPt hp.pt;rw[HPC.out];have hzp:(aJ (.slice none 0 0) zPt).length=35:=rfl;have hzb:=iL;obtain⟨zp,hzpe⟩:∃l,aJ (.slice none 0 0) zPt=l:=⟨_,rfl⟩
 have HOZP:Hid (∀u∈zp,u.oneCell'=true):=H' (by rw[←hzpe];exact bY zPt);have HZPE:=H' hzpe;rw[hzpe] at hzp hzb;have HZB:=H' hzb;clear hzpe hzb;have HL:=H' (Loc.nil aB aB w);obtain⟨m,hm⟩:∃m:Nat,4 ^ (l+1)=m:=⟨_,rfl⟩
 have HM:=H' hm;have hl:l+1≤3:=by omega
 have hm64:m≤64/\1≤m:=by
  have:l=0\/l=1\/l=2:=by omega
  rcases this with rfl|rfl|rfl<;>omega
 have hll:0≤((l+1:Nat):Int):=by omega
 have em:(4:Int) ^ (l+1)=(m:Int):=by rw[←hm];exact_mod_cast rfl
 have HCT:Hid (cU (l+1) S t f g=match jE (cU l) (4 ^ l) S t (max f 0) (min g (m:Int)) 4 with
  | (none,T)=>(none,T)
  | (some (k,ch),T)=>if ch then T.lay (l+1) k else (some t,T)):=H' (by
  show (if t.isHole || decide (min g (4 ^ (l+1))≤max f 0) then (some t,S) else if min g (4 ^ (l+1))-max f 0=4 ^ (l+1) then (some .hole,S) else _)=_;rw[hh,decide_eq_false he,if_neg (by decide),if_neg hw,em];rfl)
 rw[em] at he hw;have he3:decide (max f 0 ≥ min g (m:Int))=false:=decide_eq_false he;clear hp hpe hK ht hc hm em hh IH;go_enter Tryz.func54,Tryz.ntmps54
 go_wp2_with (first
  | ((with_reducible show WL (some 6) (.box 26 _));refine bx 26 (.tmp 0) (pc.toArray) ?_))
 intro b6 w1 hbs hk hb;replace HL:=H' (HL.out.new (fun _ h=>h.elim) hbs hk hb);replace HPT:=H' (aL.keep0 HPT.out hk);replace HK:=H' (HK.out.keep0 hk);replace HC:=H' (cJ.keep0 HC.out hk);clear hbs hk hb
 go_wp2_with (first
  | ((with_reducible show WL (some 10) (.alloc 26));refine al 26 (.agg aH.toArray) (aH.toArray) aU ?_))
 intro b10 w2 hbs hk hb;replace HL:=H' (HL.out.new (fun _ h=>h.elim) hbs hk hb);replace HPT:=H' (aL.keep0 HPT.out hk);replace HK:=H' (HK.out.keep0 hk);replace HC:=H' (cJ.keep0 HC.out hk);clear hbs hk hb;go_wp2_with fail;refine((by rw[←HM.out];exact jG w2 (l+1) hl:Calls _ _ _ w2 (aM w2 (.int .i64 (m:Int))))).mono ?_;rintro e w3 ⟨rfl,hk⟩;replace HL:=H' (HL.out.keeps hk);replace HPT:=H' (aL.keep0 HPT.out hk);replace HK:=H' (HK.out.keep0 hk);replace HC:=H' (cJ.keep0 HC.out hk);clear hk
 go_wp2_with (first
  | ((with_reducible show WL (some 27) (.load 26 _));refine wpList_load_mid rfl 26 (.tmp 6) rfl b6 0 rfl pc _ (aC (HL.out.b 1)) aI rfl (by rw[hpc];exact aE) ?_))
 refine((by rw[←HPC.out];exact cK w3 pv p HPT.out.pt:Calls _ _ _ w3 (bE w3 p.hole))).mono ?_;rintro e w4 ⟨rfl,hk⟩;replace HL:=H' (HL.out.keeps hk);replace HPT:=H' (aL.keep0 HPT.out hk);replace HK:=H' (HK.out.keep0 hk);replace HC:=H' (cJ.keep0 HC.out hk);clear hk;rw[HHE.out];go_wp2_with fail;refine((by rw[←HM.out];exact jG w4 (l+1) hl:Calls _ _ _ w4 (aM w4 (.int .i64 (m:Int))))).mono ?_;rintro e w5 ⟨rfl,hk⟩;replace HL:=H' (HL.out.keeps hk);replace HPT:=H' (aL.keep0 HPT.out hk);replace HK:=H' (HK.out.keep0 hk);replace HC:=H' (cJ.keep0 HC.out hk);clear hk;have c1:w5.cell? ⟨b4,0,none⟩=some (.pointer (some ⟨c,0,none⟩)):=(aD (i:=0) HC.out.c rfl)
 go_wp2_with (first
  | ((with_reducible show WL (some 45) (.load 26 _));refine wpList_load_mid rfl 26 (.tmp 6) rfl b6 0 rfl pc _ (aC (HL.out.b 1)) aI rfl (by rw[hpc];exact aE) ?_))
 clear c1;have HLW:=H' HL.out.keep.size;have HLB:=H' (And.intro (HL.out.lt 0).2 (HL.out.lt 1).2);refine((by rw[←HPC.out,←HPE.out];exact pG HK.out hl2 pv t HT.out (by rw[HPE.out];exact HPT.out.pt):Calls _ _ _ w5 (iC w5 B l t))).mono ?_;rintro e w6 ⟨vs,rfl,hvs,hnew,hk⟩;have HNN:=H' hvs;have HNW:=H' hnew;have hnn:=dF ((l+1:Nat):Int) vs hvs.nv;have HOF0:=dS ((l+1:Nat):Int) hvs.nv;obtain⟨nn,hnne⟩:∃x,cH ((l+1:Nat):Int) vs (fun i=>(t.kid i).ptr)=x:=⟨_,rfl⟩
 have HOF:Hid (∀u∈nn,u.oneCell'=true):=H' (by rw[←hnne];exact HOF0);have HNF:=H' hnne;rw[hnne] at hnn ⊢;obtain⟨tc,htce⟩:∃x,qL vs (fun i=>(t.kid i).ptr)=x:=⟨_,rfl⟩
 have HNT:Hid (nn=.int .i64 ((l+1:Nat):Int)::tc):=H' (by rw[←hnne,←htce];rfl);have HTC:=H' htce;have hnt:tc.length=140:=by have h:=hnn;rw[HNT.out,List.length_cons] at h;omega
 have HNL:=H' (fun q (hq:q<4) i hi=>((hvs q hq).off i hi).2.lt);clear HOF0 hnne hvs hnew htce;replace HL:=H' (HL.out.keeps hk);replace HPT:=H' (aL.keep0 HPT.out hk);replace HK:=H' (HK.out.keep0 hk);replace HC:=H' (cJ.keep0 HC.out hk);clear hk
 go_wp2_with (first
  | ((with_reducible show WL (some 12) (.alloc 123));refine al 123 (.agg dY.toArray) (dY.toArray) kY ?_))
 intro b12 w7 hbs hk0 hb0_
 go_wp2_with (first
  | ((with_reducible show WL _ (.store 123 (.tmp 12) (.tmp 48)));refine sta 123 (.tmp 12) (.tmp 48) b12 0 nn hb0_ (by first|decide|(rw[List.size_toArray,hnn];exact Nat.le_refl _)|simp[hnn,cN]) (by rw[hnn];exact dZ) HOF.out ?_))
 intro w8 hk hb;rw[aK _ _ (by first|rfl|(rw[List.size_toArray,hnn];rfl)|simp[hnn,cN])] at hb;replace hk:=hk0.trans' hk (U:=aB) (fun _ _ h=>h) (fun i hi e=>by omega);have HNb12:=H' (show w6.heap.size≤b12 from Nat.le_of_eq hbs);replace HL:=H' (HL.out.new (fun _ h=>h.elim) hbs hk hb);replace HPT:=H' (aL.keep0 HPT.out hk);replace HK:=H' (HK.out.keep0 hk);replace HC:=H' (cJ.keep0 HC.out hk);replace HNN:=H' (bQ.keep0 HNN.out hk);clear hbs hk hb hk0 hb0_
 go_wp2_with (first
  | ((with_reducible show WL (some 55) (.load 121 _));refine wpList_load_mid rfl 121 (.tmp 54) rfl b12 1 rfl tc _ (by have h:=aC (HL.out.b 0);rw[HNT.out] at h;exact rO h) Tryz.underlying121 rfl (by rw[hnt];exact Jr) ?_))
 have HVO:=H' (show ∀q,q<4->∀i,(vs q).ownBlock=some i->i≠b6/\i≠b10/\i≠b12 from fun q hq i hi=>by (have:=HNW.out q hq i hi;have:=HNL.out q hq i hi;have:=HLB.out;have:=HNb12.out;omega));have HND:=H' (show b12≠b10/\b12≠b6/\b10≠b6 from⟨bK HL.out.nd (i:=1) rfl 0 (by decide) rfl,bK HL.out.nd (i:=2) rfl 0 (by decide) rfl,bK HL.out.nd (i:=2) rfl 1 (by decide) rfl⟩);have HST:Hid (∃K T B' vs',jW w w8 B c b4 b5 b6 b10 b12 l S t (max f 0) (min g (m:Int)) pv vs 0 false w8 K T B' vs'):=H' ⟨t.kid,S,B,vs,rfl,HK.out,HNN.out,HNN.out,by rw[HPE.out];exact HPT.out,HC.out,by (have h:=HL.out.b 0;rw[←HNF.out] at h;exact h),by (have h:=HL.out.b 2;rw[←HPC.out,←HPE.out] at h;exact h),HL.out.b 1,fun _ h=>.inl h,Cl.refl _ _ _ HL.out.keep,HVO.out,aA.refl _ _⟩;have HG:=H' (And.intro (HL.out.lt 0) (And.intro (HL.out.lt 1) (HL.out.lt 2)));have HKW:=H' HL.out.keep;have HPO:=H' (fun i hi=>(HPT.out.off i hi).2);have HPL:=H' HPLT.out;clear HL HK HPT HC HNN
 go_loopw [14,56] (fun ch i wr=>∃(k:Nat) (cb:Bool),k≤4/\ch=.bool cb/\i=.int .i64 (k:Int)/\Hid (∃K T B' vs',jW w w8 B c b4 b5 b6 b10 b12 l S t (max f 0) (min g (m:Int)) pv vs k cb wr K T B' vs')) (fun _ i _=>4-(intOf i).toNat)
 case atStart=>exact⟨0,false,by omega,rfl,rfl,HST⟩
 case round =>
  obtain⟨k,cb,hk,rfl,rfl,HCI⟩:=hrel;obtain⟨K,T,B',vs',hci⟩:=HCI.out
  by_cases hk8:k<4
  ·have HKI:=H' hci.ki;have HQV:=H' (hci.old k hk8);have HCL:=H' hci.cl;have HCX:=H' hci
   have HL:=H' (hci.loc HKW.out HBLT.out HG.out.2.2 HG.out.2.1 HG.out.1 HND.out.1 HND.out.2.1 HND.out.2.2);have HX:=H' (aA.refl aB wr);obtain⟨W,hW⟩:∃W:Nat,4 ^ l=W:=⟨_,rfl⟩
   have hW16:W≤16:=by
    have:l=0\/l=1\/l=2:=by omega
    rcases this with rfl|rfl|rfl<;>omega
   have HW:=H' hW;obtain⟨kw,hkw⟩:∃q:Nat,k*W=q:=⟨_,rfl⟩
   have hkw48:kw≤48:=by rw[←hkw];exact Nat.le_trans (Nat.mul_le_mul (by omega:k≤3) hW16) (by decide)
   have hkwi:(k:Int)*(W:Int)=(kw:Int):=by rw[←hkw];push_cast;rfl
   have HKWI:Hid ((k:Int)*(4:Int) ^ l=(kw:Int)):=H' (by rw[←hkwi,←hW];push_cast;rfl);have hqc:=aN (v:=vs k) HQV.out.pt.sum;have HOQ0:=bC HQV.out.pt;have hex:=DF hci.old.nv hk8;obtain⟨qc,hqce⟩:∃x,aJ (vs k) ((t.kid k).ptr)=x:=⟨_,rfl⟩
   have HOQ:Hid (∀u∈qc,u.oneCell'=true):=H' (by rw[←hqce];exact HOQ0);have HQC:=H' hqce;rw[hqce] at hqc;rw[HTC.out,hqce] at hex;have HEX:=H' hex;obtain⟨⟨r,U⟩,hrU⟩:∃q,cU l T (t.kid k) (max f 0-(kw:Int)) (min g (m:Int)-(kw:Int))=q:=⟨_,rfl⟩
   have HRU:=H' hrU;have HTK:=H' ((HT.out.kid hk8).ext (hci.kids hl2 HBD.out HT.out hk).1.ext);have hk0:(0:Int)≤(k:Int):=by omega
   have hk1:(k:Int)<4:=by omega
   have hHM:=HM.out;have HB2:=H' (And.intro hci.sub hci.keep.size);clear hqce HOQ0 hci hex hW hkw hrU
   go_wp2_with (first
    | ((with_reducible show WL (some 59) (.index _ _ _));refine idx 121 26 4 35 k _ .i64 _ (.tmp 55) (.tmp 56) Tryz.underlying121 hk8 aI rfl sV ?_;rw[HEX.out])
    | ((with_reducible show WL (some 16) (.alloc 26));refine al 26 (.agg aH.toArray) (aH.toArray) aU ?_))
   intro b16 wa hbs hk0 hb0_
   go_wp2_with (first
    | ((with_reducible show WL _ (.store 26 (.tmp 16) (.tmp 59)));refine sta 26 (.tmp 16) (.tmp 59) b16 0 qc hb0_ (by first|decide|(rw[List.size_toArray,hqc];exact Nat.le_refl _)|simp[hqc,aG]) (by rw[hqc];exact aE) HOQ.out ?_))
   intro wb hk hb;rw[aK _ _ (by first|rfl|(rw[List.size_toArray,hqc];rfl)|simp[hqc,aG])] at hb;replace hk:=hk0.trans' hk (U:=aB) (fun _ _ h=>h) (fun i hi e=>by omega);have HNb16:=H' (show wr.heap.size≤b16 from Nat.le_of_eq hbs);replace HL:=H' (HL.out.new (fun k h=>HKI.out.lt h) hbs hk hb);replace HKI:=H' (HKI.out.keep0 hk);replace HQV:=H' (aL.keep0 HQV.out hk);replace HCL:=H' (cJ.keep0 HCL.out hk);replace HX:=H' (HX.out.trans hk);clear hbs hk hb hk0 hb0_;go_wp2_with fail;refine((by rw[←HW.out];exact jG wb l (by omega):Calls _ _ _ wb (aM wb (.int .i64 (W:Int))))).mono ?_;rintro e wc ⟨rfl,hk⟩;replace HL:=H' (HL.out.keeps hk);replace HKI:=H' (HKI.out.keep0 hk);replace HQV:=H' (aL.keep0 HQV.out hk);replace HCL:=H' (cJ.keep0 HCL.out hk);replace HX:=H' (HX.out.trans hk);clear hk;have c1:wc.cell? ⟨b5,0,none⟩=some (.func (.func 54) #[] #[.pointer (some ⟨b4,0,none⟩),.pointer (some ⟨b5,0,none⟩)]):=(by obtain⟨T9,h9⟩:=HCL.out.y;exact aD (i:=0) h9 rfl)
   go_wp2_with (first
    | ((with_reducible show WL (some 67) (.load 26 _));refine wpList_load_mid rfl 26 (.tmp 16) rfl b16 0 rfl qc _ (aC (HL.out.b 0)) aI rfl (by rw[hqc];exact aE) ?_))
   clear c1;refine((by have h:=HIH.out wc c T B' HKI.out b4 b5 (vs k) (t.kid k) (max f 0-(kw:Int)) (min g (m:Int)-(kw:Int)) (by omega) (by omega) HTK.out HQV.out HCL.out;rw[HRU.out,HQC.out] at h;exact h:Calls _ _ _ wc (bA wc c B' (vs k) r U))).mono ?_;rintro e wd ⟨v,B2,hm1,hpv,hki,hbb2,hcl,hnw,hk⟩;have HPV:=H' hpv;have HKI2:=H' hki;have HBB:=H' (show ∀i,B2 i->B' i\/wr.heap.size≤i from fun i hi=>(hbb2 i hi).imp id fun h=>Nat.le_trans HX.out.size h);have HNW:=H' (hnw.imp id fun h=>h.from HX.out.size);have HCL2:=H' ((Cl.refl wr wc B' HX.out).trans hcl);replace HX:=H' (HX.out.any.trans hk);have HPVL:=H' (fun i hi=>(hpv.off i hi).2.lt);replace HQV:=H' (HQV.out.keep hk hbb2);replace HL:=H' (HL.out.turn hk (fun i hi e=>(HB2.out.1 i e).elim id fun e=>by have:=HKW.out.size;omega) (fun i hi hb=>(hbb2 i hb).elim id fun e=>by omega));have hrc:=aN (v:=v) hpv.pt.sum;have HOR0:=bC hpv.pt;obtain⟨rc,hrce⟩:∃x,aJ v (dM r)=x:=⟨_,rfl⟩
   have HOR:Hid (∀u∈rc,u.oneCell'=true):=H' (by rw[←hrce];exact HOR0);have HRC:=H' hrce;rw[hrce] at hrc hm1;subst hm1;clear hrce HOR0 hpv hki hbb2 hcl hnw hk HKI HCL;rcases r with _|u
   ·go_wp2_with (first
     | ((with_reducible show WL (some 18) (.alloc 26));refine al 26 (.agg aH.toArray) (aH.toArray) aU ?_))
    intro b18 we hbs hk0 hb0_
    go_wp2_with (first
     | ((with_reducible show WL _ (.store 26 (.tmp 18) (.tmp 77)));refine sta 26 (.tmp 18) (.tmp 77) b18 0 rc hb0_ (by first|decide|(rw[List.size_toArray,hrc];exact Nat.le_refl _)|simp[hrc,aG]) (by rw[hrc];exact aE) HOR.out ?_))
    intro wf hk hb;rw[aK _ _ (by first|rfl|(rw[List.size_toArray,hrc];rfl)|simp[hrc,aG])] at hb;replace hk:=hk0.trans' hk (U:=aB) (fun _ _ h=>h) (fun i hi e=>by omega);have HNb18:=H' (show wd.heap.size≤b18 from Nat.le_of_eq hbs);replace HL:=H' (HL.out.new (fun k h=>HKI2.out.lt h) hbs hk hb);replace HQV:=H' (aL.keep0 HQV.out hk);replace HKI2:=H' (HKI2.out.keep0 hk);replace HPV:=H' (aL.keep0 HPV.out hk);replace HX:=H' (HX.out.trans (aA.any hk));replace HCL2:=H' (Cl.onT HCL2.out hk fun _ _=>id);clear hbs hk hb hk0 hb0_
    go_wp2_with (first
     | ((with_reducible show WL (some 81) (.build _ _));refine bld 26 #[] [] (.agg zp.toArray) HZB.out ?_)
     | ((with_reducible show WL _ (.store 26 _ _));refine sta 26 (.tmp 10) (.tmp 81) b10 0 zp (HL.out.b 3) (by rw[List.size_toArray,aG,hzp];exact Nat.le_refl _) (by rw[hzp];exact aE) HOZP.out ?_))
    intro w9 hk hb;rw[aK _ _ (by rw[List.size_toArray,aG,hzp])] at hb;have HB10:=H' hb;have e0:cU (l+1) S t f g=(none,U):=by rw[HCT.out,HCX.out.fail (k:=k) hk8 (by rw[HKWI.out];exact HRU.out)]
    have HP:Hid (bA w c B pv (cU (l+1) S t f g).1 (cU (l+1) S t f g).2 (.returned (.tuple #[.agg zp.toArray,.int .i64 15])) w9):=H' (by
     rw[e0,←HZPE.out];have hg:=HG.out;have hz:=HB2.out;have nb:∀i,B2 i->i≠b10:=fun i hi e=>(HBB.out i hi).elim (fun h=>(hz.1 i h).elim (fun h=>by have:=HBLT.out i h;omega) fun h=>by omega) fun h=>by omega
     refine⟨_,B2,rfl,aL.hole _ _,HKI2.out.keepT hk fun i e hb=>nb i hb e,fun i hi=>(HBB.out i hi).elim (fun h=>(hz.1 i h).imp id fun h=>by omega) fun h=>.inr (by omega),(HCX.out.clo.trans HCL2.out).onT hk nb,.inr (eE.nil w),?_⟩;exact((HL.out.keep).trans' hk (fun _ _ h=>h) (fun i hi e=>by omega)))
    clear hk hb HL HKI2 HPV HQV HX HCL2 HCX e0;go_wp2_with fail;refine bodyPost_ret (aY rfl _ _ b10 _ _ _ _ rfl HB10.out aI rfl (by rw[List.size_toArray,hzp];exact aE)) rfl ?_;exact HP.out
   ·go_wp2_with (first
     | ((with_reducible show WL (some 18) (.alloc 26));refine al 26 (.agg aH.toArray) (aH.toArray) aU ?_))
    intro b18 we hbs hk0 hb0_
    go_wp2_with (first
     | ((with_reducible show WL _ (.store 26 (.tmp 18) (.tmp 77)));refine sta 26 (.tmp 18) (.tmp 77) b18 0 rc hb0_ (by first|decide|(rw[List.size_toArray,hrc];exact Nat.le_refl _)|simp[hrc,aG]) (by rw[hrc];exact aE) HOR.out ?_))
    intro wf hk hb;rw[aK _ _ (by first|rfl|(rw[List.size_toArray,hrc];rfl)|simp[hrc,aG])] at hb;replace hk:=hk0.trans' hk (U:=aB) (fun _ _ h=>h) (fun i hi e=>by omega);have HNb18:=H' (show wd.heap.size≤b18 from Nat.le_of_eq hbs);replace HL:=H' (HL.out.new (fun k h=>HKI2.out.lt h) hbs hk hb);replace HQV:=H' (aL.keep0 HQV.out hk);replace HKI2:=H' (HKI2.out.keep0 hk);replace HPV:=H' (aL.keep0 HPV.out hk);replace HX:=H' (HX.out.trans (aA.any hk));replace HCL2:=H' (Cl.onT HCL2.out hk fun _ _=>id);clear hbs hk hb hk0 hb0_
    cases cb with
     | true =>
       go_wp2_with (first
        | ((with_reducible show WL (some 91) (.load 26 _));refine wpList_load_mid rfl 26 (.tmp 18) rfl b18 0 rfl rc _ (aC (HL.out.b 0)) aI rfl (by rw[hrc];exact aE) ?_)
        | ((with_reducible show WL _ (.store 26 (.tmp 93) (.tmp 91)));refine sta 26 (.tmp 93) (.tmp 91) b12 (1+k*35) rc (HL.out.b 2) (by rw[List.size_toArray,dF _ _ HCX.out.new.nv,hrc];omega) (by rw[hrc];exact aE) HOR.out ?_))
       intro w9 hk hb;rw[←HRC.out,show dM (some u)=u.ptr from rfl,Cm HCX.out.new.nv _ hk8 (show u.ptr.sum.length=32 from HPV.out.pt.sum)] at hb
       have HNX:Hid (∃K T B' vs',jW w w8 B c b4 b5 b6 b10 b12 l S t (max f 0) (min g (m:Int)) pv vs (k+1) true w9 K T B' vs'):=H' ⟨eK K k u,U,B2,fC vs' k v,by
        have h:=HCX.out.step (by rw[HKWI.out];exact HRU.out) HKI2.out HPV.out HBB.out HCL2.out HX.out hk hb HNW.out HVO.out hk8 (fun i hi=>by have:=HPLT.out i hi;have:=HG.out;omega) (by have:=HC45.out;have:=HG.out;omega) HBLT.out HG.out.2.2 HG.out.2.1 HG.out.1 HND.out.1 HND.out.2.1;rw[show (true || !(t.kid k).ptr.eqB u.ptr)=true from by rw[Bool.true_or]] at h;exact h⟩
       clear hk hb HL HKI2 HPV HQV HX HCL2 HCX HBB HNW HRU HB2;go_wp2_with fail
       go_roundw
       case rel=>exact⟨k+1,true,by omega,rfl,by go_num,HNX⟩
       case measure=>simp[intOf];omega
     | false =>
       obtain⟨eb,heb⟩:∃e,(t.kid k).ptr.eqB u.ptr=e:=⟨_,rfl⟩
       have HEB:=H' heb;clear heb
       go_wp2_with (first
        | ((with_reducible show WL (some 85) (.load 26 _));refine aV (by rfl) 26 (.tmp 16) rfl b16 0 rfl qc _ (aC (HL.out.b 1)) aI rfl (by rw[hqc];exact aE) ?_)
        | ((with_reducible show WL (some 86) (.load 26 _));refine aV (by rfl) 26 (.tmp 18) rfl b18 0 rfl rc _ (aC (HL.out.b 0)) aI rfl (by rw[hrc];exact aE) ?_))
       refine((by rw[←HQC.out,←HRC.out];exact nO wf (vs k) v (t.kid k).ptr u.ptr HQV.out.pt HPV.out.pt:Calls _ _ _ wf (bE wf ((t.kid k).ptr.eqB u.ptr)))).mono ?_;rintro e wg ⟨rfl,hk⟩;replace HL:=H' (HL.out.keeps hk);replace HQV:=H' (aL.keep0 HQV.out hk);replace HKI2:=H' (HKI2.out.keep0 hk);replace HPV:=H' (aL.keep0 HPV.out hk);replace HX:=H' (HX.out.trans (aA.any hk));replace HCL2:=H' (Cl.onT HCL2.out hk fun _ _=>id);clear hk;rw[HEB.out]
       go_wp2_with (first
        | ((with_reducible show WL (some 91) (.load 26 _));refine wpList_load_mid rfl 26 (.tmp 18) rfl b18 0 rfl rc _ (aC (HL.out.b 0)) aI rfl (by rw[hrc];exact aE) ?_)
        | ((with_reducible show WL _ (.store 26 (.tmp 93) (.tmp 91)));refine sta 26 (.tmp 93) (.tmp 91) b12 (1+k*35) rc (HL.out.b 2) (by rw[List.size_toArray,dF _ _ HCX.out.new.nv,hrc];omega) (by rw[hrc];exact aE) HOR.out ?_))
       intro w9 hk hb;rw[←HRC.out,show dM (some u)=u.ptr from rfl,Cm HCX.out.new.nv _ hk8 (show u.ptr.sum.length=32 from HPV.out.pt.sum)] at hb
       have HNX:Hid (∃K T B' vs',jW w w8 B c b4 b5 b6 b10 b12 l S t (max f 0) (min g (m:Int)) pv vs (k+1) (!eb) w9 K T B' vs'):=H' ⟨eK K k u,U,B2,fC vs' k v,by
        have h:=HCX.out.step (by rw[HKWI.out];exact HRU.out) HKI2.out HPV.out HBB.out HCL2.out HX.out hk hb HNW.out HVO.out hk8 (fun i hi=>by have:=HPLT.out i hi;have:=HG.out;omega) (by have:=HC45.out;have:=HG.out;omega) HBLT.out HG.out.2.2 HG.out.2.1 HG.out.1 HND.out.1 HND.out.2.1;rw[show (false || !(t.kid k).ptr.eqB u.ptr)=(!eb) from by rw[HEB.out,Bool.false_or]] at h;exact h⟩
       clear hk hb HL HKI2 HPV HQV HX HCL2 HCX HBB HNW HRU HB2;go_wp2_with fail
       go_roundw
       case rel=>exact⟨k+1,(!eb),by omega,rfl,by go_num,HNX⟩
       case measure=>simp[intOf];omega
  ·obtain rfl:k=4:=by omega
   have HH6:=H' (show wr.heap[b6]?=some (.cells pc.toArray 26 (0,0)) from by have h:=hci.h6;rw[HPE.out,HPC.out] at h;exact h);have H10:=H' hci.h10;have HCX:=H' hci;clear hci HCI hk8;cases cb with
   | true =>
     have HKI:=H' HCX.out.ki;have HNV:=H' HCX.out.new;have HCL:=H' HCX.out.cl;have HKD:=H' (HCX.out.kids hl2 HBD.out HT.out (by omega)).2;have hmc:=dF ((l+1:Nat):Int) vs' HNV.out.nv;have HL0:=H' (HCX.out.loc HKW.out HBLT.out HG.out.2.2 HG.out.2.1 HG.out.1 HND.out.1 HND.out.2.1 HND.out.2.2);obtain⟨mc,hmce⟩:∃x,cH ((l+1:Nat):Int) vs' (fun i=>(K i).ptr)=x:=⟨_,rfl⟩
     have HMC:=H' hmce;have HL:Hid (Loc B B' w wr [(b12,mc.toArray,123),(b10,aH.toArray,26),(b6,(aJ pv t.ptr).toArray,26)]):=H' (by rw[←hmce];exact HL0.out);rw[hmce] at hmc;obtain⟨⟨r,U⟩,hrU⟩:∃q,T.lay (l+1) K=q:=⟨_,rfl⟩
     have HRU:=H' hrU;clear hmce HL0 hrU;have c1:wr.cell? ⟨b4,0,none⟩=some (.pointer (some ⟨c,0,none⟩)):=(aD (i:=0) HCL.out.c rfl)
     go_wp2_with (first
      | ((with_reducible show WL (some 99) (.load 123 _));refine wpList_load_mid rfl 123 (.tmp 12) rfl b12 0 rfl mc _ (aC (HL.out.b 0)) Tryz.underlying123 rfl (by rw[hmc];exact dZ) ?_))
     clear c1;refine((by rw[←HMC.out];have h:=Cn HKI.out hl2 K HKD.out vs' HNV.out;rw[HRU.out] at h;exact h:Calls _ _ _ wr (bA wr c B' (.slice none 0 0) r U))).mono ?_;rintro e wa ⟨v,B2,hm1,hpv,hki,hbb2,hcl,hnw,hk⟩;have HPV:=H' hpv;have HKI2:=H' hki;have HBB:=H' hbb2;have HNW:=H' hnw;have HCL2:=H' hcl;have HPVL:=H' (show ∀i,v.ownBlock=some i->i≠b10 from fun i hi e=>hnw.elim (fun h=>by rw[h] at hi;cases hi) fun h=>by have:=h i hi;have:=HG.out;have:=HCX.out.keep.size;omega);replace HL:=H' (HL.out.turn hk (fun i hi e=>(HCX.out.sub i e).elim id fun e=>by have:=HKW.out.size;omega) (fun i hi hb=>(hbb2 i hb).elim id fun e=>by omega));have hrc:=aN (v:=v) hpv.pt.sum;have HOR0:=bC hpv.pt;obtain⟨rc,hrce⟩:∃x,aJ v (dM r)=x:=⟨_,rfl⟩
     have HOR:Hid (∀u∈rc,u.oneCell'=true):=H' (by rw[←hrce];exact HOR0);have HRC:=H' hrce;obtain⟨er,here⟩:∃x,eL r=x:=⟨_,rfl⟩
     have HER:=H' here;rw[hrce] at hrc hm1;rw[here] at hm1;subst hm1;clear hrce here HOR0 hpv hki hbb2 hcl hnw hk HKI HCL HNV
     go_wp2_with (first
      | ((with_reducible show WL _ (.store 26 _ _));refine sta 26 (.tmp 10) (.tmp 101) b10 0 rc (HL.out.b 1) (by rw[List.size_toArray,aG,hrc];exact Nat.le_refl _) (by rw[hrc];exact aE) HOR.out ?_))
     intro w9 hk hb;rw[aK _ _ (by rw[List.size_toArray,aG,hrc])] at hb;have HB10:=H' hb;have e0:cU (l+1) S t f g=(r,U):=by rw[HCT.out,HCX.out.eq];exact HRU.out
     have HP:Hid (bA w c B pv (cU (l+1) S t f g).1 (cU (l+1) S t f g).2 (.returned (.tuple #[.agg rc.toArray,.int .i64 er])) w9):=H' (by
      rw[e0,←HRC.out,←HER.out];have hg:=HG.out;have hz:=HCX.out.keep.size;have hw:=HKW.out.size;have sub:∀i,B2 i->B i\/w8.heap.size≤i:=fun i hi=>(HBB.out i hi).elim (HCX.out.sub i) fun h=>.inr (by omega)
      have nb:∀i,B2 i->i≠b10:=fun i hi e=>(sub i hi).elim (fun h=>by have:=HBLT.out i h;omega) fun h=>by omega
      refine⟨v,B2,rfl,HPV.out.keepT hk HPVL.out,HKI2.out.keepT hk fun i e hb=>nb i hb e,fun i hi=>(sub i hi).imp id fun h=>by omega,(HCX.out.clo.trans HCL2.out).onT hk nb,.inr (HNW.out.elim (fun e=>by rw[e];exact eE.nil w) fun h=>h.from (by omega)),?_⟩;exact((HL.out.keep).trans' hk (fun _ _ h=>h) (fun i hi e=>by omega)))
     clear hk hb HL HKI2 HPV HCL2 HCX e0 HBB;go_wp2_with fail;refine bodyPost_ret (aY rfl _ _ b10 _ _ _ _ rfl HB10.out aI rfl (by rw[List.size_toArray,hrc];exact aE)) rfl ?_;exact HP.out
   | false =>
     go_wp2_with (first
      | ((with_reducible show WL (some 97) (.load 26 _));refine wpList_load_mid rfl 26 (.tmp 6) rfl b6 0 rfl pc _ (aC HH6.out) aI rfl (by rw[hpc];exact aE) ?_)
      | ((with_reducible show WL _ (.store 26 _ _));refine sta 26 (.tmp 10) (.tmp 97) b10 0 pc H10.out (by rw[List.size_toArray,aG,hpc];exact Nat.le_refl _) (by rw[hpc];exact aE) HOP.out ?_))
     intro w9 hk hb;rw[aK _ _ (by rw[List.size_toArray,aG,hpc])] at hb;have HB10:=H' hb;have e0:cU (l+1) S t f g=(some t,T):=by rw[HCT.out,HCX.out.eq];rfl
     have HP:Hid (bA w c B pv (cU (l+1) S t f g).1 (cU (l+1) S t f g).2 (.returned (.tuple #[.agg pc.toArray,.int .i64 0])) w9):=H' (by
      rw[e0,←HPC.out,←HPE.out];have hg:=HG.out;have nb:∀i,B' i->i≠b10:=fun i hi e=>(HCX.out.sub i hi).elim (fun h=>by have:=HBLT.out i h;omega) fun h=>by omega
      refine⟨pv,B',rfl,HCX.out.pt.keepT hk fun i hi e=>by (have:=HPLT.out i hi;omega),HCX.out.ki.keepT hk fun i e hb=>nb i hb e,fun i hi=>(HCX.out.sub i hi).imp id fun h=>by omega,HCX.out.clo.onT hk nb,.inl rfl,?_⟩;exact((HKW.out.trans' HCX.out.keep (fun _ _ h=>h.elim) (fun i hi e=>e.elim id fun e=>by omega)).trans' hk (fun _ _ h=>h) (fun i hi e=>by omega))
      )
     clear hk hb HH6 H10 HCX e0;go_wp2_with fail;refine bodyPost_ret (aY rfl _ _ b10 _ _ _ _ rfl HB10.out aI rfl (by rw[List.size_toArray,hpc];exact aE)) rfl ?_;exact HP.out
theorem DP:∀l,l≤3->Ll l
 | 0,hl=>fun w c S B hK b4 b5 pv t f g hf hg ht hp hc=>by
   have e1:(4:Int) ^ 0=1:=rfl
   by_cases h:(t.isHole || decide (min g 1≤max f 0))=true
   ·rw[show cU 0 S t f g=(some t,S) from by unfold cU;rw[if_pos h]]
    rw[Bool.or_eq_true,decide_eq_true_eq] at h;exact AF hK pv t 0 hl f g hf hg ht hp hc (by rw[e1];exact h)
   ·rw[show cU 0 S t f g=(some .hole,S) from by unfold cU;rw[if_neg h]]
    rw[Bool.or_eq_true,not_or,decide_eq_true_eq] at h;exact AG hK pv t 0 hl f g hf hg ht hp hc (by simpa using h.1) (by rw[e1];exact h.2) (by rw[e1];omega)
 | l+1,hl=>fun w c S B hK b4 b5 pv t f g hf hg ht hp hc=>by
   by_cases h:(t.isHole || decide (min g (4 ^ (l+1))≤max f 0))=true
   ·rw[show cU (l+1) S t f g=(some t,S) from by unfold cU;rw[if_pos h]]
    rw[Bool.or_eq_true,decide_eq_true_eq] at h;exact AF hK pv t (l+1) hl f g hf hg ht hp hc h
   ·by_cases hw:min g (4 ^ (l+1))-max f 0=4 ^ (l+1)
    ·rw[show cU (l+1) S t f g=(some .hole,S) from by unfold cU;rw[if_neg h,if_pos hw]]
     rw[Bool.or_eq_true,not_or,decide_eq_true_eq] at h;exact AG hK pv t (l+1) hl f g hf hg ht hp hc (by simpa using h.1) h.2 hw
    ·rw[Bool.or_eq_true,not_or,decide_eq_true_eq] at h
     exact G5 (by omega) (DP l (by omega)) hK pv t f g hf hg ht hp hc (by simpa using h.1) h.2 hw
theorem LL:Hid (∀w,(zeroValue 127).run Tryz.prog w=.ok .nilFunc w):=H' fun w=>by kernel_rfl
theorem CB{w:World}{c:Nat}{S:Kor}{B:Nat->Prop}(hK:KI w c S B)(pv:Value)(t:Tr)(ht:Tr.Ok S 3 t)(hp:aL w B pv t.ptr)(f g:Nat)(hfg:f≤g)(hg:g≤64):Calls Tryz.prog 15 #[.pointer (some ⟨c,0,none⟩),.agg (aJ pv t.ptr).toArray,.int .i64 (f:Int),.int .i64 (g:Int)] w (bA w c B (.slice none 0 0) (cU 3 S t f g).1 (cU 3 S t f g).2):=by
 have HT:=H' ht;have HBLT:=H' (fun i (e:B i)=>hK.lt e);have HBD:=H' hK.bd;have HPT:=H' hp;have HK:=H' hK;have HPL:=H' (fun i (hi:pv.ownBlock=some i)=>(hp.off i hi).2.lt);have hf0:¬((f:Int)<0):=by omega
 have hf1:¬((f:Int) > (g:Int)):=by omega
 have hf2:¬((g:Int) > 64):=by omega
 obtain⟨p,hpe⟩:∃p,t.ptr=p:=⟨_,rfl⟩
 have HPE:=H' hpe;rw[hpe] at HPT hp ⊢;obtain⟨pc,HPC,hpc,HOP⟩:=nmPt hp.pt;rw[HPC.out];have hzp:(aJ (.slice none 0 0) zPt).length=35:=rfl;have hzb:=iL;obtain⟨zp,hzpe⟩:∃l,aJ (.slice none 0 0) zPt=l:=⟨_,rfl⟩
 have HOZP:Hid (∀u∈zp,u.oneCell'=true):=H' (by rw[←hzpe];exact bY zPt);have HZPE:=H' hzpe;rw[hzpe] at hzp hzb;have HZB:=H' hzb;clear hzpe hzb;have HL:=H' (Loc.nil aB aB w);obtain⟨⟨r,T⟩,hrT⟩:∃q,cU 3 S t f g=q:=⟨_,rfl⟩
 have HRT:=H' hrT;rw[hrT];clear hp hpe hK ht hrT;have HPT0:=HPT;have HK0:=HK;go_enter Tryz.func15,Tryz.ntmps15
 go_wp2_with (first
  | ((with_reducible show WL (some 4) (.box 36 _));refine bx 36 (.tmp 0) (#[.pointer (some ⟨c,0,none⟩)]) ?_))
 intro b4 w1 hbs hk hb;replace HL:=H' (HL.out.new (fun _ h=>h.elim) hbs hk hb);replace HPT:=H' (aL.keep0 HPT.out hk);replace HK:=H' (HK.out.keep0 hk);clear hbs hk hb
 go_wp2_with (first
  | ((with_reducible show WL (some 5) (.box 26 _));refine bx 26 (.tmp 1) (pc.toArray) ?_))
 intro b5 w2 hbs hk hb;replace HL:=H' (HL.out.new (fun _ h=>h.elim) hbs hk hb);replace HPT:=H' (aL.keep0 HPT.out hk);replace HK:=H' (HK.out.keep0 hk);clear hbs hk hb
 go_wp2_with (first
  | ((with_reducible show WL (some 8) (.alloc 26));refine al 26 (.agg aH.toArray) (aH.toArray) aU ?_))
 intro b8 w3 hbs hk hb;replace HL:=H' (HL.out.new (fun _ h=>h.elim) hbs hk hb);replace HPT:=H' (aL.keep0 HPT.out hk);replace HK:=H' (HK.out.keep0 hk);clear hbs hk hb;have c1:w3.cell? ⟨b4,0,none⟩=some (.pointer (some ⟨c,0,none⟩)):=(aD (i:=0) (HL.out.b 2) rfl)
 go_wp2_with (first
  | ((with_reducible show WL (some 15) (.load 26 _));refine wpList_load_mid rfl 26 (.tmp 5) rfl b5 0 rfl pc _ (aC (HL.out.b 1)) aI rfl (by rw[hpc];exact aE) ?_))
 clear c1;refine((by rw[←HPC.out];exact lB HK.out pv p HPT.out.pt (by rw[←HPE.out];exact HT.out.root):Calls _ _ _ w3 (aM w3 (.int .i64 0)))).mono ?_;rintro e w4 ⟨rfl,hk⟩;replace HL:=H' (HL.out.keeps hk);replace HPT:=H' (aL.keep0 HPT.out hk);replace HK:=H' (HK.out.keep0 hk);clear hk
 go_wp2_with (first
  | ((with_reducible show WL (some 11) (.alloc 127));refine al 127 (.nilFunc) (#[.nilFunc]) LL ?_))
 intro b11 w5 hbs hk hb;replace HL:=H' (HL.out.new (fun _ h=>h.elim) hbs hk hb);replace HPT:=H' (aL.keep0 HPT.out hk);replace HK:=H' (HK.out.keep0 hk);clear hbs hk hb
 go_wp2_with (first
  | ((with_reducible show WL _ (.store 127 (.tmp 11) (.tmp 33)));refine sta 127 (.tmp 11) (.tmp 33) b11 0 ([.func (.func 54) #[] #[.pointer (some ⟨b4,0,none⟩),.pointer (some ⟨b11,0,none⟩)]]) (HL.out.b 0) (by simp) (by kernel_rfl) (by intro v hv;simp only[List.mem_cons,List.not_mem_nil,or_false] at hv;subst hv;rfl) ?_))
 intro w6 hk hb;replace hb:w6.heap[b11]?=some (.cells #[.func (.func 54) #[] #[.pointer (some ⟨b4,0,none⟩),.pointer (some ⟨b11,0,none⟩)]] 127 (0,0)):=hb;replace HL:=H' (HL.out.set 0 hk hb);replace HPT:=H' (aL.keep0 HPT0.out HL.out.keep);replace HK:=H' (HK0.out.keep0 HL.out.keep);clear hk hb;have HCU:=H' (cJ.mk (HL.out.b 3) ⟨_,HL.out.b 0⟩ ⟨fun e=>by have:=HBLT.out _ e;have:=(HL.out.lt 3).1;omega,(HL.out.lt 3).2⟩ ⟨fun e=>by have:=HBLT.out _ e;have:=(HL.out.lt 0).1;omega,(HL.out.lt 0).2⟩:cJ w6 B b4 b11 c);have HG:=H' (And.intro (HL.out.lt 0) (And.intro (HL.out.lt 1) (And.intro (HL.out.lt 2) (HL.out.lt 3))));have c1:w6.cell? ⟨b11,0,none⟩=some (.func (.func 54) #[] #[.pointer (some ⟨b4,0,none⟩),.pointer (some ⟨b11,0,none⟩)]):=(aD (i:=0) (HL.out.b 0) rfl)
 go_wp2_with (first
  | ((with_reducible show WL (some 36) (.load 26 _));refine wpList_load_mid rfl 26 (.tmp 5) rfl b5 0 rfl pc _ (aC (HL.out.b 2)) aI rfl (by rw[hpc];exact aE) ?_))
 clear c1;refine((by rw[←HPC.out,←HPE.out];have h:=DP 3 (Nat.le_refl _) w6 c S B HK.out b4 b11 pv t f g (by omega) (by omega) HT.out (by rw[HPE.out];exact HPT.out) HCU.out;rw[HRT.out] at h;exact h:Calls _ _ _ w6 (bA w6 c B pv r T))).mono ?_;rintro e w7 ⟨v,B2,hm1,hpv,hki,hbb2,hcl,hnw,hk⟩;have HPV:=H' hpv;have HKI2:=H' hki;have HBB:=H' (show ∀i,B2 i->B i\/w.heap.size≤i from fun i hi=>(hbb2 i hi).imp id fun h=>Nat.le_trans HL.out.keep.size h);have HCL2:=H' ((Cl.refl w w6 B HL.out.keep).trans hcl);have HPVN:=H' (show ∀i,v.ownBlock=some i->i≠b8 from fun i hi e=>hnw.elim (fun h=>by rw[h] at hi;have:=HPL.out i hi;have:=HG.out;omega) fun h=>by have:=h i hi;have:=HG.out;omega);replace HL:=H' ((HL.out.wide HBLT.out).turn hk (fun _ _ h=>h) (fun i hi hb=>(hbb2 i hb).elim id fun e=>by omega));have hrc:=aN (v:=v) hpv.pt.sum;have HOR0:=bC hpv.pt;obtain⟨rc,hrce⟩:∃x,aJ v (dM r)=x:=⟨_,rfl⟩
 have HOR:Hid (∀u∈rc,u.oneCell'=true):=H' (by rw[←hrce];exact HOR0);have HRC:=H' hrce;rw[hrce] at hrc hm1;subst hm1;clear hrce HOR0 hpv hki hbb2 hcl hnw hk HK HPT HCU;rcases r with _|u
 ·go_wp2_with (first
   | ((with_reducible show WL (some 12) (.alloc 26));refine al 26 (.agg aH.toArray) (aH.toArray) aU ?_))
  intro b12 w8 hbs hk0 hb0_
  go_wp2_with (first
   | ((with_reducible show WL _ (.store 26 (.tmp 12) (.tmp 40)));refine sta 26 (.tmp 12) (.tmp 40) b12 0 rc hb0_ (by first|decide|(rw[List.size_toArray,hrc];exact Nat.le_refl _)|simp[hrc,aG]) (by rw[hrc];exact aE) HOR.out ?_))
  intro w9 hk hb;rw[aK _ _ (by first|rfl|(rw[List.size_toArray,hrc];rfl)|simp[hrc,aG])] at hb;replace hk:=hk0.trans' hk (U:=aB) (fun _ _ h=>h) (fun i hi e=>by omega);replace HL:=H' (HL.out.new (fun k h=>HKI2.out.lt h) hbs hk hb);replace HKI2:=H' (HKI2.out.keep0 hk);replace HPV:=H' (aL.keep0 HPV.out hk);replace HCL2:=H' (Cl.onT HCL2.out hk fun _ _=>id);clear hbs hk hb hk0 hb0_
  go_wp2_with (first
   | ((with_reducible show WL (some 44) (.build _ _));refine bld 26 #[] [] (.agg zp.toArray) HZB.out ?_)
   | ((with_reducible show WL _ (.store 26 _ _));refine sta 26 (.tmp 8) (.tmp 44) b8 0 zp (HL.out.b 2) (by rw[List.size_toArray,aG,hzp];exact Nat.le_refl _) (by rw[hzp];exact aE) HOZP.out ?_))
  intro w9 hk hb;rw[aK _ _ (by rw[List.size_toArray,aG,hzp])] at hb;have HB8:=H' hb
  have HP:Hid (bA w c B (.slice none 0 0) none T (.returned (.tuple #[.agg zp.toArray,.int .i64 15])) w9):=H' (by
   rw[←HZPE.out];have hg:=HG.out;have nb:∀i,B2 i->i≠b8:=fun i hi e=>HL.out.ap _ (List.mem_of_getElem? (i:=2) rfl) (e▸hi)
   exact⟨_,B2,rfl,aL.hole _ _,HKI2.out.keepT hk fun i e hb=>nb i hb e,HBB.out,HCL2.out.onT hk nb,.inl rfl,(HL.out.keep).trans' hk (fun _ _ h=>h) (fun i hi e=>by omega)⟩)
  clear hk hb HL HKI2 HPV HCL2;go_wp2_with fail;refine bodyPost_ret (aY rfl _ _ b8 _ _ _ _ rfl HB8.out aI rfl (by rw[List.size_toArray,hzp];exact aE)) rfl ?_;exact HP.out
 ·go_wp2_with (first
   | ((with_reducible show WL (some 12) (.alloc 26));refine al 26 (.agg aH.toArray) (aH.toArray) aU ?_))
  intro b12 w8 hbs hk0 hb0_
  go_wp2_with (first
   | ((with_reducible show WL _ (.store 26 (.tmp 12) (.tmp 40)));refine sta 26 (.tmp 12) (.tmp 40) b12 0 rc hb0_ (by first|decide|(rw[List.size_toArray,hrc];exact Nat.le_refl _)|simp[hrc,aG]) (by rw[hrc];exact aE) HOR.out ?_))
  intro w9 hk hb;rw[aK _ _ (by first|rfl|(rw[List.size_toArray,hrc];rfl)|simp[hrc,aG])] at hb;replace hk:=hk0.trans' hk (U:=aB) (fun _ _ h=>h) (fun i hi e=>by omega);replace HL:=H' (HL.out.new (fun k h=>HKI2.out.lt h) hbs hk hb);replace HKI2:=H' (HKI2.out.keep0 hk);replace HPV:=H' (aL.keep0 HPV.out hk);replace HCL2:=H' (Cl.onT HCL2.out hk fun _ _=>id);clear hbs hk hb hk0 hb0_;have HADL:=H' (show u.ptr.addrs.length≤65536 from by have:=(iB (Tr.Ok.may3 (show Tr.Ok T 3 u from((tY (Nat.le_refl 3) HBD.out HT.out HRT.out).2 u rfl).1))).1;omega)
  go_wp2_with (first
   | ((with_reducible show WL (some 46) (.load 26 _));refine wpList_load_mid rfl 26 (.tmp 12) rfl b12 0 rfl rc _ (aC (HL.out.b 0)) aI rfl (by rw[hrc];exact aE) ?_))
  have HLS:=H' HL.out.keep.size;go_wp2_with fail;refine((by rw[←HRC.out];exact wD (fun i e=>HKI2.out.lt e) v u.ptr HPV.out.pt HADL.out:Calls _ _ _ w9 (qM w9 B2 u.ptr))).mono ?_;rintro e wa ⟨ov,rfl,hov,hovn,hk⟩;have HOV:=H' hov;have HON2:=H' (hovn.from HLS.out);have HOFF:=H' (show ∀i,ov.ownBlock=some i->i≠b8 from fun i hi e=>by have:=hovn i hi;have:=(HL.out.lt 2).2;omega);obtain⟨oc,HOCE,hoc,HOOC⟩:=nmPt hov.pt;rw[HOCE.out];clear hov hovn;replace HL:=H' (HL.out.keeps hk);replace HKI2:=H' (HKI2.out.keep0 hk);replace HPV:=H' (aL.keep0 HPV.out hk);replace HCL2:=H' (Cl.onT HCL2.out hk fun _ _=>id);clear hk
  go_wp2_with (first
   | ((with_reducible show WL _ (.store 26 _ _));refine sta 26 (.tmp 8) (.tmp 47) b8 0 oc (HL.out.b 2) (by rw[List.size_toArray,aG,hoc];exact Nat.le_refl _) (by rw[hoc];exact aE) HOOC.out ?_))
  intro w9 hk hb;rw[aK _ _ (by rw[List.size_toArray,aG,hoc])] at hb;have HB8:=H' hb
  have HP:Hid (bA w c B (.slice none 0 0) (some u) T (.returned (.tuple #[.agg oc.toArray,.int .i64 0])) w9):=H' (by
   rw[←HOCE.out];have hg:=HG.out;have nb:∀i,B2 i->i≠b8:=fun i hi e=>HL.out.ap _ (List.mem_of_getElem? (i:=2) rfl) (e▸hi)
   exact⟨ov,B2,rfl,HOV.out.keepT hk HOFF.out,HKI2.out.keepT hk fun i e hb=>nb i hb e,HBB.out,HCL2.out.onT hk nb,.inr HON2.out,(HL.out.keep).trans' hk (fun _ _ h=>h) (fun i hi e=>by omega)⟩)
  clear hk hb HL HKI2 HPV HCL2 HOV;go_wp2_with fail;refine bodyPost_ret (aY rfl _ _ b8 _ _ _ _ rfl HB8.out aI rfl (by rw[List.size_toArray,hoc];exact aE)) rfl ?_;exact HP.out
theorem LM:Tryz.prog.underlying 65=some (.struct (Tryz.prog.fieldsOf 65)):=by kernel_rfl
theorem Lm:(Tryz.prog.info? 65).map (·.size)=some 4:=by kernel_rfl
theorem gQ:(Tryz.prog.info? 61).map (·.size)=some 64:=by kernel_rfl
def zbl:List Value:=List.replicate 64 (.int .u8 0)
theorem iV:zbl.length=64:=List.length_replicate
theorem wG:Hid (∀w,(zeroValue 61).run Tryz.prog w=.ok (.agg zbl.toArray) w):=H' (by intro w;kernel_rfl)
def kA(w:World)(c:Nat)(B:Nat->Prop)(r:Option Tr)(T:Kor)(bl:Nat->UInt8)(e:Ending)(w':World):Prop:=
 ∃v B',e=.returned (.tuple #[.agg (aJ v (dM r)).toArray,.agg (blC bl).toArray,.bool r.isSome,.bool true])/\aL w' B' v (dM r)/\KI w' c T B'/\(∀k,B' k->B k\/w.heap.size≤k)/\eE w v/\aA B w w'
theorem lD{w:World}{c:Nat}{S:Kor}{B:Nat->Prop}(hK:KI w c S B)(pv:Value)(t:Tr)(ht:Tr.Ok S 3 t)(hp:aL w B pv t.ptr)(bl:Nat->UInt8)(x:EdV)(hx:(-9223372036854775808≤x.n/\x.n≤9223372036854775807)/\(-9223372036854775808≤x.many/\x.many≤9223372036854775807)):Calls Tryz.prog 20 #[.pointer (some ⟨c,0,none⟩),.agg (aJ pv t.ptr).toArray,.agg (blC bl).toArray,.agg (kO x).toArray] w (kA w c B (edR S t x).1 (edR S t x).2 (edB x bl)):=by
 have HT:=H' ht;have HL:=H' (Cs.start1 hK hp);have hbc:=jR bl;obtain⟨bc,hbce⟩:∃l,blC bl=l:=⟨_,rfl⟩
 have HOBC:Hid (∀u∈bc,u.oneCell'=true):=H' (by rw[←hbce];exact uA bl);have HBCE:=H' hbce;have HFL:=H' x.frLt;have HFN:=H' x.frInt;have HUN:=H' x.upInt;have HFU:=H' x.frUp;have HN:=H' hx;have hec:(kO x).length=4:=rfl;obtain⟨xn,hxn⟩:∃y,x.n=y:=⟨_,rfl⟩
 obtain⟨xm,hxm⟩:∃y,x.many=y:=⟨_,rfl⟩
 obtain⟨xb,hxb⟩:∃y,x.b=y:=⟨_,rfl⟩
 obtain⟨xc,hxc⟩:∃y,x.cut=y:=⟨_,rfl⟩
 obtain⟨f,hf⟩:∃y,x.fr=y:=⟨_,rfl⟩
 obtain⟨g,hg⟩:∃y,x.up=y:=⟨_,rfl⟩
 have h0:(kO x).toArray[0]?=some (.int .i64 xn):=by rw[←hxn];rfl
 have h1:(kO x).toArray[1]?=some (.int .i64 xm):=by rw[←hxm];rfl
 have h2:(kO x).toArray[2]?=some (.bool xc):=by rw[←hxc];rfl
 have h3:(kO x).toArray[3]?=some (vb xb):=by rw[←hxb];rfl
 obtain⟨rr,hrr⟩:∃r,edR S t x=r:=⟨_,rfl⟩
 obtain⟨r,T⟩:=rr;obtain⟨bz,hbz⟩:∃y,edB x bl=y:=⟨_,rfl⟩
 have HR0:Hid (xc=false->oU S t f (sec xb)=(r,T)):=H' (fun e=>by rw[←hrr];unfold edR;rw[hxc,e,hf,hxb];rfl);have HR1:Hid (xc=true->cU 3 S t (f:Int) (g:Int)=(r,T)):=H' (fun e=>by rw[←hrr];unfold edR;rw[hxc,e,hf,hg];rfl);have HZ0:Hid (xc=false->mG bl f xb=bz):=H' (fun e=>by rw[←hbz];unfold edB;rw[hxc,e,hf,hxb];rfl);have HZ1:Hid (xc=true->kD bl f g=bz):=H' (fun e=>by rw[←hbz];unfold edB;rw[hxc,e,hf,hg];rfl);have HOE:Hid (∀u∈kO x,u.oneCell'=true):=H' (by intro u hu;simp only[kO,List.mem_cons,List.not_mem_nil,or_false] at hu;rcases hu with rfl|rfl|rfl|rfl<;>rfl);rw[hf] at HFL HFN HUN HFU;rw[hg] at HUN HFU;rw[hxn] at HFN HN;rw[hxm] at HUN HN;obtain⟨ec,hece⟩:∃l,kO x=l:=⟨_,rfl⟩
 rw[hece] at hec h0 h1 h2 h3 HOE;rw[hece,hbce,hrr,hbz];dsimp only;rw[hbce] at hbc;have H0:=H' h0;have H1:=H' h1;have H2:=H' h2;have H3:=H' h3;have HFL2:((f:Nat):Int)<64:=by have:=HFL.out;omega
 clear hece hbce hxn hxm hxb hxc hf hg h0 h1 h2 h3 hrr hbz hx ht;obtain⟨pc,HPC,hpc,HOP⟩:=nmP hp;rw[HPC.out];clear hp hK;go_enter Tryz.func20,Tryz.ntmps20
 go_wp2_with (first
  | ((with_reducible show WL (some 5) (.box 26 _));refine bx 26 (.tmp 1) (pc.toArray) ?_))
 intro b5 w1 hbs hk hb;replace HL:=H' (HL.out.new (trivial) hbs hk hb);clear hbs hk hb
 go_wp2_with (first
  | ((with_reducible show WL (some 6) (.box 61 _));refine bx 61 (.tmp 2) (bc.toArray) ?_))
 intro b6 w2 hbs hk hb;replace HL:=H' (HL.out.new (trivial) hbs hk hb);clear hbs hk hb
 go_wp2_with (first
  | ((with_reducible show WL (some 7) (.box 65 _));refine bx 65 (.tmp 3) (ec.toArray) ?_))
 intro b7 w3 hbs hk hb;replace HL:=H' (HL.out.new (trivial) hbs hk hb);clear hbs hk hb
 go_wp2_with (first
  | ((with_reducible show WL (some 8) (.alloc 26));refine al 26 (.agg aH.toArray) (aH.toArray) aU ?_))
 intro b8 w4 hbs hk hb;replace HL:=H' (HL.out.new (trivial) hbs hk hb);clear hbs hk hb
 go_wp2_with (first
  | ((with_reducible show WL (some 9) (.alloc 61));refine al 61 (.agg zbl.toArray) (zbl.toArray) wG ?_))
 intro b9 w5 hbs hk hb;replace HL:=H' (HL.out.new (trivial) hbs hk hb);clear hbs hk hb;have c1:w5.cell? ⟨b7,0,none⟩=some (.int .i64 xn):=(aD (i:=0) (HL.out.b 2) H0.out)
 go_wp2_with fail;clear c1;refine(vM w5 xn 64 (by omega) (by omega) HN.out.1.1 HN.out.1.2).mono ?_;rintro e w6 ⟨rfl,rfl⟩;rw[HFN.out];cases xc with
 | false =>
   have HR:=H' (HR0.out rfl);have HZ:=H' (HZ0.out rfl);clear HR0 HR1 HZ0 HZ1;have c1:w5.cell? ⟨b7,2,none⟩=some (.bool false):=(aD (i:=2) (HL.out.b 2) H2.out)
   go_wp2_with fail;clear c1;apply oV (R:=fun(b13:Nat) (roa:Option Addr) (roc:Nat) (rc:List Value) w'=>Hid (∃vrc B2,aJ vrc (dM r)=rc/\Cs B w c T B2 [(vrc,(dM r)),(pv,t.ptr)] w' ((b13,rc.toArray,26)::[(b9,zbl.toArray,61),(b8,aH.toArray,26),(b7,ec.toArray,65),(b6,bc.toArray,61),(b5,pc.toArray,26)])/\eE w vrc))
   case h =>
    refine nY B HL (by kernel_rfl) ?_;intro w7 SW HSE HSI hkd HL;clear hkd;have HLs:=HL;refine tna 0 (.pointer (some ⟨c,0,none⟩)) rfl (HSI.out _ HL.out.dr) ?_;refine tnd 1 (.agg pc.toArray) rfl (ldD 26 (.tmp 5) b5 0 pc _ (fun w' h=>aC (HLs.out.own (HSE.out w' h) 4)) aI (by rw[hpc];exact aE)) (HSI.out _ HL.out.dr) ?_;refine tna 2 (.int .i64 (f:Int)) rfl (HSI.out _ HL.out.dr) ?_;refine tnb 3 (.pointer (some ⟨b7,3,none⟩)) rfl (HSI.out _ HL.out.dr) ?_;refine tnd 4 (vb xb) rfl (.inl ⟨by rfl,fun w' h=>by have c:World.cell? w' ⟨b7,3,none⟩=some (vb xb):=(aD (i:=3) (HLs.out.own (HSE.out w' h) 2) H3.out);go_simp⟩) (HSI.out _ HL.out.dr) ?_;refine dN (k:=5) (l:=10) rfl rfl (by kernel_rfl) ?_ ?_
    ·go_wp2_with fail
     refine(gF w7 xb).mono ?_;rintro e w8 ⟨v_,rfl,ho,hk⟩;obtain⟨roa,roc,rfl,-,-⟩:=(Rd.of_owns ho).form;have Hro:=H' ho;have HroO:=H' (jQ ho (fun i e=>HL.out.ki.lt e));replace HL:=H' (HL.out.keeps hk);clear ho hk;go_wp2_with fail;refine⟨HSI.out _ HL.out.dr,?_⟩;refine dN (k:=6) (l:=10) rfl rfl (by kernel_rfl) ?_ ?_
     ·go_wp2_with fail
      have hsz:=HL.out.keep.size;refine((by rw[←HPC.out];have h:=gP HL.out.ki pv t HT.out (HL.out.pv0 0) f HFL.out (.slice roa 256 roc) (sec xb) (eN xb) (Rd.of_owns Hro.out) HroO.out;rw[HR.out] at h;exact h:Calls _ _ _ w8 (bA w8 c B (.slice none 0 0) r T))).mono ?_;rintro e w9 ⟨vrc,B2,rfl,hpv,hki,hbb,-,hnw,hk⟩;have HNrc:Hid (eE w vrc):=H' ((iN hnw).from hsz);replace HL:=H' (HL.out.laid (fun _ _ e=>e) hpv hki hbb (iN hnw) hk);obtain⟨rc,HRC,hrc,HORC⟩:=nmP hpv;rw[HRC.out];clear hsz hpv hki hbb hnw hk Hro HroO;go_wp2_with fail;refine⟨HSI.out _ HL.out.dr,?_⟩;refine tna 7 (.tuple #[.agg rc.toArray,.int .i64 (eL r)]) rfl (HSI.out _ HL.out.dr) ?_;refine tnb 8 (.agg rc.toArray) rfl (HSI.out _ HL.out.dr) ?_;refine tnb 9 (.int .i64 (eL r)) rfl (HSI.out _ HL.out.dr) ?_;refine aF (k:=10) rfl (by kernel_rfl) ?_;refine alD HL HSI 26 (.agg aH.toArray) (aH.toArray) aU ?_;intro b13 wa hb13 hk HL;clear hk;refine aF (k:=11) rfl (by kernel_rfl) ?_;refine stD HL HSI 0 rfl 26 (.tmp 13) (.tmp 33) rc (.inl hb13) (by first|rfl|simp[hrc,aG]) (by rw[hrc];exact aE) HORC.out ?_;intro wb HL;refine tna 12 (.int .i64 (eL r)) rfl (HSI.out _ HL.out.dr) ?_;refine wpAnyH_done (by kernel_rfl) ?_ _;refine noP ?_;exact⟨rfl,b13,roa,roc,rc,rfl,H' ⟨vrc,B2,HRC.out,HL.out.toCs,HNrc.out⟩⟩
     ·refine alD HL HSI 26 (.agg aH.toArray) (aH.toArray) aU ?_
      intro b13 w9 hb13 hk HL;replace Hro:=H' (hk.owns Hro.out fun _ _=>id);replace HroO:=H' (fun i hi=>And.intro (HroO.out i hi).1 (Nat.lt_of_lt_of_le (HroO.out i hi).2 (hk).size));clear hk;refine aF (k:=6) rfl (by kernel_rfl) ?_;go_wp2_with fail;have hsz:=HL.out.keep.size;refine((by rw[←HPC.out];have h:=gP HL.out.ki pv t HT.out (HL.out.pv0 0) f HFL.out (.slice roa 256 roc) (sec xb) (eN xb) (Rd.of_owns Hro.out) HroO.out;rw[HR.out] at h;exact h:Calls _ _ _ w9 (bA w9 c B (.slice none 0 0) r T))).mono ?_;rintro e wa ⟨vrc,B2,rfl,hpv,hki,hbb,-,hnw,hk⟩;have HNrc:Hid (eE w vrc):=H' ((iN hnw).from hsz);replace HL:=H' (HL.out.laid (fun _ _ e=>e) hpv hki hbb (iN hnw) hk);obtain⟨rc,HRC,hrc,HORC⟩:=nmP hpv;rw[HRC.out];clear hsz hpv hki hbb hnw hk Hro HroO;go_wp2_with fail;refine⟨HSI.out _ HL.out.dr,?_⟩;refine tna 7 (.tuple #[.agg rc.toArray,.int .i64 (eL r)]) rfl (HSI.out _ HL.out.dr) ?_;refine tnb 8 (.agg rc.toArray) rfl (HSI.out _ HL.out.dr) ?_;refine tnb 9 (.int .i64 (eL r)) rfl (HSI.out _ HL.out.dr) ?_;refine aF (k:=11) rfl (by kernel_rfl) ?_;refine stD HL HSI 0 rfl 26 (.tmp 13) (.tmp 33) rc (.inl hb13) (by first|rfl|simp[hrc,aG]) (by rw[hrc];exact aE) HORC.out ?_;intro wb HL;refine tna 12 (.int .i64 (eL r)) rfl (HSI.out _ HL.out.dr) ?_;refine wpAnyH_done (by kernel_rfl) ?_ _;refine noP ?_;exact⟨rfl,b13,roa,roc,rc,rfl,H' ⟨vrc,B2,HRC.out,HL.out.toCs,HNrc.out⟩⟩
    ·refine alD HL HSI 26 (.agg aH.toArray) (aH.toArray) aU ?_
     intro b13 w8 hb13 hk HL;clear hk;refine aF (k:=5) rfl (by kernel_rfl) ?_;go_wp2_with fail;refine(gF w8 xb).mono ?_;rintro e w9 ⟨v_,rfl,ho,hk⟩;obtain⟨roa,roc,rfl,-,-⟩:=(Rd.of_owns ho).form;have Hro:=H' ho;have HroO:=H' (jQ ho (fun i e=>HL.out.ki.lt e));replace HL:=H' (HL.out.keeps hk);clear ho hk;go_wp2_with fail;refine⟨HSI.out _ HL.out.dr,?_⟩;refine aF (k:=6) rfl (by kernel_rfl) ?_;go_wp2_with fail;have hsz:=HL.out.keep.size;refine((by rw[←HPC.out];have h:=gP HL.out.ki pv t HT.out (HL.out.pv0 0) f HFL.out (.slice roa 256 roc) (sec xb) (eN xb) (Rd.of_owns Hro.out) HroO.out;rw[HR.out] at h;exact h:Calls _ _ _ w9 (bA w9 c B (.slice none 0 0) r T))).mono ?_;rintro e wa ⟨vrc,B2,rfl,hpv,hki,hbb,-,hnw,hk⟩;have HNrc:Hid (eE w vrc):=H' ((iN hnw).from hsz);replace HL:=H' (HL.out.laid (fun _ _ e=>e) hpv hki hbb (iN hnw) hk);obtain⟨rc,HRC,hrc,HORC⟩:=nmP hpv;rw[HRC.out];clear hsz hpv hki hbb hnw hk Hro HroO;go_wp2_with fail;refine⟨HSI.out _ HL.out.dr,?_⟩;refine tna 7 (.tuple #[.agg rc.toArray,.int .i64 (eL r)]) rfl (HSI.out _ HL.out.dr) ?_;refine tnb 8 (.agg rc.toArray) rfl (HSI.out _ HL.out.dr) ?_;refine tnb 9 (.int .i64 (eL r)) rfl (HSI.out _ HL.out.dr) ?_;refine aF (k:=11) rfl (by kernel_rfl) ?_;refine stD HL HSI 0 rfl 26 (.tmp 13) (.tmp 33) rc (.inl hb13) (by first|rfl|simp[hrc,aG]) (by rw[hrc];exact aE) HORC.out ?_;intro wb HL;refine tna 12 (.int .i64 (eL r)) rfl (HSI.out _ HL.out.dr) ?_;refine wpAnyH_done (by kernel_rfl) ?_ _;refine noP ?_;exact⟨rfl,b13,roa,roc,rc,rfl,H' ⟨vrc,B2,HRC.out,HL.out.toCs,HNrc.out⟩⟩
   case hR =>
    rintro b13 roa roc rc wc HF;obtain⟨vrc,B2,hcs,hl,hnw⟩:=HF.out;have HL:=H' hl;have HNrc:=H' hnw;have HRC:=H' hcs;have hrc:rc.length=35:=by rw[←hcs];exact aN (HL.out.pv0 0).pt.sum
    have HORC:Hid (∀u∈rc,u.oneCell'=true):=H' (by rw[←hcs];exact bC (HL.out.pv0 0).pt);clear hcs hl HF hnw;have hk0:(0:Int)≤(f:Int):=by omega
    have HDC:Hid (blC (mG bl f xb)=blC (mG bl f xb)):=H' rfl;have hdc:=jR (mG bl f xb);have c1:wc.cell? ⟨b7,3,none⟩=some (vb xb):=(aD (i:=3) (HL.out.b 3) H3.out)
    go_wp2_with (first
     | ((with_reducible show WL _ (.store 5 (.tmp 38) (.tmp 37)));refine sta 5 (.tmp 38) (.tmp 37) b6 f [vb xb] (HL.out.b 4) (by rw[List.size_toArray,hbc];have:=HFL.out;show f+1≤64;omega) (by kernel_rfl) (by intro v hv;rw[List.mem_singleton] at hv;rw[hv];rfl) ?_))
    clear c1;intro wd hk hb;rw[←HBCE.out,DO bl HFL.out xb] at hb;replace HL:=H' (HL.out.set 4 hk hb);clear hk hb HDC hdc;obtain⟨dc,hdce⟩:∃l,blC (mG bl f xb)=l:=⟨_,rfl⟩
    have HDC:=H' hdce;have hdc:dc.length=64:=by rw[←hdce];exact jR _
    have HODC:Hid (∀u∈dc,u.oneCell'=true):=H' (by rw[←hdce];exact uA _);rw[hdce] at HL;clear hdce;go_wp2_with fail;cases r with
    | none =>
      rw[show eL (none)=15 from rfl];go_wp2_with fail;refine nY (fun k=>k=b8\/k=b9) HL (by kernel_rfl) ?_;intro we SW HSE HSI hkd HL;clear hkd;have HLs:=HL;refine tnd 0 (.agg rc.toArray) rfl (ldD 26 (.tmp 13) b13 0 rc _ (fun w' h=>aC ((HSE.out w' h).blk (HLs.out.b 0) (by rintro (e|e);exact HLs.out.ne 2 0 (by decide) rfl rfl e;exact HLs.out.ne 1 0 (by decide) rfl rfl e))) aI (by rw[hrc];exact aE)) (HSI.out _ HL.out.dr) ?_;refine tnd 1 (.agg dc.toArray) rfl (ldD 61 (.tmp 6) b6 0 dc _ (fun w' h=>aC ((HSE.out w' h).blk (HLs.out.b 4) (by rintro (e|e);exact HLs.out.ne 2 4 (by decide) rfl rfl e;exact HLs.out.ne 1 4 (by decide) rfl rfl e))) Tryz.underlying61 (by rw[hdc];exact gQ)) (HSI.out _ HL.out.dr) ?_;refine tna 2 (.int .i64 15) rfl (HSI.out _ HL.out.dr) ?_;refine tnb 3 (.bool false) rfl (HSI.out _ HL.out.dr) ?_;refine tna 4 (.int .i64 15) rfl (HSI.out _ HL.out.dr) ?_;refine tnb 5 (.bool false) rfl (HSI.out _ HL.out.dr) ?_;refine tna 6 (.bool false) rfl (HSI.out _ HL.out.dr) ?_;refine tna 7 (.int .i64 15) rfl (HSI.out _ HL.out.dr) ?_;refine tnb 8 (.bool true) rfl (HSI.out _ HL.out.dr) ?_;refine tna 9 (.bool true) rfl (HSI.out _ HL.out.dr) ?_;refine aF (k:=10) rfl (by kernel_rfl) ?_;refine stD HL HSI 2 rfl 26 (.tmp 8) (.tmp 39) rc (.inr (.inl rfl)) (by first|rfl|simp[hrc,aG]) (by rw[hrc];exact aE) HORC.out ?_;intro wf HL;refine aF (k:=11) rfl (by kernel_rfl) ?_;refine stD HL HSI 1 rfl 61 (.tmp 9) (.tmp 40) dc (.inr (.inr rfl)) (by first|rfl|simp[hdc,iV]) (by rw[hdc];exact gQ) HODC.out ?_;intro wg HL;refine tna 12 (.bool false) rfl (HSI.out _ HL.out.dr) ?_;refine tna 13 (.bool true) rfl (HSI.out _ HL.out.dr) ?_;refine wpAnyH_done (by kernel_rfl) ?_ _;refine noP ?_;have HB8:=H' (HL.out.b 2);have HB9:=H' (HL.out.b 1);have HP:Hid (kA w c B (none) T bz (.returned (.tuple #[.agg rc.toArray,.agg dc.toArray,.bool false,.bool true])) wg):=H' ⟨vrc,B2,by rw[HRC.out,←HZ.out,HDC.out];rfl,HL.out.pv0 0,HL.out.ki,HL.out.bb,HNrc.out,HL.out.keep⟩;clear HL HLs HSE HSI;go_wp2_with fail;refine bodyPost_ret (lC rfl _ _ b8 b9 _ _ _ _ _ _ _ _ rfl rfl HB8.out HB9.out aI rfl (by rw[List.size_toArray,hrc];exact aE) Tryz.underlying61 rfl (by rw[List.size_toArray,hdc];exact gQ)) rfl ?_;exact HP.out
    | some u =>
      rw[show eL (some u)=0 from rfl];go_wp2_with fail;refine nY (fun k=>k=b8\/k=b9) HL (by kernel_rfl) ?_;intro we SW HSE HSI hkd HL;clear hkd;have HLs:=HL;refine tnd 0 (.agg rc.toArray) rfl (ldD 26 (.tmp 13) b13 0 rc _ (fun w' h=>aC ((HSE.out w' h).blk (HLs.out.b 0) (by rintro (e|e);exact HLs.out.ne 2 0 (by decide) rfl rfl e;exact HLs.out.ne 1 0 (by decide) rfl rfl e))) aI (by rw[hrc];exact aE)) (HSI.out _ HL.out.dr) ?_;refine tnd 1 (.agg dc.toArray) rfl (ldD 61 (.tmp 6) b6 0 dc _ (fun w' h=>aC ((HSE.out w' h).blk (HLs.out.b 4) (by rintro (e|e);exact HLs.out.ne 2 4 (by decide) rfl rfl e;exact HLs.out.ne 1 4 (by decide) rfl rfl e))) Tryz.underlying61 (by rw[hdc];exact gQ)) (HSI.out _ HL.out.dr) ?_;refine tna 2 (.int .i64 0) rfl (HSI.out _ HL.out.dr) ?_;refine tnb 3 (.bool true) rfl (HSI.out _ HL.out.dr) ?_;refine tna 4 (.int .i64 0) rfl (HSI.out _ HL.out.dr) ?_;refine tnb 5 (.bool true) rfl (HSI.out _ HL.out.dr) ?_;refine tna 6 (.bool true) rfl (HSI.out _ HL.out.dr) ?_;refine tnc 7 undef rfl (HSI.out _ HL.out.dr) ?_;refine tnc 8 undef rfl (HSI.out _ HL.out.dr) ?_;refine tna 9 (.bool true) rfl (HSI.out _ HL.out.dr) ?_;refine aF (k:=10) rfl (by kernel_rfl) ?_;refine stD HL HSI 2 rfl 26 (.tmp 8) (.tmp 39) rc (.inr (.inl rfl)) (by first|rfl|simp[hrc,aG]) (by rw[hrc];exact aE) HORC.out ?_;intro wf HL;refine aF (k:=11) rfl (by kernel_rfl) ?_;refine stD HL HSI 1 rfl 61 (.tmp 9) (.tmp 40) dc (.inr (.inr rfl)) (by first|rfl|simp[hdc,iV]) (by rw[hdc];exact gQ) HODC.out ?_;intro wg HL;refine tna 12 (.bool true) rfl (HSI.out _ HL.out.dr) ?_;refine tna 13 (.bool true) rfl (HSI.out _ HL.out.dr) ?_;refine wpAnyH_done (by kernel_rfl) ?_ _;refine noP ?_;have HB8:=H' (HL.out.b 2);have HB9:=H' (HL.out.b 1);have HP:Hid (kA w c B (some u) T bz (.returned (.tuple #[.agg rc.toArray,.agg dc.toArray,.bool true,.bool true])) wg):=H' ⟨vrc,B2,by rw[HRC.out,←HZ.out,HDC.out];rfl,HL.out.pv0 0,HL.out.ki,HL.out.bb,HNrc.out,HL.out.keep⟩;clear HL HLs HSE HSI;go_wp2_with fail;refine bodyPost_ret (lC rfl _ _ b8 b9 _ _ _ _ _ _ _ _ rfl rfl HB8.out HB9.out aI rfl (by rw[List.size_toArray,hrc];exact aE) Tryz.underlying61 rfl (by rw[List.size_toArray,hdc];exact gQ)) rfl ?_;exact HP.out
 | true =>
   have HR:=H' (HR1.out rfl);have HZ:=H' (HZ1.out rfl);clear HR0 HR1 HZ0 HZ1;have hm0:=Int.emod_nonneg xm (show (65:Int)≠0 by omega);have hm1:=Int.emod_lt_of_pos xm (show (0:Int)<65 by omega);have hun:=HUN.out;have c1:w5.cell? ⟨b7,2,none⟩=some (.bool true):=(aD (i:=2) (HL.out.b 2) H2.out)
   have c2:w5.cell? ⟨b7,1,none⟩=some (.int .i64 xm):=(aD (i:=1) (HL.out.b 2) H1.out)
   go_wp2_with fail;clear c1 c2;refine(vM w5 xm 65 (by omega) (by omega) HN.out.2.1 HN.out.2.2).mono ?_;rintro e w7 ⟨rfl,rfl⟩
   go_wp2_with (first
    | ((with_reducible show WL (some 57) (.load 26 _));refine wpList_load_mid rfl 26 (.tmp 5) rfl b5 0 rfl pc _ (aC (HL.out.b 4)) aI rfl (by rw[hpc];exact aE) ?_))
   have hsz:=HL.out.keep.size;clear hm0 hm1 hun;refine((by rw[←HPC.out];have h:=CB HL.out.ki pv t HT.out (HL.out.pv0 0) f g HFU.out.1 HFU.out.2;rw[HR.out] at h;exact h:Calls _ _ _ w5 (bA w5 c B (.slice none 0 0) r T))).mono ?_;rintro e w8 ⟨vrc,B2,rfl,hpv,hki,hbb,-,hnw,hk⟩;have HNrc:Hid (eE w vrc):=H' ((iN hnw).from hsz);replace HL:=H' (HL.out.laid hpv hki hbb (iN hnw) hk);obtain⟨rc,HRC,hrc,HORC⟩:=nmP hpv;rw[HRC.out];clear hsz hpv hki hbb hnw hk
   go_wp2_with (first
    | ((with_reducible show WL (some 16) (.alloc 26));refine al 26 (.agg aH.toArray) (aH.toArray) aU ?_))
   intro b16 w9 hbs hk0 hb0_
   go_wp2_with (first
    | ((with_reducible show WL _ (.store 26 (.tmp 16) (.tmp 61)));refine sta 26 (.tmp 16) (.tmp 61) b16 0 rc hb0_ (by first|decide|(rw[List.size_toArray,hrc];exact Nat.le_refl _)|simp[hrc,aG]) (by rw[hrc];exact aE) HORC.out ?_))
   intro wa hk hb;rw[aK _ _ (by first|rfl|(rw[List.size_toArray,hrc];rfl)|simp[hrc,aG])] at hb;replace hk:=hk0.trans' hk (U:=aB) (fun _ _ h=>h) (fun i hi e=>by omega);replace HL:=H' (HL.out.new (trivial) hbs hk hb);clear hbs hk hb hk0 hb0_;go_wp2_with fail;replace HL:=HL.out;rw[←HBCE.out,←tR bl f] at HL;have hfg:=HFU.out;obtain⟨hfg1,hfg2⟩:=hfg
   go_loopw [18] (fun i wr=>∃k:Nat,f≤k/\k≤g/\i=.int .i64 (k:Int)/\Hid (Cs B w c T B2 [(vrc,(dM r)),(pv,t.ptr)] wr [(b16,rc.toArray,26),(b9,zbl.toArray,61),(b8,aH.toArray,26),(b7,ec.toArray,65),(b6,(blC (kD bl f k)).toArray,61),(b5,pc.toArray,26)])) (fun i _=>g-(intOf i).toNat)
   case atStart=>exact⟨f,Nat.le_refl _,hfg1,rfl,H' (by rw[tR];rw[tR] at HL;exact HL)⟩
   case round =>
   clear HL;obtain⟨k,hk1,hk2,rfl,HL⟩:=hrel
   by_cases hlt:k<g
   ·have hki:(k:Int)<(g:Int):=by omega
    have hk64:(k:Int)<64:=by omega
    have hk0:(0:Int)≤(k:Int):=by omega
    go_wp2_with (first
     | ((with_reducible show WL _ (.store 5 (.tmp 70) _));refine sta 5 (.tmp 70) (.const (.int .u8 0)) b6 k [.int .u8 0] (HL.out.b 4) (by rw[List.size_toArray,jR];show k+1≤64;omega) (by kernel_rfl) (by intro v hv;rw[List.mem_singleton] at hv;rw[hv];rfl) ?_))
    intro wz hk hb;rw[show spl (blC (kD bl f k)).toArray k [.int .u8 0]=(blC (kD bl f (k+1))).toArray from(DO (kD bl f k) (by omega) 0).trans (by rw[KB bl f hk1])] at hb;replace HL:=H' (HL.out.set 4 hk hb);clear hk hb;go_wp2_with fail
    go_roundw
    case rel=>exact⟨k+1,by omega,by omega,by go_num,HL⟩
    case measure=>simp[intOf];omega
   ·obtain rfl:g=k:=by omega
    obtain⟨dc,hdce⟩:∃l,blC (kD bl f g)=l:=⟨_,rfl⟩
    have HDC:=H' hdce;have hdc:dc.length=64:=by rw[←hdce];exact jR _
    have HODC:Hid (∀u∈dc,u.oneCell'=true):=H' (by rw[←hdce];exact uA _);rw[hdce] at HL;clear hdce;go_wp2_with fail;cases r with
    | none =>
      rw[show eL (none)=15 from rfl];go_wp2_with fail;refine nY (fun k=>k=b8\/k=b9) HL (by kernel_rfl) ?_;intro wb SW HSE HSI hkd HL;clear hkd;have HLs:=HL;refine tnd 0 (.agg rc.toArray) rfl (ldD 26 (.tmp 16) b16 0 rc _ (fun w' h=>aC ((HSE.out w' h).blk (HLs.out.b 0) (by rintro (e|e);exact HLs.out.ne 2 0 (by decide) rfl rfl e;exact HLs.out.ne 1 0 (by decide) rfl rfl e))) aI (by rw[hrc];exact aE)) (HSI.out _ HL.out.dr) ?_;refine tnd 1 (.agg dc.toArray) rfl (ldD 61 (.tmp 6) b6 0 dc _ (fun w' h=>aC ((HSE.out w' h).blk (HLs.out.b 4) (by rintro (e|e);exact HLs.out.ne 2 4 (by decide) rfl rfl e;exact HLs.out.ne 1 4 (by decide) rfl rfl e))) Tryz.underlying61 (by rw[hdc];exact gQ)) (HSI.out _ HL.out.dr) ?_;refine tna 2 (.int .i64 15) rfl (HSI.out _ HL.out.dr) ?_;refine tnb 3 (.bool false) rfl (HSI.out _ HL.out.dr) ?_;refine tna 4 (.int .i64 15) rfl (HSI.out _ HL.out.dr) ?_;refine tnb 5 (.bool false) rfl (HSI.out _ HL.out.dr) ?_;refine tna 6 (.bool false) rfl (HSI.out _ HL.out.dr) ?_;refine tna 7 (.int .i64 15) rfl (HSI.out _ HL.out.dr) ?_;refine tnb 8 (.bool true) rfl (HSI.out _ HL.out.dr) ?_;refine tna 9 (.bool true) rfl (HSI.out _ HL.out.dr) ?_;refine aF (k:=10) rfl (by kernel_rfl) ?_;refine stD HL HSI 2 rfl 26 (.tmp 8) (.tmp 71) rc (.inr (.inl rfl)) (by first|rfl|simp[hrc,aG]) (by rw[hrc];exact aE) HORC.out ?_;intro wc HL;refine aF (k:=11) rfl (by kernel_rfl) ?_;refine stD HL HSI 1 rfl 61 (.tmp 9) (.tmp 72) dc (.inr (.inr rfl)) (by first|rfl|simp[hdc,iV]) (by rw[hdc];exact gQ) HODC.out ?_;intro wd HL;refine tna 12 (.bool false) rfl (HSI.out _ HL.out.dr) ?_;refine tna 13 (.bool true) rfl (HSI.out _ HL.out.dr) ?_;refine wpAnyH_done (by kernel_rfl) ?_ _;refine noP ?_;have HB8:=H' (HL.out.b 2);have HB9:=H' (HL.out.b 1);have HP:Hid (kA w c B (none) T bz (.returned (.tuple #[.agg rc.toArray,.agg dc.toArray,.bool false,.bool true])) wd):=H' ⟨vrc,B2,by rw[HRC.out,←HZ.out,HDC.out];rfl,HL.out.pv0 0,HL.out.ki,HL.out.bb,HNrc.out,HL.out.keep⟩;clear HL HLs HSE HSI;go_wp2_with fail;refine bodyPost_ret (lC rfl _ _ b8 b9 _ _ _ _ _ _ _ _ rfl rfl HB8.out HB9.out aI rfl (by rw[List.size_toArray,hrc];exact aE) Tryz.underlying61 rfl (by rw[List.size_toArray,hdc];exact gQ)) rfl ?_;exact HP.out
    | some u =>
      rw[show eL (some u)=0 from rfl];go_wp2_with fail;refine nY (fun k=>k=b8\/k=b9) HL (by kernel_rfl) ?_;intro wb SW HSE HSI hkd HL;clear hkd;have HLs:=HL;refine tnd 0 (.agg rc.toArray) rfl (ldD 26 (.tmp 16) b16 0 rc _ (fun w' h=>aC ((HSE.out w' h).blk (HLs.out.b 0) (by rintro (e|e);exact HLs.out.ne 2 0 (by decide) rfl rfl e;exact HLs.out.ne 1 0 (by decide) rfl rfl e))) aI (by rw[hrc];exact aE)) (HSI.out _ HL.out.dr) ?_;refine tnd 1 (.agg dc.toArray) rfl (ldD 61 (.tmp 6) b6 0 dc _ (fun w' h=>aC ((HSE.out w' h).blk (HLs.out.b 4) (by rintro (e|e);exact HLs.out.ne 2 4 (by decide) rfl rfl e;exact HLs.out.ne 1 4 (by decide) rfl rfl e))) Tryz.underlying61 (by rw[hdc];exact gQ)) (HSI.out _ HL.out.dr) ?_;refine tna 2 (.int .i64 0) rfl (HSI.out _ HL.out.dr) ?_;refine tnb 3 (.bool true) rfl (HSI.out _ HL.out.dr) ?_;refine tna 4 (.int .i64 0) rfl (HSI.out _ HL.out.dr) ?_;refine tnb 5 (.bool true) rfl (HSI.out _ HL.out.dr) ?_;refine tna 6 (.bool true) rfl (HSI.out _ HL.out.dr) ?_;refine tnc 7 undef rfl (HSI.out _ HL.out.dr) ?_;refine tnc 8 undef rfl (HSI.out _ HL.out.dr) ?_;refine tna 9 (.bool true) rfl (HSI.out _ HL.out.dr) ?_;refine aF (k:=10) rfl (by kernel_rfl) ?_;refine stD HL HSI 2 rfl 26 (.tmp 8) (.tmp 71) rc (.inr (.inl rfl)) (by first|rfl|simp[hrc,aG]) (by rw[hrc];exact aE) HORC.out ?_;intro wc HL;refine aF (k:=11) rfl (by kernel_rfl) ?_;refine stD HL HSI 1 rfl 61 (.tmp 9) (.tmp 72) dc (.inr (.inr rfl)) (by first|rfl|simp[hdc,iV]) (by rw[hdc];exact gQ) HODC.out ?_;intro wd HL;refine tna 12 (.bool true) rfl (HSI.out _ HL.out.dr) ?_;refine tna 13 (.bool true) rfl (HSI.out _ HL.out.dr) ?_;refine wpAnyH_done (by kernel_rfl) ?_ _;refine noP ?_;have HB8:=H' (HL.out.b 2);have HB9:=H' (HL.out.b 1);have HP:Hid (kA w c B (some u) T bz (.returned (.tuple #[.agg rc.toArray,.agg dc.toArray,.bool true,.bool true])) wd):=H' ⟨vrc,B2,by rw[HRC.out,←HZ.out,HDC.out];rfl,HL.out.pv0 0,HL.out.ki,HL.out.bb,HNrc.out,HL.out.keep⟩;clear HL HLs HSE HSI;go_wp2_with fail;refine bodyPost_ret (lC rfl _ _ b8 b9 _ _ _ _ _ _ _ _ rfl rfl HB8.out HB9.out aI rfl (by rw[List.size_toArray,hrc];exact aE) Tryz.underlying61 rfl (by rw[List.size_toArray,hdc];exact gQ)) rfl ?_;exact HP.out
theorem Df(w:World):Calls Tryz.prog 12 #[] w (E8 w):=by
 have hzp:(aJ (.slice none 0 0) zPt).length=35:=rfl;have hzb:=iL;obtain⟨zp,hzpe⟩:∃l,aJ (.slice none 0 0) zPt=l:=⟨_,rfl⟩
 have HOZP:Hid (∀u∈zp,u.oneCell'=true):=H' (by rw[←hzpe];exact bY zPt);have HZPE:=H' hzpe;rw[hzpe] at hzp hzb;have HZB:=H' hzb;clear hzpe hzb;have HL:=H' (Loc.nil aB aB w);go_enter Tryz.func12,Tryz.ntmps12;go_wp2_with fail;refine(xY w 40 (by omega)).mono ?_;rintro e w1 ⟨c,M,B,rfl,hki,hB,hk⟩;have HK:=H' hki;have HBN:=H' hB;have HKW:=H' hk;replace HL:=H' (Loc.nil B B w1);clear hki hB hk;obtain⟨u,S1,hset,hr1,hu⟩:=xR (t:=.hole) (n:=5) (b:=sec 1) (N:=31) (Kor.room_new 40 M 0) (xX (b:=0) (by decide)) (by rw[Tr.blk_hole];exact xX (a:=0) (by decide));have hso:=zE HK.out.bd (Tr.ok_hole _ 3) (by omega) (eN 1) hset;have HUO:=H' (hso.2 u rfl).1;have HUB:=H' (iA.set iA.hole (hso.2 u rfl).2);have HMN:Hid (((u.many 3:Nat):Int)=1):=H' (by rw[HUB.out.many HUO.out];rfl);have HU5:Hid (decide (u.blk 3 5=sec 1)=true):=H' (decide_eq_true (HUB.out 5 (by omega)));have HU6:Hid (decide (u.blk 3 6=sec 0)=true):=H' (decide_eq_true (HUB.out 6 (by omega)));have HTOP:=H' (HUO.out.top hu);have HTX:Hid (S1.txg=0):=H' hso.1.txg;have HSET:=H' hset;clear hso hset hr1 hu
 go_wp2_with (first
  | ((with_reducible show WL (some 11) (.build _ _));refine bld 26 #[] [] (.agg zp.toArray) HZB.out ?_))
 refine((gF w1 1:Calls _ _ _ w1 (lY w1 1))).mono ?_;rintro e w2 ⟨v_,rfl,ho,hk⟩;obtain⟨roa,roc,rfl,-,-⟩:=(Rd.of_owns ho).form;have Hro:=H' ho;have HroO:=H' (jQ ho (fun i e=>HK.out.lt e));clear ho;replace HL:=H' (HL.out.keeps hk);replace HK:=H' (HK.out.keep0 hk);clear hk
 go_wp2_with (first
  | ((with_reducible show WL (some 11) (.build _ _));refine bld 26 #[] [] (.agg zp.toArray) HZB.out ?_))
 refine((by rw[←HZPE.out];have h:=gP HK.out (.slice none 0 0) .hole (Tr.ok_hole _ 3) (aL.hole _ _) 5 (by omega) (.slice roa 256 roc) (sec 1) (eN 1) (Rd.of_owns Hro.out) HroO.out;rw[HSET.out] at h;exact h:Calls _ _ _ w2 (bA w2 c B (.slice none 0 0) (some u) S1))).mono ?_;rintro e w3 ⟨v,B2,hm1,hpv,hki,hbb2,hcl,hnw,hk⟩;have HPV:=H' hpv;have HK2:=H' hki;have HBB:=H' hbb2;have HBS:=H' HL.out.keep.size;replace HL:=H' (HL.out.turn hk (fun _ _ h=>h) (fun i hi hb=>(hbb2 i hb).elim id fun e=>by omega));replace HPV:Hid (aL w3 B2 v u.ptr):=HPV;subst hm1;rw[show dM (some u)=u.ptr from rfl,show eL (some u)=0 from rfl];obtain⟨rc,HRC,hrc,HORC⟩:=nmPt HPV.out.pt;rw[HRC.out];clear hpv hki hbb2 hcl hnw hk HK Hro
 go_wp2_with (first
  | ((with_reducible show WL (some 11) (.build _ _));refine bld 26 #[] [] (.agg zp.toArray) HZB.out ?_)
  | ((with_reducible show WL (some 2) (.alloc 26));refine al 26 (.agg aH.toArray) (aH.toArray) aU ?_))
 intro b2 w4 hbs hk0 hb0_
 go_wp2_with (first
  | ((with_reducible show WL (some 11) (.build _ _));refine bld 26 #[] [] (.agg zp.toArray) HZB.out ?_)
  | ((with_reducible show WL _ (.store 26 (.tmp 2) (.tmp 14)));refine sta 26 (.tmp 2) (.tmp 14) b2 0 rc hb0_ (by first|decide|(rw[List.size_toArray,hrc];exact Nat.le_refl _)|simp[hrc,aG]) (by rw[hrc];exact aE) HORC.out ?_))
 intro w5 hk hb;rw[aK _ _ (by first|rfl|(rw[List.size_toArray,hrc];rfl)|simp[hrc,aG])] at hb;replace hk:=hk0.trans' hk (U:=aB) (fun _ _ h=>h) (fun i hi e=>by omega);replace HL:=H' (HL.out.new (fun k h=>HK2.out.lt h) hbs hk hb);replace HPV:=H' (aL.keep0 HPV.out hk);replace HK2:=H' (HK2.out.keep0 hk);clear hbs hk hb hk0 hb0_
 go_wp2_with (first
  | ((with_reducible show WL (some 18) (.load 26 _));refine wpList_load_mid rfl 26 (.tmp 2) rfl b2 0 rfl rc _ (aC (HL.out.b 0)) aI rfl (by rw[hrc];exact aE) ?_))
 refine((by rw[←HRC.out];exact GV HK2.out v u HUO.out HPV.out:Calls _ _ _ w5 (AB w5 u))).mono ?_;rintro e w6 ⟨rfl,hk⟩;replace HL:=H' (HL.out.keeps hk);replace HPV:=H' (aL.keep0 HPV.out hk);replace HK2:=H' (HK2.out.keep0 hk);clear hk;rw[HMN.out];go_wp2_with fail;obtain⟨S,hS0⟩:∃S:World->Prop,S=fun w'=>aA aB w6.drew w':=⟨_,rfl⟩
 have HSE:=H' (show ∀w',S w'->aA aB w6.drew w' from fun w' h=>by rw[hS0] at h;exact h);have HSI:=H' (show ∀w',aA aB w6.drew w'->S w' from fun w' h=>by rw[hS0];exact h);have hS:S w6.drew:=by rw[hS0];exact aA.refl _ _
 have hkd:=(aA.refl aB w6).drew;clear hS0;refine wp_region_held (S:=S) (by kernel_rfl) ?_;change wpAnyH _ _ _ _ _ _ _ _ w6.drew;generalize w6.drew=w7 at HSE HSI hS hkd ⊢;replace HL:=H' (HL.out.keeps hkd);replace HPV:=H' (aL.keep0 HPV.out hkd);replace HK2:=H' (HK2.out.keep0 hkd);clear hkd;have HLs:=HL;have HPVs:=HPV;have HK2s:=HK2;refine tna 0 (.int .i64 0) rfl hS ?_;refine tnb 1 (.bool true) rfl hS ?_;refine tna 2 (.bool true) rfl hS ?_;refine tnb 3 (.pointer (some ⟨b2,2,none⟩)) rfl hS ?_;refine tnd 4 (.int .i64 3) rfl (.inl ⟨by rfl,fun w' hw'=>by have c:World.cell? w' ⟨b2,2,none⟩=some (.int .i64 3):=(aD (i:=2) ((HSE.out w' hw').blk (HLs.out.b 0) id) (by rw[←HRC.out];show some (Value.int .i64 u.ptr.level)=_;rw[HTOP.out.1]));go_simp⟩) hS ?_;refine tnb 5 (.bool true) rfl hS ?_;refine tna 6 (.bool true) rfl hS ?_;refine tna 7 (.bool true) rfl hS ?_;refine tnb 8 (.pointer (some ⟨b2,1,none⟩)) rfl hS ?_;refine tnd 9 (.int .i64 1) rfl (.inl ⟨by rfl,fun w' hw'=>by have c:World.cell? w' ⟨b2,1,none⟩=some (.int .i64 1):=(aD (i:=1) ((HSE.out w' hw').blk (HLs.out.b 0) id) (by rw[←HRC.out];show some (Value.int .i64 u.ptr.birth)=_;rw[show u.ptr.birth=1 from by have:=HTOP.out.2;have:=HTX.out;omega]));go_simp⟩) hS ?_;refine tnb 10 (.bool true) rfl hS ?_;refine tna 11 (.bool true) rfl hS ?_;refine tna 12 (.bool true) rfl hS ?_;refine tna 13 (.int .i64 0) rfl hS ?_;refine tnb 14 (.bool true) rfl hS ?_;refine tna 15 (.bool true) rfl hS ?_;refine tna 16 (.bool true) rfl hS ?_;refine tna 17 (.int .i64 1) rfl hS ?_;refine tnb 18 (.bool true) rfl hS ?_;refine tna 19 (.bool true) rfl hS ?_;refine tna 20 (.bool true) rfl hS ?_;refine tna 21 (.pointer (some ⟨c,0,none⟩)) rfl hS ?_;refine tnd 22 (.agg rc.toArray) rfl (yieldsIf_load_mid (by rfl) 26 (.tmp 2) rfl b2 0 rfl rc _ (fun w' h=>aC ((HSE.out w' h).blk (HLs.out.b 0) id)) aI rfl (by rw[hrc];exact aE)) hS ?_;refine aF (k:=23) rfl (by kernel_rfl) ?_;go_wp2_with fail;refine((gF w7 1:Calls _ _ _ w7 (lY w7 1))).mono ?_;rintro e w8 ⟨v_,rfl,ho,hk⟩;obtain⟨rpa,rpc,rfl,-,-⟩:=(Rd.of_owns ho).form;have Hrp:=H' ho;clear ho;have hS1:=HSI.out _ ((HSE.out _ hS).trans hk);replace HL:=H' (HL.out.keeps hk);replace HPV:=H' (aL.keep0 HPV.out hk);replace HK2:=H' (HK2.out.keep0 hk);clear hS hk;go_wp2_with fail;refine⟨hS1,?_⟩;refine aF (k:=24) rfl (by kernel_rfl) ?_;go_wp2_with fail;refine((by rw[←HRC.out];have h:=pH HK2.out v u HUO.out HPV.out 5 (by omega) (.slice rpa 256 rpc) (sec 1) (eN 1) (Rd.of_owns Hrp.out);rw[HU5.out] at h;exact h:Calls _ _ _ w8 (bE w8 true))).mono ?_;rintro e w9 ⟨rfl,hk⟩;have hS2:=HSI.out _ ((HSE.out _ hS1).trans hk);replace HL:=H' (HL.out.keeps hk);replace HPV:=H' (aL.keep0 HPV.out hk);replace HK2:=H' (HK2.out.keep0 hk);replace Hrp:=H' (hk.owns Hrp.out fun _ _=>id);clear hS1 hk;go_wp2_with fail;refine⟨hS2,?_⟩;refine tna 25 (.bool true) rfl hS2 ?_;refine tna 26 (.bool true) rfl hS2 ?_;refine tna 27 (.pointer (some ⟨c,0,none⟩)) rfl hS2 ?_;refine tnd 28 (.agg rc.toArray) rfl (yieldsIf_load_mid (by rfl) 26 (.tmp 2) rfl b2 0 rfl rc _ (fun w' h=>aC ((HSE.out w' h).blk (HLs.out.b 0) id)) aI rfl (by rw[hrc];exact aE)) hS2 ?_;refine aF (k:=29) rfl (by kernel_rfl) ?_;go_wp2_with fail;refine((gF w9 0:Calls _ _ _ w9 (lY w9 0))).mono ?_;rintro e wa ⟨v_,rfl,ho,hk⟩;obtain⟨rqa,rqc,rfl,-,-⟩:=(Rd.of_owns ho).form;have Hrq:=H' ho;clear ho;have hS3:=HSI.out _ ((HSE.out _ hS2).trans hk);replace HL:=H' (HL.out.keeps hk);replace HPV:=H' (aL.keep0 HPV.out hk);replace HK2:=H' (HK2.out.keep0 hk);replace Hrp:=H' (hk.owns Hrp.out fun _ _=>id);clear hS2 hk;go_wp2_with fail;refine⟨hS3,?_⟩;refine aF (k:=30) rfl (by kernel_rfl) ?_;go_wp2_with fail;refine((by rw[←HRC.out];have h:=pH HK2.out v u HUO.out HPV.out 6 (by omega) (.slice rqa 256 rqc) (sec 0) (eN 0) (Rd.of_owns Hrq.out);rw[HU6.out] at h;exact h:Calls _ _ _ wa (bE wa true))).mono ?_;rintro e wb ⟨rfl,hk⟩;have hS4:=HSI.out _ ((HSE.out _ hS3).trans hk);replace HL:=H' (HL.out.keeps hk);replace HPV:=H' (aL.keep0 HPV.out hk);replace HK2:=H' (HK2.out.keep0 hk);replace Hrp:=H' (hk.owns Hrp.out fun _ _=>id);replace Hrq:=H' (hk.owns Hrq.out fun _ _=>id);clear hS3 hk;go_wp2_with fail;refine⟨hS4,?_⟩;refine tna 31 (.bool true) rfl hS4 ?_;refine tna 32 (.bool true) rfl hS4 ?_;refine wpAnyH_done (by kernel_rfl) ?_ _;clear hS4 HSE HSI HLs HPVs HK2s;have HP:Hid (E8 w (.returned (.bool true)) wb):=H' ⟨rfl,HKW.out.trans' HL.out.keep (fun _ _ h=>h.elim) (fun i hi e=>by have:=HBN.out i e;omega)⟩;clear HL HK2 HPV;go_wp2_with fail;go_ret;exact HP.out
end
end Go.Proofs.YtjkbekifgobeaaaGreat
