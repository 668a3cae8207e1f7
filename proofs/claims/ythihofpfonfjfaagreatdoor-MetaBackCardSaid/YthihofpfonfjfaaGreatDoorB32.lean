/- A part of the proof. Conditions: those told. -/
import Derived.Test.YthihofpfonfjfaaGreatDoorB1
import Derived.Test.YthihofpfonfjfaaGreatDoorB31
namespace Go.Proofs.YthihofpfonfjfaaGreatDoor
set_option maxHeartbeats 64000000
set_option maxRecDepth 100000
set_option linter.unusedVariables false
section
open Go.RowKit Go.Maps Go.ChangeMaps
theorem MV(w:World):Calls Tryz.prog 10 #[.agg (aE (.slice none 0 0) zPt).toArray] w (aX w true):=by
 have h:=cJ w (.slice none 0 0) zPt (mB w);rw[gP] at h;exact h
theorem BI(W:World)(v:Value)(b:List UInt8)(hr:Rd W 1 v b.length (b.map vb))(n:Int)(hn0:-9223372036854775808≤n)(hn1:n≤9223372036854775807)(mo:Int)(hm0:-9223372036854775808≤mo)(hm1:mo≤9223372036854775807):Calls Tryz.prog 3 #[v,.int .i64 n,.int .i64 mo] W (F2 W):=by
 obtain⟨oa,oc,rfl,hlc,hcm⟩:=hr.form;have hlm:b.length≤maxLen:=by omega
 unfold maxLen at hlm;obtain⟨N,hn⟩:∃n,b.length=n:=⟨_,rfl⟩
 have HN:=O hn;have HR:=O hr;have HNN:=O (And.intro hn0 hn1);have HMM:=O (And.intro hm0 hm1);rw[hn] at HR hlm ⊢;clear hr hn hlc hcm hn0 hn1 hm0 hm1;have hzp:(aE (.slice none 0 0) zPt).length=35:=rfl;have hzb:=iJ;obtain⟨zp,hzpe⟩:∃l,aE (.slice none 0 0) zPt=l:=⟨_,rfl⟩
 have HOZP:Hid (∀u∈zp,u.oneCell'=true):=O (by rw[←hzpe];exact bR zPt);have HZPE:=O hzpe;rw[hzpe] at hzp hzb;have HZB:=O hzb;clear hzpe hzb;go_enter Tryz.func3,Tryz.ntmps3;have HKW:=O (aA.refl aB W);go_wp2_with fail;refine((Aw W)).mono ?_;rintro e w1 ⟨rfl,hk⟩;replace HKW:=O (HKW.out.trans hk);clear hk;go_wp2_with fail;refine((Cr w1 n 81 (by decide) (by decide) HNN.out.1 HNN.out.2)).mono ?_;rintro e w2 ⟨rfl,rfl⟩;obtain⟨z0,hz,hz81⟩:∃z0:Nat,n % 81=(z0:Int)/\z0<81:=⟨(n % 81).toNat,by omega,by omega⟩
 rw[hz];clear hz;go_wp2_with fail;refine((by have h:=sH w1 (20+z0) (by omega);have e:((20+z0:Nat):Int)=20+(z0:Int):=(by omega);rw[e] at h;exact h:Calls _ _ _ w1 (xD w1 (20+z0)))).mono ?_;rintro e w3 ⟨c,M,B,rfl,hki,hB,hk⟩;obtain⟨Z,hZ⟩:∃Z,20+z0=Z:=⟨_,rfl⟩
 rw[hZ] at hki;have HZ:Hid (20≤Z/\Z≤100):=O (by omega);have HBN:Hid (∀k,B k->W.heap.size≤k):=O (fun k h=>Nat.le_trans HKW.out.size (hB k h));replace HKW:=O (HKW.out.trans hk);have HL:=O (Cs.start hki);clear hki hB hk hZ
 by_cases h30:17000<N
 ·have hi:(17000:Int)<(N:Int):=by omega
  have d1:decide ((17000:Int)<(N:Int))=true:=decide_eq_true hi;have HP:=O (HL.out.fin HBN.out HKW.out);clear HL;go_wp2_with fail;go_ret;exact⟨rfl,HP.out⟩
 ·have hi:¬(17000:Int)<(N:Int):=by omega
  have d1:decide ((17000:Int)<(N:Int))=false:=decide_eq_false hi;go_wp2_with fail
  by_cases h31:16384<N
  ·have hi2:(16384:Int)<(N:Int):=by omega
   have d2:decide ((16384:Int)<(N:Int))=true:=decide_eq_true hi2;go_wp2_with fail;refine((IR oa N oc h31:Calls _ _ _ w3 (aF w3 (.tuple #[.int .i64 0,.int .i64 3])))).mono ?_;rintro e w4 ⟨rfl,hk⟩;replace HL:=O (HL.out.keeps hk);clear hk;go_wp2_with fail;refine((xE HL.out.ki (Kor.room_new Z M 0) (((Z-5:Nat):Nat):Int) rfl:Calls _ _ _ w4 (aF w4 (.tuple #[.int .i64 ((Z-5:Nat):Int),.int .i64 0])))).mono ?_;rintro e w5 ⟨rfl,hk⟩;replace HL:=O (HL.out.keeps hk);clear hk;go_wp2_with fail;refine(((by rw[←HZPE.out];exact Bg HL.out.ki oa N oc h31):Calls _ _ _ w5 (aF w5 (.tuple #[.agg zp.toArray,.int .i64 3])))).mono ?_;rintro e w6 ⟨rfl,hk⟩;replace HL:=O (HL.out.keeps hk);clear hk
   go_wp2_with ((with_reducible show WL _ _);refine al 35 (.agg aK.toArray) (aK.toArray) bJ ?_)
   intro b13 w7 hbs hk0 hb0_
   go_wp2_with ((with_reducible show WL _ _);refine sta 35 (.tmp 13) (.tmp 51) b13 0 zp hb0_ (by first|decide|(rw[List.size_toArray,hzp];exact Nat.le_refl _)|simp[hzp,aH]) (szP9 hzp) HOZP.out ?_)
   intro w8 hk hb;rw[aG _ _ (by first|rfl|(rw[List.size_toArray,hzp];rfl)|simp[hzp,aH])] at hb;replace hk:=hk0.trans' hk (U:=aB) (fun _ _ h=>h) (fun i hi e=>by omega);replace HL:=O (HL.out.new (trivial) hbs hk hb);clear hbs hk hb hk0 hb0_
   go_wp2_with ((with_reducible show WL _ _);refine aY (by rfl) 35 (.tmp 13) rfl b13 0 rfl zp _ (aD (HL.out.b 0)) aJ rfl (szP9 hzp) ?_)
   refine(((by rw[←HZPE.out];exact MV w8):Calls _ _ _ w8 (aX w8 true))).mono ?_;rintro e w9 ⟨rfl,hk⟩;replace HL:=O (HL.out.keeps hk);clear hk;have HP:=O (HL.out.fin HBN.out HKW.out);clear HL;go_wp2_with fail;go_ret;exact⟨rfl,HP.out⟩
  ·have hi2:¬(16384:Int)<(N:Int):=by omega
   have d2:decide ((16384:Int)<(N:Int))=false:=decide_eq_false hi2;have HFL:Hid ((bL b).length=16384):=O (jI (by rw[HN.out];omega));obtain⟨q,hq⟩:∃q,aZ 3 (bL b)=q:=⟨_,rfl⟩
   have HQ:=O hq;have hq127:q≤127:=by rw[←hq];exact Di (by omega) _
   clear hq;go_wp2_with fail;refine((by rw[←HQ.out];exact xI (.slice oa N oc) b (by rw[HN.out];omega) (by rw[HN.out];exact HR.out.keep (HL.out.fin HBN.out HKW.out) fun _ _=>id):Calls _ _ _ w3 (aF w3 (.tuple #[.int .i64 (q:Int),.int .i64 0])))).mono ?_;rintro e wa ⟨rfl,hk⟩;replace HL:=O (HL.out.keeps hk);clear hk;go_wp2_with fail;refine((xE HL.out.ki (Kor.room_new Z M 0) (((Z-5:Nat):Nat):Int) rfl:Calls _ _ _ wa (aF wa (.tuple #[.int .i64 ((Z-5:Nat):Int),.int .i64 0])))).mono ?_;rintro e wb ⟨rfl,hk⟩;replace HL:=O (HL.out.keeps hk);clear hk;obtain⟨R,hR⟩:∃R,Z-5=R:=⟨_,rfl⟩
   have HRM:=O hR;rw[hR];have hR95:R≤95:=by have h:=HZ.out;omega
   clear hR
   by_cases hqr:R<q
   ·have hqi:¬(q:Int)≤(R:Int):=by omega
    have d3:decide ((q:Int)≤(R:Int))=false:=decide_eq_false hqi
    obtain⟨S1,hlay⟩:∃T,dD 3 (⟨2,Z,2,[],M,0⟩:Kor) (bL b)=(none,T):=by
     have h:=tY (l:=3) (by omega) HL.out.ki.bd (Kor.room_new Z M 0) HFL.out;rw[HQ.out,HRM.out,if_neg (by omega)] at h;exact h
    have HLAY:=O hlay;clear hlay;go_wp2_with fail;go_wp2_with fail;refine(((by rw[←HZPE.out];exact jT HL.out.ki (.slice oa N oc) b (by rw[HN.out];omega) (by rw[HN.out];exact HR.out.keep (HL.out.fin HBN.out HKW.out) fun _ _=>id) none S1 HLAY.out):Calls _ _ _ wb (fun e w_=>e=.returned (.tuple #[.agg zp.toArray,.int .i64 15])/\aA B wb w_))).mono ?_;rintro e wc ⟨rfl,hk⟩;have HKX:Hid (aA aB W wc):=O ((HL.out.fin HBN.out HKW.out).trans' hk (fun _ _ h=>h) fun i hi e=>by have h:=HBN.out i e;omega);clear HL hk;have HL:=O (Loc.nil aB aB wc)
    go_wp2_with ((with_reducible show WL _ _);refine al 35 (.agg aK.toArray) (aK.toArray) bJ ?_)
    intro b13 wd hbs hk0 hb0_
    go_wp2_with ((with_reducible show WL _ _);refine sta 35 (.tmp 13) (.tmp 51) b13 0 zp hb0_ (by first|decide|(rw[List.size_toArray,hzp];exact Nat.le_refl _)|simp[hzp,aH]) (szP9 hzp) HOZP.out ?_)
    intro we hk hb;rw[aG _ _ (by first|rfl|(rw[List.size_toArray,hzp];rfl)|simp[hzp,aH])] at hb;replace hk:=hk0.trans' hk (U:=aB) (fun _ _ h=>h) (fun i hi e=>by omega);replace HL:=O (HL.out.new (fun _ h=>h.elim) hbs hk hb);clear hbs hk hb hk0 hb0_;have HP:=O (HKX.out.trans HL.out.keep);clear HL;go_wp2_with fail;go_ret;exact⟨rfl,HP.out⟩
   ·have hqi:(q:Int)≤(R:Int):=by omega
    have d3:decide ((q:Int)≤(R:Int))=true:=decide_eq_true hqi;obtain⟨u,S1,hlay,hroom,hlaid,huo,hbt⟩:=Dm HL.out.ki.bd (Kor.room_new Z M 0) (b:=b) (by rw[HN.out];omega) (by rw[HQ.out,HRM.out];omega);rw[HQ.out,HRM.out] at hroom;have HLAY:=O hlay;have HUO:=O huo;have HBT:=O hbt;have HROOM:=O hroom;have HPTS:Hid ((fC 3 u).length=q):=O (hlaid.many.trans HQ.out)
    obtain⟨hu,hue,he1,he2⟩:∃hu,u.ptr.hole=hu/\((q:Int) == 0)=hu/\decide ((q:Int)=0)=hu:=by
     refine⟨_,rfl,?_⟩;have h2:=hlaid.many.trans HQ.out;rw[huo.hole_eq];cases hh:u.isHole with
     | true=>rw[gK hh,mY] at h2;rw[←h2];exact⟨rfl,rfl⟩
     | false =>
       rw[pP,hh] at h2;have h3:0<q:=by rw[←h2];exact Nat.succ_pos _
       exact⟨by rw[beq_eq_false_iff_ne];omega,decide_eq_false (by omega)⟩
    have HUE:=O hue;have HRT:Hid (u.ptr.root=true):=O huo.root;clear hlay hroom hlaid huo hbt hue;go_wp2_with fail;go_wp2_with fail;have hsz:=HL.out.keep.size;refine(((jT HL.out.ki (.slice oa N oc) b (by rw[HN.out];omega) (by rw[HN.out];exact HR.out.keep (HL.out.fin HBN.out HKW.out) fun _ _=>id) (some u) S1 HLAY.out).mono fun e w h=>h.tr:Calls _ _ _ wb (jG wb c B (.slice none 0 0) (some u) S1))).mono ?_;rintro e wf ⟨vrc,B2,rfl,hpv,hki,hbb,-,hnw,hk⟩;replace hpv:aQ wf B2 vrc u.ptr:=hpv;rw[show xC (some u)=u.ptr from rfl,show Ak (some u)=0 from rfl];replace HL:=O (HL.out.laid hpv hki hbb (uU hnw) hk);obtain⟨rc,HRC,hrc,HORC⟩:=nmP hpv;rw[HRC.out];clear hsz hpv hki hbb hnw hk
    go_wp2_with ((with_reducible show WL _ _);refine al 35 (.agg aK.toArray) (aK.toArray) bJ ?_)
    intro b13 wg hbs hk0 hb0_
    go_wp2_with ((with_reducible show WL _ _);refine sta 35 (.tmp 13) (.tmp 51) b13 0 rc hb0_ (by first|decide|(rw[List.size_toArray,hrc];exact Nat.le_refl _)|simp[hrc,aH]) (szP9 hrc) HORC.out ?_)
    intro wh hk hb;rw[aG _ _ (by first|rfl|(rw[List.size_toArray,hrc];rfl)|simp[hrc,aH])] at hb;replace hk:=hk0.trans' hk (U:=aB) (fun _ _ h=>h) (fun i hi e=>by omega);replace HL:=O (HL.out.new (trivial) hbs hk hb);clear hbs hk hb hk0 hb0_;go_wp2_with fail;go_wp2_with fail;refine((xE HL.out.ki HROOM.out ((R-q:Nat):Int) rfl:Calls _ _ _ wh (aF wh (.tuple #[.int .i64 ((R-q:Nat):Int),.int .i64 0])))).mono ?_;rintro e wi ⟨rfl,hk⟩;replace HL:=O (HL.out.keeps hk);clear hk;have hrq:((R-q:Nat):Int)=(R:Int)-(q:Int):=by omega
    rw[hrq];clear hrq
    go_wp2_with ((with_reducible show WL _ _);refine wpList_load_mid rfl 35 (.tmp 13) rfl b13 0 rfl rc _ (aD (HL.out.b 0)) aJ rfl (szP9 hrc) ?_)
    refine((by rw[←HRC.out];exact Dr HL.out.ki vrc u HUO.out (HL.out.pv0 0):Calls _ _ _ wi (oL wi (fC 3 u)))).mono ?_;rintro e wj ⟨tv,qs,rfl,-,ho,-,hk⟩;obtain⟨ta,tc,rfl,-,-⟩:=(Rd.of_owns ho).form;rw[HPTS.out];clear ho;replace HL:=O (HL.out.keeps hk);clear hk;have hwrq:IntKind.i64.wrap ((R:Int)-(q:Int))=(R:Int)-(q:Int):=IntWalk.i64_in _ (by omega)
    go_wp2_with ((with_reducible show WL _ _);refine aY (by rfl) 35 (.tmp 13) rfl b13 0 rfl rc _ (aD (HL.out.b 0)) aJ rfl (szP9 hrc) ?_)
    refine((by rw[←HRC.out];exact kF wj vrc u.ptr (HL.out.pv0 0).pt HRT.out:Calls _ _ _ wj (aF wj (.int .i64 0)))).mono ?_;rintro e wk ⟨rfl,hk⟩;replace HL:=O (HL.out.keeps hk);clear hk
    go_wp2_with ((with_reducible show WL _ _);refine aY (by rfl) 35 (.tmp 13) rfl b13 0 rfl rc _ (aD (HL.out.b 0)) aJ rfl (szP9 hrc) ?_)
    refine((by rw[←HRC.out];exact cJ wk vrc u.ptr (HL.out.pv0 0).pt:Calls _ _ _ wk (aX wk u.ptr.hole))).mono ?_;rintro e wl ⟨rfl,hk⟩;replace HL:=O (HL.out.keeps hk);clear hk;rw[HUE.out];go_wp2_with fail;go_wp2_with fail;refine((Cr wl mo 600 (by decide) (by decide) HMM.out.1 HMM.out.2)).mono ?_;rintro e wm ⟨rfl,rfl⟩;obtain⟨m0,hm,hm600⟩:∃m0:Nat,mo % 600=(m0:Int)/\m0<600:=⟨(mo % 600).toNat,by omega,by omega⟩
    rw[hm];obtain⟨k,hk_,hkn⟩:∃k:Nat,min (m0:Int) (16384-(N:Int))=(k:Int)/\N+k≤16384:=⟨(min (m0:Int) (16384-(N:Int))).toNat,by omega,by omega⟩
    clear hm;go_wp2_with fail;clear hk_;have HRB:=O (HR.out.keep (HL.out.fin HBN.out HKW.out) fun _ _=>id);have hNb:(N:Int)≤16384:=by omega
    have HSZD:=O (Nat.le_refl wl.heap.size);refine F3 B2 HL (by kernel_rfl) ?_;intro wn SW HSE HSI hkd HL;replace HRB:=O (HRB.out.keep hkd fun _ _=>id);have HW0D:Hid (wl.heap.size≤wn.heap.size):=O hkd.size;clear hkd;have HLs:=HL;have HRBs:=HRB;refine tna 0 (.bool true) rfl (sD9 HSI HL) ?_;refine tna 1 (.bool true) rfl (sD9 HSI HL) ?_;refine tna 2 (.pointer (some ⟨c,0,none⟩)) rfl (sD9 HSI HL) ?_;refine tnd 3 (.agg rc.toArray) rfl (ldD 35 (.tmp 13) b13 0 rc _ (fun w' h=>aD (HLs.out.own (HSE.out w' h) 0)) aJ (szP9 hrc)) (sD9 HSI HL) ?_;refine tna 4 (.slice oa N oc) rfl (sD9 HSI HL) ?_;refine wA9 5 ?_;go_wp2_with fail;refine((by rw[←HRC.out];exact iV HL.out.ki vrc u HUO.out (HL.out.pv0 0) (.slice oa N oc) (b) (by rw[HN.out];omega) (by rw[HN.out];exact HRB.out) HBT.out:Calls _ _ _ wn (aX wn true))).mono ?_;rintro e wo ⟨rfl,hk⟩;replace HL:=O (HL.out.keeps hk);replace HRB:=O (HRB.out.keep hk fun _ _=>id);clear hk;go_wp2_with fail;refine⟨HSI.out _ HL.out.dr,?_⟩;refine tna 6 (.bool true) rfl (sD9 HSI HL) ?_;refine tna 7 (.bool true) rfl (sD9 HSI HL) ?_;refine tna 8 (.pointer (some ⟨c,0,none⟩)) rfl (sD9 HSI HL) ?_;refine tnd 9 (.agg rc.toArray) rfl (ldD 35 (.tmp 13) b13 0 rc _ (fun w' h=>aD (HLs.out.own (HSE.out w' h) 0)) aJ (szP9 hrc)) (sD9 HSI HL) ?_;refine tna 11 (.slice oa N oc) rfl (sD9 HSI HL) ?_;refine tna 13 (.int .i64 (k:Int)) rfl (sD9 HSI HL) ?_;refine wA9 10 ?_;refine kG (by rfl) ?_;refine bs0 22 5 (by kernel_rfl) Tryz.underlying22 ?_;intro b156 wp hbs hk hb;have HO0:Hid (wp.ownsRow wl.heap.size 5 1 (.slice (some ⟨b156,0,none⟩) 0 0) 0 []):=O (KJ hb (by have h:=(HL.out.dr).size;have h2:=HW0D.out;omega));have HB156:Hid (wo.heap.size≤b156):=O (by omega);have HK0:Hid (aA aB wo wp):=O hk;have HLP:=HL;replace HL:=O (HL.out.keeps hk);replace HRB:=O (HRB.out.keep hk fun _ _=>id);clear hbs hk hb;refine wpList_nil ?_;refine⟨HSI.out _ HL.out.dr,?_⟩;refine wA9 12 ?_;have HSZ2:Hid (wl.heap.size≤wp.heap.size):=O (by have h:=(HL.out.dr).size;have h2:=HW0D.out;omega);refine kG (by rfl) ?_;refine aI rfl (.tmp 156) (.tmp 157) 22 rfl wl.heap.size 5 (.int .u8 0) 1 1 Tryz.underlying22 dF rfl (by omega) _ 0 _ rfl HO0.out _ N _ rfl HRB.out (by intro u hu;obtain⟨y,-,rfl⟩:=List.mem_map.1 hu;rfl) (by unfold maxLen;omega) (by omega) HSZ2.out ?_;intro v2 wq ho5 hk5 hn5 hb5;obtain⟨a2,c2,rfl,-,-⟩:=(Rd.of_owns ho5).form;have HKB:=O (HK0.out.trans' hk5 (fun _ _ h=>h) (fun i hi e=>by have e2:b156=i:=Option.some.inj e;have h:=HB156.out;omega));replace HL:=O (HLP.out.keeps HKB.out);have HOB:=O ho5
    have HNB2:Hid (∀i,(Value.slice a2 (0+N) c2).ownBlock=some i->wo.heap.size≤i):=O (fun i hi=>by
     rcases hb5 with e|e
     ·have e2:b156=i:=Option.some.inj (e.symm.trans hi);have h:=HB156.out;omega
     ·have e2:wp.heap.size=i:=Option.some.inj (e.symm.trans hi);have h:=HK0.out.size;omega)
    clear ho5 hk5 hn5 hb5 HO0 HRB HK0 HB156;rw[Nat.zero_add] at HOB HNB2 ⊢;refine wpList_nil ?_;refine⟨HSI.out _ HL.out.dr,?_⟩;refine wA9 14 ?_;have HSZ3:Hid (wl.heap.size≤wq.heap.size):=O (by have h:=(HL.out.dr).size;have h2:=HW0D.out;omega);refine kG (by rfl) ?_;refine pH rfl (.tmp 158) (.tmp 159) 22 3 rfl wl.heap.size 5 (.int .u8 0) .i64 .i64 Tryz.underlying22 Tryz.underlying3 dF rfl rfl _ N k _ rfl rfl HOB.out (by omega) (by omega) HSZ3.out ?_;intro v3 wr ho6 hk6;obtain⟨a3,c3,rfl,-,-⟩:=(Rd.of_owns ho6).form;replace HL:=O (HLP.out.keeps (HKB.out.trans' hk6 (fun _ _ h=>h) (fun i hi e=>by have h:=HNB2.out i e;omega)))
    have HOC:Hid (wr.ownsRow wl.heap.size 5 1 (.slice a3 (N+k) c3) (N+k) ((b++List.replicate k 0).map vb)):=O (by
     rw[List.map_append,List.map_replicate];rw[List.nil_append] at ho6;exact ho6)
    clear ho6 hk6 HOB HKB HLP HNB2;refine wpList_nil ?_;refine⟨HSI.out _ HL.out.dr,?_⟩;refine wA9 15 ?_;go_wp2_with fail;refine((by rw[←HRC.out];exact iV HL.out.ki vrc u HUO.out (HL.out.pv0 0) (.slice a3 (N+k) c3) (b++List.replicate k 0) (by rw[show (b++List.replicate k (0:UInt8)).length=N+k from by rw[List.length_append,HN.out,List.length_replicate]];omega) (by rw[show (b++List.replicate k (0:UInt8)).length=N+k from by rw[List.length_append,HN.out,List.length_replicate]];exact Rd.of_owns HOC.out) (HBT.out.trans (sG b k (by rw[HN.out];omega)).symm):Calls _ _ _ wr (aX wr true))).mono ?_;rintro e ws ⟨rfl,hk⟩;replace HL:=O (HL.out.keeps hk);replace HOC:=O (hk.owns HOC.out fun _ _=>id);clear hk;go_wp2_with fail;refine⟨HSI.out _ HL.out.dr,?_⟩;refine tna 16 (.bool true) rfl (sD9 HSI HL) ?_;refine tna 17 (.bool true) rfl (sD9 HSI HL) ?_;refine wpAnyH_done (by kernel_rfl) ?_ _;refine noP ?_;have HP:=O (HL.out.toCs.fin HBN.out HKW.out);clear HL HLs HSE HSI;go_wp2_with fail;go_ret;exact⟨rfl,HP.out⟩
end
end Go.Proofs.YthihofpfonfjfaaGreatDoor
