/- A part of the proof. Conditions: those told. -/
import Derived.Test.YthihofpfonfjfaaGreatDoorB1
import Derived.Test.YthihofpfonfjfaaGreatDoorB23
import Derived.Test.YthihofpfonfjfaaGreatDoorB29
namespace Go.Proofs.YthihofpfonfjfaaGreatDoor
set_option maxHeartbeats 64000000
set_option maxRecDepth 100000
set_option linter.unusedVariables false
section
open Go.RowKit Go.Maps Go.ChangeMaps
theorem IM{S:Kor}{c:Nat}{B:Nat->Prop}{N0 bo b2:Nat}(a:List (List UInt8))(J:Nat->Prop)(w:World)(pv:Value)(t:Tr)(hi:iL N0 bo b2 c a J w)(hK:KI w c S B)(ht:Tr.Ok S 0 t)(hp:aQ w J pv t.ptr)(hP:a.length+1≤1000):Calls Tryz.prog 68 #[.agg (aE pv t.ptr).toArray,.int .i64 0,.pointer (some ⟨bo,0,none⟩),.pointer (some ⟨b2,0,none⟩)] w (cL (iL N0 bo b2 c) w J (a++[t.blk 0 0])):=by
 have HJL:=O (fun i=>(qW N0 bo b2 c).lt a J w i hi);obtain⟨v,vs,hz,hbo,hb2,ho,hr,rfl⟩:=hi;obtain⟨va,vc,rfl,-,-⟩:=(Rd.of_owns ho).form;have HZ:=O hz;have HBO:=O hbo;have HB2:=O hb2;have HO:=O ho;have HR:=O hr;have HT:=O ht;have HK:=O hK;have HBLEN:=O (Tr.Ok.blk_len ht 0);have HPT:Hid (PtV w pv t.ptr):=O hp.pt;obtain⟨p,hpe⟩:∃p,t.ptr=p:=⟨_,rfl⟩
 have HPE:=O hpe;rw[hpe] at HPT hp ⊢;obtain⟨pc,HPC,hpc,HOP⟩:=nmPt hp.pt;rw[HPC.out];have HL:=O (Loc.nil aB aB w);clear hp hpe hK ht hz hbo hb2 ho hr;go_enter Tryz.func68,Tryz.ntmps68
 go_wp2_with ((with_reducible show WL _ _);refine bxL HL 35 (.tmp 0) (pc.toArray) ?_)
 intro b4 w1 hk HL;replace HPT:=O (HPT.out.keep hk fun _ _=>id);replace HK:=O (HK.out.keep0 hk);replace HBO:=O (hk.blk HBO.out id);replace HB2:=O (hk.blk HB2.out id);replace HO:=O (hk.owns HO.out fun _ _=>id);replace HR:=O (HR.out.keep (aA.any hk) fun _ h=>.inl h);clear hk;have c1:w1.cell? ⟨b2,0,none⟩=some (.pointer (some ⟨c,0,none⟩)):=(cell_of_one HB2.out)
 go_wp2_with ((with_reducible show WL _ _);refine wpList_load_mid rfl 35 (.tmp 4) rfl b4 0 rfl pc _ (aD (HL.out.b 0)) aJ rfl (szP9 hpc) ?_)
 clear c1;have HLW:=O HL.out.keep.size;refine((by rw[←HPC.out,←HPE.out];exact FV HK.out pv t HT.out (by rw[HPE.out];exact HPT.out) 0:Calls _ _ _ w1 (fZ w1 (t.blk 0 0)))).mono ?_;rintro e w2 ⟨v1,rfl,ho1,hk⟩;rw[show (256:Nat)=(t.blk 0 0).length from HBLEN.out.symm] at ho1;obtain⟨wa,wc,rfl,-,-⟩:=(Rd.of_owns ho1).form;have HU:=O (Rd.of_owns ho1);have HUO:Hid (mA w w2 (Value.slice wa (t.blk 0 0).length wc)):=O (fun i hi=>⟨Nat.le_trans HLW.out (aR ho1 hi),by obtain⟨cur,hc⟩:=aL ho1 hi;exact⟨_,_,hc⟩⟩);rw[HBLEN.out] at HU HUO ⊢;clear ho1;replace HL:=O (HL.out.keeps hk);replace HPT:=O (HPT.out.keep hk fun _ _=>id);replace HK:=O (HK.out.keep0 hk);replace HBO:=O (hk.blk HBO.out id);replace HB2:=O (hk.blk HB2.out id);replace HO:=O (hk.owns HO.out fun _ _=>id);replace HR:=O (HR.out.keep (aA.any hk) fun _ h=>.inl h);clear hk;have c1:w2.cell? ⟨bo,0,none⟩=some (.slice va a.length vc):=(cell_of_one HBO.out)
 go_wp2_with ((with_reducible show WL _ _);refine bs1 77 22 (.tmp 27) (.slice wa 256 wc) (by kernel_rfl) (by kernel_rfl) Tryz.underlying77 rfl ?_)
 clear c1;intro b28 w3 hbs hk hb;replace HL:=O (HL.out.new (fun _ h=>h.elim) hbs hk hb);replace HPT:=O (HPT.out.keep hk fun _ _=>id);replace HK:=O (HK.out.keep0 hk);replace HBO:=O (hk.blk HBO.out id);replace HB2:=O (hk.blk HB2.out id);replace HO:=O (hk.owns HO.out fun _ _=>id);replace HR:=O (HR.out.keep (aA.any hk) fun _ h=>.inl h);replace HU:=O (HU.out.keep hk fun _ _=>id);replace HUO:=O (mA.keep HUO.out hk fun _ _=>id);clear hbs hk hb;have hrd_:Rd w3 1 (.slice (some ⟨b28,0,none⟩) 1 1) 1 [.slice wa 256 wc]:=cG (n:=1) (size:=1) (HL.out.b 0) rfl (by unfold maxLen;omega);have HRD_:=O hrd_;have HKE:=O HL.out.keep;clear hrd_
 go_wp2_with (first
  | (at_builtin;refine aI rfl (.tmp 26) (.tmp 28) 77 rfl N0 22 (.slice none 0 0) 1 24 Tryz.underlying77 tC rfl (by decide) (.slice va a.length vc) a.length vs rfl HO.out (.slice (some ⟨b28,0,none⟩) 1 1) 1 [.slice wa 256 wc] rfl HRD_.out (by intro u hu;rcases List.mem_singleton.1 hu with rfl;rfl) (by unfold maxLen;omega) (by omega) (by have:=HZ.out;have:=HKE.out.size;omega) ?_))
 intro v2 w4 ho5 hk5 hn5 hb5;obtain⟨g2,c2,rfl⟩:=ownsRow_succ ho5;have HO5:=O ho5;have HK5:=O hk5;have HB5:=O hb5;clear ho5 hk5 hn5 hb5 HRD_;have HBO8:=O (HK5.out.blk HBO.out (fun e=>by have:=aR HO.out e;have:=HZ.out;omega))
 go_wp2_with ((with_reducible show WL _ _);refine sta 77 (.tmp 2) (.tmp 29) bo 0 [.slice (some ⟨g2,0,none⟩) (a.length+1) c2] HBO8.out (by simp) (by kernel_rfl) (one9) ?_)
 intro w5 hk hb;replace hb:w5.heap[bo]?=some (.cells #[.slice (some ⟨g2,0,none⟩) (a.length+1) c2] 77 (0,0)):=hb;have HP:=O (iL.more (b:=t.blk 0 0) HZ.out HKE.out HB2.out HO.out HR.out (by rw[HBLEN.out];exact HU.out) HUO.out (fun i hi=>HJL.out i (.inr hi)) HO5.out HK5.out HB5.out hk hb);clear hk hb HL HK HPT HBO HB2 HO HR HU HUO HO5 HK5 HB5 HBO8;go_wp2_with fail;go_ret;exact HP.out
theorem IN{S:Kor}{c:Nat}{B:Nat->Prop}{N0 bo b2:Nat}(a:List (List UInt8))(J:Nat->Prop)(w:World)(pv:Value)(p:Pt)(l:Nat)(hl:l≤3)(hl0:¬l=0)(hi:iL N0 bo b2 c a J w)(hp:aQ w J pv p)(hP:a.length+4 ^ l≤1000):Calls Tryz.prog 68 #[.agg (aE pv p).toArray,.int .i64 (l:Int),.pointer (some ⟨bo,0,none⟩),.pointer (some ⟨b2,0,none⟩)] w (cL (iL N0 bo b2 c) w J (a++List.replicate (4 ^ l) zB)):=by
 have HV0:Hid (iL N0 bo b2 c a J w):=O hi;have HM4:Hid (∃m,4 ^ l=m):=O ⟨_,rfl⟩;obtain⟨m,hm⟩:=HM4.out;have HM:=O hm;have hl1:decide ((0:Int)<(l:Int))=true:=decide_eq_true (by omega);have hl2:(0:Int)<(l:Int):=by omega
 rw[hm] at hP ⊢;obtain⟨pc,HPC,hpc,HOP⟩:=nmPt hp.pt;rw[HPC.out];have HL:=O (Loc.nil aB aB w);clear hp hi hm HM4;go_enter Tryz.func68,Tryz.ntmps68
 go_wp2_with ((with_reducible show WL _ _);refine bxL HL 35 (.tmp 0) (pc.toArray) ?_)
 intro b4 w1 hk HL;replace HV0:=O ((qW N0 bo b2 c).keep _ _ _ _ HV0.out hk);clear hk;go_wp2_with fail;refine((by rw[←HM.out];exact Iw w1 l hl:Calls _ _ _ w1 (aF w1 (.int .i64 (m:Int))))).mono ?_;rintro e w2 ⟨rfl,hk⟩;replace HL:=O (HL.out.keeps hk);replace HV0:=O ((qW N0 bo b2 c).keep _ _ _ _ HV0.out hk);clear hk;go_wp2_with fail;have HST:Hid (cL (iL N0 bo b2 c) w J (a++List.replicate 0 zB) (.returned (.int .i64 0)) w2):=O ⟨rfl,J,by rw[List.replicate_zero,List.append_nil];exact HV0.out,fun k h=>.inl h,HL.out.keep.any⟩;clear HL HV0
 go_loopw [13] (fun i wr=>∃k:Nat,k≤m/\i=.int .i64 (k:Int)/\Hid (cL (iL N0 bo b2 c) w J (a++List.replicate k zB) (.returned (.int .i64 0)) wr)) (fun i _=>m-(intOf i).toNat)
 case atStart=>exact⟨0,by omega,rfl,HST⟩
 case round =>
  obtain⟨k,hk,rfl,HVP⟩:=hrel
  by_cases hk8:k<m
  ·obtain⟨-,J2,hi2,hJ2,hkJ⟩:=HVP.out
   have HJL:=O (fun i=>(qW N0 bo b2 c).lt _ J2 wr i hi2);obtain⟨v,vs,hz,hbo,hb2,ho,hr,rfl⟩:=hi2;have hN:(a++List.replicate k zB).length=a.length+k:=by rw[List.length_append,List.length_replicate]
   have HN:=O hN;obtain⟨va,vc,rfl,-,-⟩:=(Rd.of_owns ho).form;have HZ:=O hz;have HBO:=O hbo;have HB2:=O hb2;have HO:=O ho;have HR:=O hr;have HJ2:=O hJ2;have HKJ:=O hkJ;have HL:=O (Loc.nil aB aB wr);have HNA:=O hN;rw[hN] at HBO HO HJL HR HJ2;have hk1:(k:Int)<(m:Int):=by omega
   have hk0:(0:Int)≤(k:Int):=by omega
   clear hz hbo hb2 ho hr hJ2 hkJ hN;go_wp2_with fail;have hkd:=(aA.refl aB wr).drew;refine wp_region_held (S:=fun _=>True) (by kernel_rfl) ?_;change wpAnyH _ _ _ _ _ _ _ _ wr.drew;generalize wr.drew=w4 at hkd ⊢;replace HL:=O (HL.out.keeps hkd);replace HBO:=O (hkd.blk HBO.out id);replace HB2:=O (hkd.blk HB2.out id);replace HO:=O (hkd.owns HO.out fun _ _=>id);replace HR:=O (HR.out.keep (aA.any hkd) fun _ h=>.inl h);clear hkd;refine fN (k:=0) (l:=1) rfl rfl (by kernel_rfl) ?_ ?_
   ·have c1:w4.cell? ⟨bo,0,none⟩=some (.slice va (a.length+k) vc):=cell_of_one HBO.out
    go_wp2_with fail;clear c1;refine⟨trivial,?_⟩;refine wA9 1 ?_;refine mkz (.const (.int .i64 256)) (.const (.int .i64 256)) ?_;intro b16 w5 hbs hk hb;replace HL:=O (HL.out.new (fun _ h=>h.elim) hbs hk hb);replace HBO:=O (hk.blk HBO.out id);replace HB2:=O (hk.blk HB2.out id);replace HO:=O (hk.owns HO.out fun _ _=>id);replace HR:=O (HR.out.keep (aA.any hk) fun _ h=>.inl h);clear hbs hk hb;refine wpList_nil ?_;refine⟨trivial,?_⟩;refine wA9 2 ?_;refine bs1 77 22 (.tmp 16) (.slice (some ⟨b16,0,none⟩) 256 256) (by kernel_rfl) (by kernel_rfl) Tryz.underlying77 rfl ?_;intro b17 w6 hbs hk hb;replace HL:=O (HL.out.new (fun _ h=>h.elim) hbs hk hb);replace HBO:=O (hk.blk HBO.out id);replace HB2:=O (hk.blk HB2.out id);replace HO:=O (hk.owns HO.out fun _ _=>id);replace HR:=O (HR.out.keep (aA.any hk) fun _ h=>.inl h);clear hbs hk hb;refine wpList_nil ?_;refine⟨trivial,?_⟩;refine wA9 3 ?_;have HRD_:Hid (Rd w6 1 (.slice (some ⟨b17,0,none⟩) 1 1) 1 [.slice (some ⟨b16,0,none⟩) 256 256]):=O (cG (n:=1) (size:=1) (HL.out.b 0) rfl (by unfold maxLen;omega));have HKE:=O HL.out.keep;refine aI rfl (.tmp 15) (.tmp 17) 77 rfl N0 22 (.slice none 0 0) 1 24 Tryz.underlying77 tC rfl (by decide) (.slice va (a.length+k) vc) (a.length+k) vs rfl HO.out (.slice (some ⟨b17,0,none⟩) 1 1) 1 [.slice (some ⟨b16,0,none⟩) 256 256] rfl HRD_.out (by intro u hu;rcases List.mem_singleton.1 hu with rfl;rfl) (by unfold maxLen;omega) (by omega) (by have:=HZ.out;have:=HKE.out.size;omega) ?_;intro v2 w7 ho5 hk5 hn5 hb5;obtain⟨g2,c2,rfl,-,-⟩:=(Rd.of_owns ho5).form;have HO5:=O ho5;have HK5:=O hk5;have HB5:=O hb5;clear ho5 hk5 hn5 hb5 HRD_;have HBO8:=O (HK5.out.blk HBO.out (fun e=>by have:=aR HO.out e;have:=HZ.out;omega));refine wpList_nil ?_;refine⟨trivial,?_⟩;refine wA9 4 ?_;refine sta 77 (.tmp 2) (.tmp 18) bo 0 [.slice g2 (a.length+k+1) c2] HBO8.out (by simp) (by kernel_rfl) (one9) ?_;intro w8 hk hb;replace hb:w8.heap[bo]?=some (.cells #[.slice g2 (a.length+k+1) c2] 77 (0,0)):=hb;refine wpList_nil ?_;refine⟨trivial,?_⟩;refine wpAnyH_done (by kernel_rfl) ?_ _;have HUR:Hid (Rd w6 1 (.slice (some ⟨b16,0,none⟩) 256 256) zB.length (zB.map vb)):=O (cG (n:=256) (size:=1) (HL.out.b 1) rfl (by unfold maxLen;omega))
    have HUO:Hid (∀i,(.slice (some ⟨b16,0,none⟩) 256 256:Value).ownBlock=some i->wr.heap.size≤i/\IsC w6 i):=O fun i hi=>by
     have e:b16=i:=by injection hi
     subst e;exact⟨(HL.out.lt 1).1,_,_,HL.out.b 1⟩
    have HNX:Hid (cL (iL N0 bo b2 c) w J (a++List.replicate (k+1) zB) (.returned (.int .i64 0)) w8):=O (by
     rw[List.replicate_succ',←List.append_assoc];refine cL.trans (iL.more (b:=zB) HZ.out HKE.out HB2.out (by rw[HNA.out];exact HO.out) HR.out HUR.out HUO.out (fun i hi=>HJL.out i (.inr hi)) (by rw[HNA.out];exact HO5.out) HK5.out HB5.out hk hb) HJ2.out HKJ.out)
    clear hk hb HL HBO HB2 HO HR HO5 HK5 HB5 HBO8 HUR HUO HJ2 HKJ HKE;go_wp2_with fail
    go_roundw
    case rel=>exact⟨k+1,by omega,by go_num,HNX⟩
    case measure=>simp[intOf];omega
   ·refine mkz (.const (.int .i64 256)) (.const (.int .i64 256)) ?_
    intro b16 w5 hbs hk hb;replace HL:=O (HL.out.new (fun _ h=>h.elim) hbs hk hb);replace HBO:=O (hk.blk HBO.out id);replace HB2:=O (hk.blk HB2.out id);replace HO:=O (hk.owns HO.out fun _ _=>id);replace HR:=O (HR.out.keep (aA.any hk) fun _ h=>.inl h);clear hbs hk hb;refine wpList_nil ?_;refine⟨trivial,?_⟩;refine fN (k:=0) (l:=2) rfl rfl (by kernel_rfl) ?_ ?_
    ·have c1:w5.cell? ⟨bo,0,none⟩=some (.slice va (a.length+k) vc):=cell_of_one HBO.out
     go_wp2_with fail;clear c1;refine⟨trivial,?_⟩;refine wA9 2 ?_;refine bs1 77 22 (.tmp 16) (.slice (some ⟨b16,0,none⟩) 256 256) (by kernel_rfl) (by kernel_rfl) Tryz.underlying77 rfl ?_;intro b17 w6 hbs hk hb;replace HL:=O (HL.out.new (fun _ h=>h.elim) hbs hk hb);replace HBO:=O (hk.blk HBO.out id);replace HB2:=O (hk.blk HB2.out id);replace HO:=O (hk.owns HO.out fun _ _=>id);replace HR:=O (HR.out.keep (aA.any hk) fun _ h=>.inl h);clear hbs hk hb;refine wpList_nil ?_;refine⟨trivial,?_⟩;refine wA9 3 ?_;have HRD_:Hid (Rd w6 1 (.slice (some ⟨b17,0,none⟩) 1 1) 1 [.slice (some ⟨b16,0,none⟩) 256 256]):=O (cG (n:=1) (size:=1) (HL.out.b 0) rfl (by unfold maxLen;omega));have HKE:=O HL.out.keep;refine aI rfl (.tmp 15) (.tmp 17) 77 rfl N0 22 (.slice none 0 0) 1 24 Tryz.underlying77 tC rfl (by decide) (.slice va (a.length+k) vc) (a.length+k) vs rfl HO.out (.slice (some ⟨b17,0,none⟩) 1 1) 1 [.slice (some ⟨b16,0,none⟩) 256 256] rfl HRD_.out (by intro u hu;rcases List.mem_singleton.1 hu with rfl;rfl) (by unfold maxLen;omega) (by omega) (by have:=HZ.out;have:=HKE.out.size;omega) ?_;intro v2 w7 ho5 hk5 hn5 hb5;obtain⟨g2,c2,rfl,-,-⟩:=(Rd.of_owns ho5).form;have HO5:=O ho5;have HK5:=O hk5;have HB5:=O hb5;clear ho5 hk5 hn5 hb5 HRD_;have HBO8:=O (HK5.out.blk HBO.out (fun e=>by have:=aR HO.out e;have:=HZ.out;omega));refine wpList_nil ?_;refine⟨trivial,?_⟩;refine wA9 4 ?_;refine sta 77 (.tmp 2) (.tmp 18) bo 0 [.slice g2 (a.length+k+1) c2] HBO8.out (by simp) (by kernel_rfl) (one9) ?_;intro w8 hk hb;replace hb:w8.heap[bo]?=some (.cells #[.slice g2 (a.length+k+1) c2] 77 (0,0)):=hb;refine wpList_nil ?_;refine⟨trivial,?_⟩;refine wpAnyH_done (by kernel_rfl) ?_ _;have HUR:Hid (Rd w6 1 (.slice (some ⟨b16,0,none⟩) 256 256) zB.length (zB.map vb)):=O (cG (n:=256) (size:=1) (HL.out.b 1) rfl (by unfold maxLen;omega))
     have HUO:Hid (∀i,(.slice (some ⟨b16,0,none⟩) 256 256:Value).ownBlock=some i->wr.heap.size≤i/\IsC w6 i):=O fun i hi=>by
      have e:b16=i:=by injection hi
      subst e;exact⟨(HL.out.lt 1).1,_,_,HL.out.b 1⟩
     have HNX:Hid (cL (iL N0 bo b2 c) w J (a++List.replicate (k+1) zB) (.returned (.int .i64 0)) w8):=O (by
      rw[List.replicate_succ',←List.append_assoc];refine cL.trans (iL.more (b:=zB) HZ.out HKE.out HB2.out (by rw[HNA.out];exact HO.out) HR.out HUR.out HUO.out (fun i hi=>HJL.out i (.inr hi)) (by rw[HNA.out];exact HO5.out) HK5.out HB5.out hk hb) HJ2.out HKJ.out)
     clear hk hb HL HBO HB2 HO HR HO5 HK5 HB5 HBO8 HUR HUO HJ2 HKJ HKE;go_wp2_with fail
     go_roundw
     case rel=>exact⟨k+1,by omega,by go_num,HNX⟩
     case measure=>simp[intOf];omega
    ·refine bs1 77 22 (.tmp 16) (.slice (some ⟨b16,0,none⟩) 256 256) (by kernel_rfl) (by kernel_rfl) Tryz.underlying77 rfl ?_
     intro b17 w6 hbs hk hb;replace HL:=O (HL.out.new (fun _ h=>h.elim) hbs hk hb);replace HBO:=O (hk.blk HBO.out id);replace HB2:=O (hk.blk HB2.out id);replace HO:=O (hk.owns HO.out fun _ _=>id);replace HR:=O (HR.out.keep (aA.any hk) fun _ h=>.inl h);clear hbs hk hb;refine wpList_nil ?_;refine⟨trivial,?_⟩;refine wA9 0 ?_;have c1:w6.cell? ⟨bo,0,none⟩=some (.slice va (a.length+k) vc):=cell_of_one HBO.out;go_wp2_with fail;clear c1;refine⟨trivial,?_⟩;refine wA9 3 ?_;have HRD_:Hid (Rd w6 1 (.slice (some ⟨b17,0,none⟩) 1 1) 1 [.slice (some ⟨b16,0,none⟩) 256 256]):=O (cG (n:=1) (size:=1) (HL.out.b 0) rfl (by unfold maxLen;omega));have HKE:=O HL.out.keep;refine aI rfl (.tmp 15) (.tmp 17) 77 rfl N0 22 (.slice none 0 0) 1 24 Tryz.underlying77 tC rfl (by decide) (.slice va (a.length+k) vc) (a.length+k) vs rfl HO.out (.slice (some ⟨b17,0,none⟩) 1 1) 1 [.slice (some ⟨b16,0,none⟩) 256 256] rfl HRD_.out (by intro u hu;rcases List.mem_singleton.1 hu with rfl;rfl) (by unfold maxLen;omega) (by omega) (by have:=HZ.out;have:=HKE.out.size;omega) ?_;intro v2 w7 ho5 hk5 hn5 hb5;obtain⟨g2,c2,rfl,-,-⟩:=(Rd.of_owns ho5).form;have HO5:=O ho5;have HK5:=O hk5;have HB5:=O hb5;clear ho5 hk5 hn5 hb5 HRD_;have HBO8:=O (HK5.out.blk HBO.out (fun e=>by have:=aR HO.out e;have:=HZ.out;omega));refine wpList_nil ?_;refine⟨trivial,?_⟩;refine wA9 4 ?_;refine sta 77 (.tmp 2) (.tmp 18) bo 0 [.slice g2 (a.length+k+1) c2] HBO8.out (by simp) (by kernel_rfl) (one9) ?_;intro w8 hk hb;replace hb:w8.heap[bo]?=some (.cells #[.slice g2 (a.length+k+1) c2] 77 (0,0)):=hb;refine wpList_nil ?_;refine⟨trivial,?_⟩;refine wpAnyH_done (by kernel_rfl) ?_ _;have HUR:Hid (Rd w6 1 (.slice (some ⟨b16,0,none⟩) 256 256) zB.length (zB.map vb)):=O (cG (n:=256) (size:=1) (HL.out.b 1) rfl (by unfold maxLen;omega))
     have HUO:Hid (∀i,(.slice (some ⟨b16,0,none⟩) 256 256:Value).ownBlock=some i->wr.heap.size≤i/\IsC w6 i):=O fun i hi=>by
      have e:b16=i:=by injection hi
      subst e;exact⟨(HL.out.lt 1).1,_,_,HL.out.b 1⟩
     have HNX:Hid (cL (iL N0 bo b2 c) w J (a++List.replicate (k+1) zB) (.returned (.int .i64 0)) w8):=O (by
      rw[List.replicate_succ',←List.append_assoc];refine cL.trans (iL.more (b:=zB) HZ.out HKE.out HB2.out (by rw[HNA.out];exact HO.out) HR.out HUR.out HUO.out (fun i hi=>HJL.out i (.inr hi)) (by rw[HNA.out];exact HO5.out) HK5.out HB5.out hk hb) HJ2.out HKJ.out)
     clear hk hb HL HBO HB2 HO HR HO5 HK5 HB5 HBO8 HUR HUO HJ2 HKJ HKE;go_wp2_with fail
     go_roundw
     case rel=>exact⟨k+1,by omega,by go_num,HNX⟩
     case measure=>simp[intOf];omega
  ·obtain rfl:k=m:=by omega
   have hk1:¬(k:Int)<(k:Int):=by omega
   go_wp2_with fail;go_ret;exact HVP.out
theorem KA(S:Kor)(c:Nat)(B:Nat->Prop)(N0 bo b2:Nat):FW (iL N0 bo b2 c) mC (fun a=>a.length≤1000) S c B 68 #[.pointer (some ⟨bo,0,none⟩),.pointer (some ⟨b2,0,none⟩)]:=by
 intro a J w pv t l hi hK hBJ hl h0 ht hp hP;have hP2:(mC a t l).length≤1000:=hP;unfold mC at hP2 ⊢;rw[List.length_append,ht.blocks_len] at hP2
 by_cases e:l=0
 ·subst e
  have hb:t.blocks 0=[t.blk 0 0]:=by rw[ht.blocks_eq];rfl
  rw[hb];exact IM a J w pv t hi hK ht hp (by omega)
 ·have et:=gK (h0.resolve_left e)
  subst et;rw[show Tr.blocks l .hole=List.replicate (4 ^ l) zB from by cases l<;>rfl];exact IN (S:=S) (B:=B) a J w pv _ l hl e hi hp hP2
theorem iK.weak{N0 N1:Nat}{w:World}{J J':Nat->Prop}{vs:List Value}{R:List (List UInt8)}(h:iK N0 w J vs R)(hN:N1≤N0)(hJ:∀i,J' i->J i):iK N1 w J' vs R:=
 ⟨h.1,fun j b hj=>(h.2 j b hj).imp fun u hu=>⟨hu.1,hu.2.1,fun i hi=>⟨Nat.le_trans hN (hu.2.2 i hi).1,fun e=>(hu.2.2 i hi).2.1 (hJ i e),(hu.2.2 i hi).2.2⟩⟩⟩
def xH(w:World)(t:Tr)(e:Ending)(w':World):Prop:=
 ∃v vs,e=.returned (.tuple #[v,.int .i64 0])/\w'.ownsRow w.heap.size 22 1 v (t.blocks 3).length vs/\iK w.heap.size w' (fun i=>v.ownBlock=some i) vs (t.blocks 3)/\aA aB w w'
theorem KB{w:World}{c:Nat}{S:Kor}{B:Nat->Prop}(hK:KI w c S B)(pv:Value)(t:Tr)(ht:Tr.Ok S 3 t)(hp:aQ w B pv t.ptr):Calls Tryz.prog 34 #[.pointer (some ⟨c,0,none⟩),.agg (aE pv t.ptr).toArray] w (xH w t):=by
 have HT:=O ht;have HPT:=O hp;have HK:=O hK;have HBLT:=O (fun i (e:B i)=>hK.lt e);obtain⟨p,hpe⟩:∃p,t.ptr=p:=⟨_,rfl⟩
 have HPE:=O hpe;rw[hpe] at HPT hp ⊢;obtain⟨pc,HPC,hpc,HOP⟩:=nmPt hp.pt;rw[HPC.out];have HL:=O (Loc.nil aB aB w);clear hp ht hK hpe;have HPT0:=HPT;have HK0:=HK;go_enter Tryz.func34,Tryz.ntmps34
 go_wp2_with ((with_reducible show WL _ _);refine bxL HL 25 (.tmp 0) (#[.pointer (some ⟨c,0,none⟩)]) ?_)
 intro b2 w1 hk HL;replace HPT:=O (aQ.keep0 HPT.out hk);replace HK:=O (HK.out.keep0 hk);clear hk
 go_wp2_with ((with_reducible show WL _ _);refine bxL HL 35 (.tmp 1) (pc.toArray) ?_)
 intro b3 w2 hk HL;replace HPT:=O (aQ.keep0 HPT.out hk);replace HK:=O (HK.out.keep0 hk);clear hk;have c1:w2.cell? ⟨b2,0,none⟩=some (.pointer (some ⟨c,0,none⟩)):=(aC (i:=0) (HL.out.b 1) rfl)
 go_wp2_with ((with_reducible show WL _ _);refine wpList_load_mid rfl 35 (.tmp 3) rfl b3 0 rfl pc _ (aD (HL.out.b 0)) aJ rfl (szP9 hpc) ?_)
 clear c1;refine((by rw[←HPC.out];exact FR HK.out pv p HPT.out.pt (by rw[←HPE.out];exact HT.out.root):Calls _ _ _ w2 (aF w2 (.int .i64 0)))).mono ?_;rintro e w3 ⟨rfl,hk⟩;replace HL:=O (HL.out.keeps hk);replace HPT:=O (aQ.keep0 HPT.out hk);replace HK:=O (HK.out.keep0 hk);clear hk
 go_wp2_with ((with_reducible show WL _ _);refine alL HL 77 (.slice none 0 0) (#[.slice none 0 0]) M1 ?_)
 intro b7 w4 hk HL;replace HPT:=O (aQ.keep0 HPT.out hk);replace HK:=O (HK.out.keep0 hk);clear hk;have HB7:=O (HL.out.b 0);have HG7:=O (HL.out.lt 0);have HB2:=O (HL.out.b 2);have HG2:=O (HL.out.lt 2);have HKW:=O HL.out.keep;have HN27:Hid (b2≠b7):=O (fun e=>cH (i:=0) HL.out.nd rfl 2 (by decide) rfl e);have HOFF:Hid (∀i,pv.ownBlock=some i->i<w.heap.size):=O (fun i hi=>(HPT0.out.off i hi).2.lt);have c1:w4.cell? ⟨b2,0,none⟩=some (.pointer (some ⟨c,0,none⟩)):=(aC (i:=0) (HL.out.b 2) rfl)
 go_wp2_with ((with_reducible show WL _ _);refine wpList_load_mid rfl 35 (.tmp 3) rfl b3 0 rfl pc _ (aD (HL.out.b 1)) aJ rfl (szP9 hpc) ?_)
 clear c1
 have hbj:∀i,B i->¬(i=b7\/(Value.slice none 0 0).ownBlock=some i):=fun i e e2=>by
  have:=HBLT.out i e;have:=HG7.out.1;rcases e2 with e2|e2
  ·omega
  ·cases e2
 have hpj:aQ w4 (fun i=>i=b7\/(Value.slice none 0 0).ownBlock=some i) pv t.ptr:=by
  refine⟨by rw[HPE.out];exact HPT.out.pt,fun i hi=>⟨fun e=>?_,(HPT.out.off i hi).2⟩⟩;have:=HOFF.out i hi;have:=HG7.out.1;rcases e with e|e
  ·omega
  ·cases e
 have HC:=(FX (qW w4.heap.size b7 b2 c) (Kz 1000) (enters_of Tryz.func68 (by kernel_rfl) rfl) (KA S c B w4.heap.size b7 b2) [] (fun i=>i=b7\/(Value.slice none 0 0).ownBlock=some i) w4 pv t ⟨.slice none 0 0,[],⟨HG7.out.2,HG2.out.2,HN27.out,Nat.le_refl _⟩,HB7.out,HB2.out,World.ownsRow_nil _ _ _ _,iK.nil _ _ _,rfl⟩ HK.out hbj HT.out hpj (by show (eX mC 3 [] t).length≤1000;rw[kV 3 [] t HT.out,List.nil_append,HT.out.blocks_len];decide):Calls _ _ _ w4 (cL (iL w4.heap.size b7 b2 c) w4 (fun i=>i=b7\/(Value.slice none 0 0).ownBlock=some i) (eX mC 3 [] t)))
 clear hbj hpj;rw[HPE.out,HPC.out,kV 3 [] t HT.out,List.nil_append] at HC;refine HC.mono ?_;rintro e w9 ⟨rfl,J',⟨v,vs,-,hb,-,ho,hr,rfl⟩,-,hk⟩;obtain⟨va,vc,rfl,-,-⟩:=(Rd.of_owns ho).form;have c1:=cell_of_one hb
 have HKX:Hid (aA aB w w9):=O (HKW.out.trans' hk (fun _ _ h=>h) (fun i hi e=>by
  have:=HG7.out.1;rcases e with e|e
  ·omega
  ·cases e))
 have HP:Hid (xH w t (.returned (.tuple #[.slice va (t.blocks 3).length vc,.int .i64 0])) w9):=O ⟨_,vs,rfl,aP ho HKW.out.size,hr.weak HKW.out.size (fun i h=>.inr h),HKX.out⟩;clear hb hk HC HL HPT HK HB7 HB2 ho hr HKX;go_wp2_with fail
 go_ret2
 exact HP.out
theorem Gd(w:World)(l:Nat)(hl:l≤3):Calls Tryz.prog 62 #[.int .i64 (l:Int)] w (aF w (.int .i64 ((4 ^ l:Nat):Int))):=by
 have HL:=O (Loc.nil aB aB w);rcases l with _|_|_|_|l
 ·go_enter Tryz.func62,Tryz.ntmps62
  go_wp2_with fail;go_ret;exact aF.of HL.out.keep
 ·go_enter Tryz.func62,Tryz.ntmps62
  go_wp2_with fail;go_ret;exact aF.of HL.out.keep
 ·go_enter Tryz.func62,Tryz.ntmps62
  go_wp2_with fail;go_ret;exact aF.of HL.out.keep
 ·go_enter Tryz.func62,Tryz.ntmps62
  go_wp2_with fail;go_ret;exact aF.of HL.out.keep
 ·omega
theorem Ge{w:World}{c:Nat}{B:Nat->Prop}(pv:Value)(hp:PtV w pv zPt)(l:Nat):Calls Tryz.prog 61 #[.pointer (some ⟨c,0,none⟩),.agg (aE pv zPt).toArray,.int .i64 ((l+1:Nat):Int)] w (fU w B l .hole):=by
 obtain⟨p,hpz⟩:∃p,zPt=p:=⟨_,rfl⟩
 have HH:Hid (p.hole=true):=O (by rw[←hpz];exact gP);rw[hpz] at hp ⊢;have HPT:=O hp;obtain⟨pc,HPC,hpc,HOP⟩:=nmPt hp;rw[HPC.out];have hnz:(cO ((l+1:Nat):Int) (fun _=>.slice none 0 0) (fun _=>zPt)).length=141:=rfl;have hbn:=uT ((l+1:Nat):Int);obtain⟨nz,hnze⟩:∃x,cO ((l+1:Nat):Int) (fun _=>.slice none 0 0) (fun _=>zPt)=x:=⟨_,rfl⟩
 have HOZ:Hid (∀u∈nz,u.oneCell'=true):=O (by rw[←hnze];exact dX (w:=w) _ fun _ _=>mB w);have HNZ:=O hnze;rw[hnze] at hnz hbn;have HBN:=O hbn;obtain⟨lv,hlv⟩:∃x,((l+1:Nat):Int)=x:=⟨_,rfl⟩
 rw[hlv] at HBN ⊢;have HL:=O (Loc.nil aB aB w);clear hp hnze hbn hpz hlv;have HPT0:=HPT;go_enter Tryz.func61,Tryz.ntmps61
 go_wp2_with ((with_reducible show WL _ _);refine bxL HL 35 (.tmp 1) (pc.toArray) ?_)
 intro b4 w1 hk HL;replace HPT:=O (HPT.out.keep hk fun _ _=>id);clear hk
 go_wp2_with ((with_reducible show WL _ _);refine alL HL 104 (.agg dA.toArray) (dA.toArray) jD ?_)
 intro b6 w2 hk HL;replace HPT:=O (HPT.out.keep hk fun _ _=>id);clear hk
 go_wp2_with ((with_reducible show WL _ _);refine wpList_load_mid rfl 35 (.tmp 4) rfl b4 0 rfl pc _ (aD (HL.out.b 1)) aJ rfl (szP9 hpc) ?_)
 refine((by rw[←HPC.out];exact cJ w2 pv p HPT.out:Calls _ _ _ w2 (aX w2 p.hole))).mono ?_;rintro e w3 ⟨rfl,hk⟩;replace HL:=O (HL.out.keeps hk);replace HPT:=O (HPT.out.keep hk fun _ _=>id);clear hk;rw[HH.out]
 go_wp2_with ((with_reducible show WL _ _);first
  | refine bld 104 #[(0,.tmp 14)] [(0,.int .i64 lv)] (.agg nz.toArray) HBN.out ?_
  | refine sta 104 (.tmp 6) (.tmp 15) b6 0 nz (HL.out.b 0) (by first|decide|(rw[hnz];exact Nat.le_refl _)|simp[hnz,bS]) (by rw[hnz];exact dZ) HOZ.out ?_)
 intro w4 hk hb;rw[aG _ _ (by first|rfl|simp[hnz,bS])] at hb;replace HL:=O (HL.out.set 0 hk hb);replace HPT:=O (HPT0.out.keep HL.out.keep fun _ _=>id);clear hk hb;have HB6:=O (HL.out.b 0);have HKE:=O HL.out.keep;clear HL HPT;go_wp2_with fail;refine bodyPost_ret (cC rfl _ _ b6 _ _ _ _ rfl HB6.out Tryz.underlying104 rfl (by rw[List.size_toArray,hnz];exact dZ)) rfl ?_;exact⟨fun _=>.slice none 0 0,(by rw[←HNZ.out];rfl),fI.hole _ B,fun _ _=>dR.nil w,HKE.out⟩
theorem Gf{w:World}{c:Nat}{S:Kor}{B:Nat->Prop}(hK:KI w c S B)(pv:Value)(p:Pt)(hp:PtV w pv p)(l:Nat)(hl:l≤2)(k:Nat->Tr)(hg:jA S p (l+1) (cY (l+1) (fO k)))(hk4:∀i,i<4->Tr.Ok S l (k i)):Calls Tryz.prog 61 #[.pointer (some ⟨c,0,none⟩),.agg (aE pv p).toArray,.int .i64 ((l+1:Nat):Int)] w (fU w B l (.node p k)):=by
 have HH:Hid (p.hole=false):=O hg.ne_hole;have HPT:=O hp;have HK:=O hK;have HG:=O hg;have HK4:=O hk4;have HBLT:=O (fun i (e:B i)=>hK.lt e);obtain⟨pc,HPC,hpc,HOP⟩:=nmPt hp;rw[HPC.out];have HNB:Hid (cY (l+1) (fO k)=nb (l+1) (fun i=>(k i).ptr)):=O (Tr.Ok.nb_eq (l+1) hk4).symm;have hlv0:0≤((l+1:Nat):Int):=by omega
 have HL:=O (Loc.nil aB aB w);clear hp hg hk4 hK;go_enter Tryz.func61,Tryz.ntmps61
 go_wp2_with ((with_reducible show WL _ _);refine bxL HL 35 (.tmp 1) (pc.toArray) ?_)
 intro b4 w1 hk HL;replace HPT:=O (HPT.out.keep hk fun _ _=>id);replace HK:=O (HK.out.keep0 hk);clear hk
 go_wp2_with ((with_reducible show WL _ _);refine alL HL 104 (.agg dA.toArray) (dA.toArray) jD ?_)
 intro b6 w2 hk HL;replace HPT:=O (HPT.out.keep hk fun _ _=>id);replace HK:=O (HK.out.keep0 hk);clear hk
 go_wp2_with ((with_reducible show WL _ _);refine wpList_load_mid rfl 35 (.tmp 4) rfl b4 0 rfl pc _ (aD (HL.out.b 1)) aJ rfl (szP9 hpc) ?_)
 refine((by rw[←HPC.out];exact cJ w2 pv p HPT.out:Calls _ _ _ w2 (aX w2 p.hole))).mono ?_;rintro e w3 ⟨rfl,hk⟩;replace HL:=O (HL.out.keeps hk);replace HPT:=O (HPT.out.keep hk fun _ _=>id);replace HK:=O (HK.out.keep0 hk);clear hk;rw[HH.out]
 go_wp2_with ((with_reducible show WL _ _);refine wpList_load_mid rfl 35 (.tmp 4) rfl b4 0 rfl pc _ (aD (HL.out.b 1)) aJ rfl (szP9 hpc) ?_)
 refine((by rw[←HPC.out];exact KI.get HK.out HPT.out HG.out:Calls _ _ _ w3 (fZ w3 (cY (l+1) (fO k))))).mono ?_;rintro e w4 ⟨v1,rfl,ho,hk⟩;rw[HNB.out] at ho;obtain⟨va,vc,rfl,-,-⟩:=(Rd.of_owns ho).form;have HO:=O ho;clear ho;replace HL:=O (HL.out.keeps hk);replace HPT:=O (HPT.out.keep hk fun _ _=>id);replace HK:=O (HK.out.keep0 hk);clear hk;go_wp2_with fail;have HSZ:=O HL.out.keep.size;have HL6:=O (HL.out.lt 0).2;refine((vR w4 (.slice va 256 vc) (l+1) (fun i=>(k i).ptr) (by omega) (by omega) (fun i hi=>(HK4.out i hi).sl) (fun i hi=>by have:=(HK4.out i hi).fit;exact this) (Rd.of_owns HO.out))).mono ?_;rintro e w5 ⟨vs,rfl,hvs,hk⟩;have HV6:=O (fun j (hj:j<4) i (hi:(vs j).ownBlock=some i) (e:i=b6)=>by have h1:=((hvs j hj).2 i hi).1;have h2:=HL6.out;omega:∀j,j<4->∀i,(vs j).ownBlock=some i->¬i=b6);have HNB2:=O (fun q (hq:q<4) i (hi:(vs q).ownBlock=some i)=>by have:=((hvs q hq).2 i hi).1;have:=HSZ.out;omega:∀q,q<4->dR w (vs q));have HNN:=O (hvs.nval (B:=B) (fun i e=>by have:=HBLT.out i e;have:=HSZ.out;omega));have hnn:=gS ((l+1:Nat):Int) vs hvs.nv;have HOF0:=dX ((l+1:Nat):Int) hvs.nv;obtain⟨nn,hnne⟩:∃x,cO ((l+1:Nat):Int) vs (fun i=>(k i).ptr)=x:=⟨_,rfl⟩
 have HOF:Hid (∀u∈nn,u.oneCell'=true):=O (by rw[←hnne];exact HOF0);have HNF:=O hnne;rw[hnne] at hnn ⊢;clear HOF0 hnne hvs;replace HL:=O (HL.out.keeps hk);replace HPT:=O (HPT.out.keep hk fun _ _=>id);replace HK:=O (HK.out.keep0 hk);replace HO:=O (hk.owns HO.out fun _ _=>id);clear hk;have HKR:=O HL.out.keep;have HB6:=O (HL.out.b 0);have HG6:=O (HL.out.lt 0);replace HL:=O (Loc.nil aB aB w5);have HNN0:=HNN;have HB60:=HB6;clear HPT HK HO
 go_wp2_with ((with_reducible show WL _ _);refine al 104 (.agg dA.toArray) (dA.toArray) jD ?_)
 intro b10 w6 hbs hk0 hb0_
 go_wp2_with ((with_reducible show WL _ _);refine sta 104 (.tmp 10) (.tmp 29) b10 0 nn hb0_ (by first|decide|(rw[List.size_toArray,hnn];exact Nat.le_refl _)|simp[hnn,bS]) (by rw[hnn];exact dZ) HOF.out ?_)
 intro w7 hk hb;rw[aG _ _ (by first|rfl|(rw[List.size_toArray,hnn];rfl)|simp[hnn,bS])] at hb;replace hk:=hk0.trans' hk (U:=aB) (fun _ _ h=>h) (fun i hi e=>by omega);replace HL:=O (HL.out.new (fun _ h=>h.elim) hbs hk hb);replace HNN:=O (fI.keep0 HNN.out hk);replace HB6:=O (hk.blk HB6.out id);clear hbs hk hb hk0 hb0_;have c1:w7.cell? ⟨b10,0,none⟩=some (.int .i64 ((l+1:Nat):Int)):=aC (i:=0) (HL.out.b 0) (by rw[←HNF.out];rfl)
 go_wp2_with ((with_reducible show WL _ _);first
  | refine wpList_load_mid rfl 104 (.tmp 10) rfl b10 0 rfl nn _ (aD (HL.out.b 0)) Tryz.underlying104 rfl (by rw[hnn];exact dZ) ?_
  | refine sta 104 (.tmp 6) (.tmp 40) b6 0 nn HB6.out (by rw[List.size_toArray,bS,hnn];omega) (by rw[hnn];exact dZ) HOF.out ?_)
 clear c1;intro w9 hk hb;rw[aG _ _ (by rw[List.size_toArray,bS,hnn])] at hb;have HP:Hid (fU w B l (.node p k) (.returned (.tuple #[.agg nn.toArray,.int .i64 0])) w9):=O ⟨vs,by rw[←HNF.out];rfl,fun i hi=>(HNN.out i hi).keepT hk (fun j hj e=>HV6.out i hi j hj e),HNB2.out,(HKR.out.trans HL.out.keep).trans' hk (fun _ _ h=>h) (fun i hi e=>by have:=HG6.out.1;omega)⟩;have HB9:=O hb;clear hb hk HL HNN HB6;go_wp2_with fail;refine bodyPost_ret (cC rfl _ _ b6 _ _ _ _ rfl HB9.out Tryz.underlying104 rfl (by rw[List.size_toArray,hnn];exact dZ)) rfl ?_;exact HP.out
theorem IT{w:World}{c:Nat}{S:Kor}{B:Nat->Prop}(hK:KI w c S B){l:Nat}(hl:l≤2)(pv:Value)(t:Tr)(ht:Tr.Ok S (l+1) t)(hp:PtV w pv t.ptr):Calls Tryz.prog 61 #[.pointer (some ⟨c,0,none⟩),.agg (aE pv t.ptr).toArray,.int .i64 ((l+1:Nat):Int)] w (fU w B l t):=by
 cases t with
 | hole=>exact Ge pv hp l
 | leaf p b=>exact ht.elim
 | node p k=>exact Gf hK pv p hp l hl k ht.1 ht.2.1
theorem IU(w:World)(x:Int):Calls Tryz.prog 30 #[.int .i64 x] w fun e w'=>∃g,e=.returned (.func (.func 63) #[] #[.pointer (some ⟨g,0,none⟩)])/\w'.heap[g]?=some (.cells #[.int .i64 x] 3 (0,0))/\w.heap.size≤g/\aA aB w w':=by
 go_enter Tryz.func30,Tryz.ntmps30;have HL:=O (Loc.nil aB aB w)
 go_wp2_with ((with_reducible show WL _ _);refine bxL HL 3 (.tmp 0) (#[.int .i64 x]) ?_)
 intro b1 w1 hk HL;clear hk;go_wp2_with fail;go_ret;exact⟨b1,rfl,HL.out.b 0,(HL.out.lt 0).1,HL.out.keep⟩
theorem sI{w:World}{g:Nat}{x:Int}(hg:w.heap[g]?=some (.cells #[.int .i64 x] 3 (0,0)))(pv:Value)(p:Pt)(hp:PtV w pv p):Calls Tryz.prog 63 #[.agg (aE pv p).toArray,.pointer (some ⟨g,0,none⟩)] w (aX w (decide (x<p.birth))):=by
 have hpc:=aO (v:=pv) hp.sum;have hop:=bM hp;have h1:(aE pv p).toArray[1]?=some (.int .i64 p.birth):=rfl;obtain⟨pc,hpce⟩:∃l,aE pv p=l:=⟨_,rfl⟩
 obtain⟨bt,hbt⟩:∃l,p.birth=l:=⟨_,rfl⟩
 rw[hpce] at hpc hop h1 ⊢;rw[hbt] at h1 ⊢;have H1:=O h1;have HG:=O hg;clear hpce hbt hop h1 hg hp;have HL:=O (Loc.nil aB aB w);go_enter Tryz.func63,Tryz.ntmps63
 go_wp2_with ((with_reducible show WL _ _);refine bxL HL 35 (.tmp 0) (pc.toArray) ?_)
 intro b2 w1 hk HL;replace HG:=O (hk.blk HG.out id);clear hk;have c1:w1.cell? ⟨b2,1,none⟩=some (.int .i64 bt):=aC (i:=1) (HL.out.b 0) H1.out;have c2:w1.cell? ⟨g,0,none⟩=some (.int .i64 x):=cell_of_one HG.out;go_wp2_with fail;go_ret;exact⟨rfl,HL.out.keep⟩
def fJ(v:Value)(p:Pt)(a:Int):List Value:=aE v p++[.int .i64 a]
theorem sJ{v:Value}{p:Pt}{a:Int}(h:p.sum.length=32):(fJ v p a).length=36:=by unfold fJ;rw[List.length_append,aO h];rfl
theorem sK{w:World}{v:Value}{p:Pt}{a:Int}(h:PtV w v p):∀u∈fJ v p a,u.oneCell'=true:=by
 intro u hu;rcases List.mem_append.1 hu with hu|hu
 ·exact bM h u hu
 ·rw[List.mem_singleton] at hu
  subst hu;rfl
theorem MT(v u:Value)(p:Pt)(a:Int):spl (fJ v p a).toArray 0 [u]=(fJ u p a).toArray:=rfl
theorem jJ{w:World}{b:Nat}{v:Value}{p:Pt}{a:Int}{t:TypeId}{fr:Nat×Nat}(h:w.heap[b]?=some (.cells (fJ v p a).toArray t fr)):w.rangeAt b 0 (aE v p):=fun j u hj =>
 aC h (by
  rw[List.getElem?_toArray,Nat.zero_add];unfold fJ;rw[List.getElem?_append_left (List.getElem?_eq_some_iff.1 hj).1];exact hj)
def sL(w:World)(B:Nat->Prop)(p:Pt)(e:Ending)(w':World):Prop:=∃v,e=.returned (.tuple #[.agg (aE v p).toArray,.bool true])/\aQ w' B v p/\dR w v/\aA aB w w'
theorem Dn{w:World}{B:Nat->Prop}(hB:∀k,B k->k<w.heap.size)(pv:Value)(p:Pt)(hp:PtV w pv p)(hl:p.addrs.length≤65536)(at_:Int):Calls Tryz.prog 31 #[.agg (fJ pv p at_).toArray] w (sL w B p):=by
 have HBLT:=O hB;have HLN:=O hl;have HADS:=O hp.ads;have HSUM:=O hp.sum;have HPT:=O hp;have hpc:=sJ (v:=pv) (a:=at_) hp.sum;have HOP0:=sK (a:=at_) hp;obtain⟨pc,hpce⟩:∃l,fJ pv p at_=l:=⟨_,rfl⟩
 have HOP:Hid (∀u∈pc,u.oneCell'=true):=O (by rw[←hpce];exact HOP0);have HPC:=O hpce;rw[hpce] at hpc ⊢;clear HOP0 hpce;have HPS:Hid (∃r,pc=pv::r):=O ⟨_,HPC.out.symm⟩;have HL:=O (Loc.nil aB aB w);clear hp hl hB;have HPT0:=HPT;go_enter Tryz.func31,Tryz.ntmps31
 go_wp2_with ((with_reducible show WL _ _);refine bxL HL 111 (.tmp 0) (pc.toArray) ?_)
 intro b1 w1 hk HL;replace HPT:=O (HPT.out.keep hk fun _ _=>id);clear hk
 go_wp2_with ((with_reducible show WL _ _);refine alL HL 35 (.agg aK.toArray) (aK.toArray) bJ ?_)
 intro b2 w2 hk HL;replace HPT:=O (HPT.out.keep hk fun _ _=>id);clear hk;have c1:w2.cell? ⟨b1,0,none⟩=some (pv):=(by obtain⟨r,e⟩:=HPS.out;exact aC (i:=0) (HL.out.b 1) (by rw[e];rfl))
 go_wp2_with fail;clear c1;have HSZ:=O HL.out.keep.size;have HSL:=O (And.intro (HL.out.lt 0).2 (HL.out.lt 1).2);refine(vP w2 pv p.addrs HPT.out.rd HLN.out).mono ?_;rintro e w3 ⟨v1,rfl,ho,hk⟩;obtain⟨va,vc,rfl,-,-⟩:=(Rd.of_owns ho).form;have HPV:Hid (aQ w3 B (.slice va p.addrs.length vc) p):=O ⟨⟨Rd.of_owns ho,HADS.out,HSUM.out⟩,fun i hi=>⟨fun e=>by have:=aR ho hi;have:=HBLT.out i e;have:=HSZ.out;omega,by obtain⟨cur,hc⟩:=aL ho hi;exact⟨_,_,hc⟩⟩⟩;have HNWO:Hid (dR w (.slice va p.addrs.length vc)):=O (fun i hi=>by have:=aR ho hi;have:=HSZ.out;omega);have HNB:=O (fun(i:Nat) (hi:(Value.slice va p.addrs.length vc).ownBlock=some i)=>show ¬i=b1/\¬i=b2 from⟨fun e=>by have:=aR ho hi;have:=HSL.out.2;omega,fun e=>by have:=aR ho hi;have:=HSL.out.1;omega⟩);have HB1:=O (hk.blk (HL.out.b 1) id);have HB2:=O (hk.blk (HL.out.b 0) id);have HG:=O (And.intro (HL.out.lt 1).1 (HL.out.lt 0).1);have HN12:Hid (b1≠b2):=O (fun e=>cH (i:=0) HL.out.nd rfl 1 (by decide) rfl e);have HKW:=O (HL.out.keep.trans hk);clear ho;clear hk HL HPT
 go_wp2_with ((with_reducible show WL _ _);refine sta 31 (.tmp 9) (.tmp 7) b1 0 [.slice va p.addrs.length vc] HB1.out (by rw[List.size_toArray,hpc];simp) (by kernel_rfl) (one9) ?_)
 intro w6 hk hb;rw[←HPC.out,MT] at hb;have HB16:=O (jJ hb);have HB26:=O (hk.blk HB2.out HN12.out.symm);have HPV6:=O (HPV.out.keepT hk (fun i hi=>(HNB.out i hi).1));have HK6:=O (HKW.out.trans' hk (fun _ _ h=>h) (U:=aB) (fun i hi e=>by have:=HG.out.1;omega));clear hk hb HB1 HB2;have hqc:=aO (v:=.slice va p.addrs.length vc) HSUM.out;obtain⟨qc,hqce⟩:∃l,aE (.slice va p.addrs.length vc) p=l:=⟨_,rfl⟩
 have HOQ:Hid (∀u∈qc,u.oneCell'=true):=O (by rw[←hqce];exact bM HPV.out.pt);have HQC:=O hqce;rw[hqce] at hqc HB16;clear hqce HPV
 go_wp2_with ((with_reducible show WL _ _);first
  | refine wpList_load_mid rfl 35 (.tmp 10) rfl b1 0 rfl qc _ HB16.out aJ rfl (szP9 hqc) ?_
  | refine sta 35 (.tmp 2) (.tmp 11) b2 0 qc HB26.out (by rw[List.size_toArray,aH,hqc];omega) (szP9 hqc) HOQ.out ?_)
 intro w8 hk hb;rw[aG _ _ (by rw[List.size_toArray,aH,hqc])] at hb;have HP:Hid (sL w B p (.returned (.tuple #[.agg qc.toArray,.bool true])) w8):=O ⟨_,by rw[←HQC.out],HPV6.out.keepT hk (fun i hi=>(HNB.out i hi).2),HNWO.out,HK6.out.trans' hk (fun _ _ h=>h) (fun i hi e=>by have:=HG.out.2;omega)⟩;have HB8:=O hb;clear hk hb HB16 HB26 HPV6 HK6;go_wp2_with fail;refine bodyPost_ret (cC rfl _ _ b2 _ _ _ _ rfl HB8.out aJ rfl (by rw[List.size_toArray,hqc];exact eB)) rfl ?_;exact HP.out
theorem D9{w:World}{c:Nat}{S:Kor}{B:Nat->Prop}(hK:KI w c S B){g:Nat}(pv:Value)(p:Pt)(hp:PtV w pv p)(hr:p.root=true)(hg:w.heap[g]?=some (.cells (aE pv p).toArray 35 (0,0))):Calls Tryz.prog 59 #[.pointer (some ⟨c,0,none⟩),.slice (some ⟨g,0,none⟩) 1 1] w (aF w (.int .i64 0)):=by
 have HCP:=O (by have:=hK.bd.c1;omega:¬((S.cp:Nat):Int)=0);have HK:=O hK;have HPT:=O hp;have HR:=O hr;have hpc:=aO (v:=pv) hp.sum;have HOP0:=bM hp;obtain⟨pc,hpce⟩:∃l,aE pv p=l:=⟨_,rfl⟩
 have HOP:Hid (∀u∈pc,u.oneCell'=true):=O (by rw[←hpce];exact HOP0);have HPC:=O hpce;rw[hpce] at hpc hg;have HG:=O hg;have HPT0:=HPT;have HG0:=HG;clear HOP0 hpce hg hp hr hK;have HL:=O (Loc.nil aB aB w);go_enter Tryz.func59,Tryz.ntmps59;go_wp2_with fail;refine((KI.copies HK.out:Calls _ _ _ w (aF w (.int .i64 (S.cp:Int))))).mono ?_;rintro e w1 ⟨rfl,hk⟩;replace HL:=O (HL.out.keeps hk);replace HK:=O (KI.keep0 HK.out hk);replace HPT:=O (HPT.out.keep hk fun _ _=>id);replace HG:=O (hk.blk HG.out id);clear hk;have hcp0:=HCP.out;have d0:decide (((S.cp:Nat):Int)=0)=false:=decide_eq_false hcp0;have d1:(((S.cp:Nat):Int) == 0)=false:=by rw[beq_eq_false_iff_ne];exact hcp0
 go_wp2_with fail
 go_loopw [13] (fun i wr=>∃k:Nat,k≤1/\i=.int .i64 (k:Int)/\Hid (aA aB w wr)) (fun i _=>1-(intOf i).toNat)
 case atStart=>exact⟨0,by omega,rfl,O HL.out.keep⟩
 case round =>
 clear HL;obtain⟨k,hk,rfl,HKR⟩:=hrel
 by_cases hlt:k<1
 ·obtain rfl:k=0:=by omega
  have HL:=O (Loc.nil aB aB wr);have HPTR:=O (HPT0.out.keep HKR.out fun _ _=>id);have HGR:=O (HKR.out.blk HG0.out id)
  go_wp2_with ((with_reducible show WL _ _);first
   | refine wpList_load_mid rfl 35 (.tmp 15) rfl g 0 rfl pc _ (aD HGR.out) aJ rfl (szP9 hpc) ?_
   | refine al 35 (.agg aK.toArray) (aK.toArray) bJ ?_)
  intro b6 wl hbs hk0 hb0_
  go_wp2_with ((with_reducible show WL _ _);refine sta 35 (.tmp 6) (.tmp 16) b6 0 pc hb0_ (by first|decide|(rw[List.size_toArray,hpc];exact Nat.le_refl _)|simp[hpc,aH]) (szP9 hpc) HOP.out ?_)
  intro wm hk hb;rw[aG _ _ (by first|rfl|(rw[List.size_toArray,hpc];rfl)|simp[hpc,aH])] at hb;replace hk:=hk0.trans' hk (U:=aB) (fun _ _ h=>h) (fun i hi e=>by omega);replace HL:=O (HL.out.new (fun _ h=>h.elim) hbs hk hb);replace HPTR:=O (HPTR.out.keep hk fun _ _=>id);clear hbs hk hb hk0 hb0_
  go_wp2_with ((with_reducible show WL _ _);refine wpList_load_mid rfl 35 (.tmp 6) rfl b6 0 rfl pc _ (aD (HL.out.b 0)) aJ rfl (szP9 hpc) ?_)
  refine((by rw[←HPC.out];exact kF wm pv p HPTR.out HR.out:Calls _ _ _ wm (aF wm (.int .i64 0)))).mono ?_;rintro e wn ⟨rfl,hk⟩;replace HL:=O (HL.out.keeps hk);replace HPTR:=O (HPTR.out.keep hk fun _ _=>id);clear hk;have HKE:=O (HKR.out.trans HL.out.keep);go_wp2_with fail
  go_roundw
  case rel=>exact⟨1,by omega,by go_num,HKE⟩
  case measure=>simp[intOf]
 ·obtain rfl:k=1:=by omega
  go_wp2_with fail;go_ret;exact⟨rfl,HKR.out⟩
abbrev nwV(g:Nat):Value:=.func (.func 63) #[] #[.pointer (some ⟨g,0,none⟩)]
abbrev owV:Value:=.func (.func 31) #[] #[]
abbrev dnV(b6 b7 b11 b4 b12:Nat):Value:=.func (.func 60) #[] #[.pointer (some ⟨b6,0,none⟩),.pointer (some ⟨b7,0,none⟩),.pointer (some ⟨b11,0,none⟩),.pointer (some ⟨b4,0,none⟩),.pointer (some ⟨b12,0,none⟩)]
structure Thr(B:Nat->Prop)(N0 c g:Nat)(x:Int)(b6 b7 b11 b4 b12:Nat)(w:World):Prop where
 cg:w.heap[g]?=some (.cells #[.int .i64 x] 3 (0,0))
 c6:w.heap[b6]?=some (.cells #[nwV g] 38 (0,0))
 c7:w.heap[b7]?=some (.cells #[owV] 75 (0,0))
 c4:w.heap[b4]?=some (.cells #[.pointer (some ⟨c,0,none⟩)] 25 (0,0))
 c12:w.heap[b12]?=some (.cells #[dnV b6 b7 b11 b4 b12] 109 (0,0))
 lt:∀i,i=g\/i=b6\/i=b7\/i=b4\/i=b12->i<N0/\i≠b11
 l11:b11<N0/\¬B b11
theorem Thr.keep{B T:Nat->Prop}{N0 c g:Nat}{x:Int}{b6 b7 b11 b4 b12:Nat}{w w':World}(h:Thr B N0 c g x b6 b7 b11 b4 b12 w)(k:aA T w w')(hT:∀i,T i->i=b11\/N0≤i):Thr B N0 c g x b6 b7 b11 b4 b12 w':=by
 have q:∀i,i=g\/i=b6\/i=b7\/i=b4\/i=b12->¬T i:=fun i hi e=>by
  obtain⟨h1,h2⟩:=h.lt i hi;exact(hT i e).elim h2 fun h3=>by omega
 exact⟨k.blk h.cg (q _ (.inl rfl)),k.blk h.c6 (q _ (.inr (.inl rfl))),k.blk h.c7 (q _ (.inr (.inr (.inl rfl)))),k.blk h.c4 (q _ (.inr (.inr (.inr (.inl rfl))))),k.blk h.c12 (q _ (.inr (.inr (.inr (.inr rfl))))),h.lt,h.l11⟩
structure jK(N0 b11:Nat)(w:World)(v:Value)(ps:List (Value×Pt)):Prop where
 cell:w.heap[b11]?=some (.cells #[v] 39 (0,0))
 row:w.ownsRow N0 35 35 v ps.length (ps.flatMap fun x=>aE x.1 x.2)
 at_:∀x∈ps,PtV w x.1 x.2/\∀i,x.1.ownBlock=some i->N0≤i/\v.ownBlock≠some i/\IsC w i
theorem jK.keep{T:Nat->Prop}{N0 b11:Nat}{w w':World}{v:Value}{ps:List (Value×Pt)}(h:jK N0 b11 w v ps)(k:aA T w w')(h11:¬T b11)(hv:∀i,v.ownBlock=some i->¬T i)(hT:∀x∈ps,∀i,x.1.ownBlock=some i->¬T i):jK N0 b11 w' v ps:=
 ⟨k.blk h.cell h11,k.owns h.row hv,fun x hx=>⟨(h.at_ x hx).1.keep k (hT x hx),fun i hi=>⟨((h.at_ x hx).2 i hi).1,((h.at_ x hx).2 i hi).2.1,IsC.keep ((h.at_ x hx).2 i hi).2.2 k (hT x hx i hi)⟩⟩⟩
theorem jK.keep0{N0 b11:Nat}{w w':World}{v:Value}{ps:List (Value×Pt)}(h:jK N0 b11 w v ps)(k:aA aB w w'):jK N0 b11 w' v ps:=h.keep k id (fun _ _=>id) fun _ _ _ _=>id
def pI(N0 b11:Nat)(x:Int)(l:Nat)(t:Tr)(a:Nat)(v:Value)(ps:List (Value×Pt))(w:World)(e:Ending)(w':World):Prop:=
 ∃v' qs,e=.returned (.int .i64 0)/\jK N0 b11 w' v' (ps++qs)/\qs.map (·.2)=(thr (dB x) l t a).map (·.1)/\(∀i,v'.ownBlock=some i->v.ownBlock=some i\/w.heap.size≤i)/\aA (fun i=>i=b11\/v.ownBlock=some i) w w'
theorem KK{x:Int}{l a:Nat}{t:Tr}(h:t.isHole=true\/decide (x<t.ptr.birth)=false):thr (dB x) l t a=[]:=by
 have e:(t.isHole || !dB x t.ptr)=true:=by
  rcases h with h|h
  ·rw[h];rfl
  ·show (t.isHole || !(decide (x<t.ptr.birth)))=true
   rw[h];simp
 cases l with
 | zero=>rw[gQ,if_pos e]
 | succ l=>rw[gR,if_pos e]
theorem lJ{w:World}{c:Nat}{S:Kor}{B:Nat->Prop}(hK:KI w c S B){N0 g q6 q7 q11 q4 q12:Nat}{x:Int}(hT:Thr B N0 c g x q6 q7 q11 q4 q12 w){v:Value}{ps:List (Value×Pt)}(hO:jK N0 q11 w v ps)(pv:Value)(t:Tr)(l a:Nat)(ht:Tr.Ok S l t)(hp:aQ w B pv t.ptr)(hs:t.isHole=true\/decide (x<t.ptr.birth)=false):Calls Tryz.prog 60 #[.agg (fJ pv t.ptr (a:Int)).toArray,.int .i64 (l:Int),.pointer (some ⟨q6,0,none⟩),.pointer (some ⟨q7,0,none⟩),.pointer (some ⟨q11,0,none⟩),.pointer (some ⟨q4,0,none⟩),.pointer (some ⟨q12,0,none⟩)] w (pI N0 q11 x l t a v ps w):=by
 have HT:=O hT;have HO:=O hO;have HK:=O hK;have HEQ:=O (KK (a:=a) (l:=l) hs);have HHE:=O ht.hole_eq;obtain⟨p,hpe⟩:∃p,t.ptr=p:=⟨_,rfl⟩
 rw[hpe] at hp hs HHE ⊢;have HPT:=O hp;have hpc:=aO (v:=pv) hp.pt.sum;have HOP0:=bM hp.pt;have hlc:=sJ (v:=pv) (a:=(a:Int)) hp.pt.sum;have HOL0:=sK (a:=(a:Int)) hp.pt;obtain⟨pc,hpce⟩:∃l,aE pv p=l:=⟨_,rfl⟩
 obtain⟨lc,hlce⟩:∃l,fJ pv p (a:Int)=l:=⟨_,rfl⟩
 have HOP:Hid (∀u∈pc,u.oneCell'=true):=O (by rw[←hpce];exact HOP0);have HOL:Hid (∀u∈lc,u.oneCell'=true):=O (by rw[←hlce];exact HOL0);have HPC:=O hpce;have HLC:=O hlce;rw[hpce] at hpc;rw[hlce] at hlc ⊢;have HS:=O hs;clear HOP0 HOL0 hpce hlce hp hT hO hK ht hs;have HL:=O (Loc.nil aB aB w);go_enter Tryz.func60,Tryz.ntmps60
 go_wp2_with ((with_reducible show WL _ _);refine bxL HL 111 (.tmp 0) (lc.toArray) ?_)
 intro b7 w1 hk HL;replace HPT:=O (aQ.keep0 HPT.out hk);replace HT:=O (HT.out.keep hk fun _ e=>e.elim);replace HO:=O (HO.out.keep0 hk);clear hk
 go_wp2_with ((with_reducible show WL _ _);refine wpList_load_mid rfl 35 (.tmp 15) rfl b7 0 rfl pc _ (by have h:=HL.out.b 0;rw[←HLC.out] at h;rw[←HPC.out];exact jJ h) aJ rfl (szP9 hpc) ?_)
 refine((by rw[←HPC.out];exact cJ w1 pv p HPT.out.pt:Calls _ _ _ w1 (aX w1 p.hole))).mono ?_;rintro e w2 ⟨rfl,hk⟩;replace HL:=O (HL.out.keeps hk);replace HPT:=O (aQ.keep0 HPT.out hk);replace HT:=O (HT.out.keep hk fun _ e=>e.elim);replace HO:=O (HO.out.keep0 hk);clear hk;obtain⟨hb_,hhb⟩:∃b,p.hole=b:=⟨_,rfl⟩
 rw[hhb];have HHB:=O hhb;clear hhb;cases hb_ with
 | true =>
   have HP:Hid (pI N0 q11 x l t a v ps w (.returned (.int .i64 0)) w2):=O ⟨v,[],rfl,by rw[List.append_nil];exact HO.out,by rw[HEQ.out];rfl,fun i h=>.inl h,HL.out.keep.any⟩;clear HL HT HO HPT HK;go_wp2_with fail;go_ret;exact HP.out
 | false =>
   have hnw:=HS.out.resolve_left (by rw[←HHE.out,HHB.out];decide);have HNW:=O hnw;clear hnw;have c1:w2.cell? ⟨q6,0,none⟩=some (nwV g):=(cell_of_one HT.out.c6)
   go_wp2_with ((with_reducible show WL _ _);refine aY (by rfl) 35 (.tmp 20) rfl b7 0 rfl pc _ (by have h:=HL.out.b 0;rw[←HLC.out] at h;rw[←HPC.out];exact jJ h) aJ rfl (szP9 hpc) ?_)
   clear c1;refine((by rw[←HPC.out];exact sI HT.out.cg pv p HPT.out.pt:Calls _ _ _ w2 (aX w2 (decide (x<p.birth))))).mono ?_;rintro e w3 ⟨rfl,hk⟩;replace HL:=O (HL.out.keeps hk);replace HPT:=O (aQ.keep0 HPT.out hk);replace HT:=O (HT.out.keep hk fun _ e=>e.elim);replace HO:=O (HO.out.keep0 hk);clear hk;rw[HNW.out];have HP:Hid (pI N0 q11 x l t a v ps w (.returned (.int .i64 0)) w3):=O ⟨v,[],rfl,by rw[List.append_nil];exact HO.out,by rw[HEQ.out];rfl,fun i h=>.inl h,HL.out.keep.any⟩;clear HL HT HO HPT HK;go_wp2_with fail;go_ret;exact HP.out
theorem EG:(Tryz.prog.info? 111).map (·.size)=some 36:=by kernel_rfl
theorem jK.grow{N0 b11:Nat}{w w2 w3:World}{v v1 v2:Value}{p:Pt}{ps:List (Value×Pt)}(h:jK N0 b11 w v ps)(h11:b11<N0)(hp:PtV w v1 p)(hoff:∀i,v1.ownBlock=some i->N0≤i/\v.ownBlock≠some i/\IsC w i)
 (ho:w2.ownsRow N0 35 35 v2 (ps.length+1) ((ps.flatMap fun x=>aE x.1 x.2)++aE v1 p)) (k:aA (fun i=>v.ownBlock=some i) w w2) (hb:v2.ownBlock=v.ownBlock\/v2.ownBlock=some w.heap.size) (k2:aA (fun i=>i=b11) w2 w3) (hc:w3.heap[b11]?=some (.cells #[v2] 39 (0,0))):jK N0 b11 w3 v2 (ps++[(v1,p)]):=by
 have hall:∀x∈ps++[(v1,p)],PtV w x.1 x.2/\∀i,x.1.ownBlock=some i->N0≤i/\v.ownBlock≠some i/\IsC w i:=fun x hx=>by
  rcases List.mem_append.1 hx with hx|hx
  ·exact h.at_ x hx
  ·rw[List.mem_singleton] at hx
   subst hx;exact⟨hp,hoff⟩
 refine⟨hc,?_,fun x hx=>?_⟩
 ·have e:((ps++[(v1,p)]).flatMap fun x=>aE x.1 x.2)=(ps.flatMap fun x=>aE x.1 x.2)++aE v1 p:=by rw[List.flatMap_append];simp
  rw[e,List.length_append];exact k2.owns ho fun i hi e=>by have:=aR ho hi;omega
 ·obtain⟨h1,h2⟩:=hall x hx
  refine⟨(h1.keep k fun i hi=>(h2 i hi).2.1).keep k2 fun i hi e=>by have:=(h2 i hi).1;omega,fun i hi=>?_⟩;obtain⟨g1,g2,g3⟩:=h2 i hi;refine⟨g1,fun e=>?_,(g3.keep k g2).keep k2 fun e=>by omega⟩;rcases hb with hb|hb
  ·exact g2 (hb▸e)
  ·rw[hb] at e
   injection e with e
   have:=g3.lt;omega
theorem Mf{x:Int}{a:Nat}{t:Tr}(hh:t.isHole=false)(hn:decide (x<t.ptr.birth)=true):thr (dB x) 0 t a=[(t.ptr,a)]:=by
 rw[gQ,hh];exact if_neg (by show ¬(false || !(decide (x<t.ptr.birth)))=true;rw[hn];decide)
theorem Do{w:World}{c:Nat}{S:Kor}{B:Nat->Prop}(hK:KI w c S B){N0 g q6 q7 q11 q4 q12:Nat}{x:Int}(hT:Thr B N0 c g x q6 q7 q11 q4 q12 w){v:Value}{ps:List (Value×Pt)}(hO:jK N0 q11 w v ps)(hN:N0≤w.heap.size)(hps:ps.length≤1000)(pv:Value)(t:Tr)(a:Nat)(hp:aQ w B pv t.ptr)(hpl:t.ptr.addrs.length≤65536)(hh:t.isHole=false)(hhp:t.ptr.hole=false)(hn:decide (x<t.ptr.birth)=true):Calls Tryz.prog 60 #[.agg (fJ pv t.ptr (a:Int)).toArray,.int .i64 0,.pointer (some ⟨q6,0,none⟩),.pointer (some ⟨q7,0,none⟩),.pointer (some ⟨q11,0,none⟩),.pointer (some ⟨q4,0,none⟩),.pointer (some ⟨q12,0,none⟩)] w (pI N0 q11 x 0 t a v ps w):=by
 have HT:=O hT;have HO:=O hO;have HBLT:=O (fun i (e:B i)=>hK.lt e);have HNN:=O hN;have HPS:=O hps;have HEQ:=O (Mf (a:=a) hh hn);obtain⟨p,hpe⟩:∃p,t.ptr=p:=⟨_,rfl⟩
 have HPE:=O hpe;rw[hpe] at hp hhp hn hpl ⊢;have HPT:=O hp;have HHP:=O hhp;have HN1:=O hn;have HPL:=O hpl;have hpc:=aO (v:=pv) hp.pt.sum;have HOP0:=bM hp.pt;have hlc:=sJ (v:=pv) (a:=(a:Int)) hp.pt.sum;have HOL0:=sK (a:=(a:Int)) hp.pt;obtain⟨pc,hpce⟩:∃l,aE pv p=l:=⟨_,rfl⟩
 obtain⟨lc,hlce⟩:∃l,fJ pv p (a:Int)=l:=⟨_,rfl⟩
 have HOP:Hid (∀u∈pc,u.oneCell'=true):=O (by rw[←hpce];exact HOP0);have HOL:Hid (∀u∈lc,u.oneCell'=true):=O (by rw[←hlce];exact HOL0);have HPC:=O hpce;have HLC:=O hlce;rw[hpce] at hpc;rw[hlce] at hlc ⊢;clear HOP0 HOL0 hpce hlce hp hT hO hh hhp hn hN hps hpl hpe hK;have HL:=O (Loc.nil aB aB w);go_enter Tryz.func60,Tryz.ntmps60
 go_wp2_with ((with_reducible show WL _ _);refine bxL HL 111 (.tmp 0) (lc.toArray) ?_)
 intro b7 w1 hk HL;replace HPT:=O (aQ.keep0 HPT.out hk);replace HT:=O (HT.out.keep hk fun _ e=>e.elim);replace HO:=O (HO.out.keep0 hk);clear hk
 go_wp2_with ((with_reducible show WL _ _);refine wpList_load_mid rfl 35 (.tmp 15) rfl b7 0 rfl pc _ (by have h:=HL.out.b 0;rw[←HLC.out] at h;rw[←HPC.out];exact jJ h) aJ rfl (szP9 hpc) ?_)
 refine((by rw[←HPC.out];exact cJ w1 pv p HPT.out.pt:Calls _ _ _ w1 (aX w1 p.hole))).mono ?_;rintro e w2 ⟨rfl,hk⟩;replace HL:=O (HL.out.keeps hk);replace HPT:=O (aQ.keep0 HPT.out hk);replace HT:=O (HT.out.keep hk fun _ e=>e.elim);replace HO:=O (HO.out.keep0 hk);clear hk;rw[HHP.out];have c1:w2.cell? ⟨q6,0,none⟩=some (nwV g):=(cell_of_one HT.out.c6)
 go_wp2_with ((with_reducible show WL _ _);refine aY (by rfl) 35 (.tmp 20) rfl b7 0 rfl pc _ (by have h:=HL.out.b 0;rw[←HLC.out] at h;rw[←HPC.out];exact jJ h) aJ rfl (szP9 hpc) ?_)
 clear c1;refine((by rw[←HPC.out];exact sI HT.out.cg pv p HPT.out.pt:Calls _ _ _ w2 (aX w2 (decide (x<p.birth))))).mono ?_;rintro e w3 ⟨rfl,hk⟩;replace HL:=O (HL.out.keeps hk);replace HPT:=O (aQ.keep0 HPT.out hk);replace HT:=O (HT.out.keep hk fun _ e=>e.elim);replace HO:=O (HO.out.keep0 hk);clear hk;rw[HN1.out];have c1:w3.cell? ⟨q7,0,none⟩=some (owV):=(cell_of_one HT.out.c7)
 go_wp2_with ((with_reducible show WL _ _);refine wpList_load_mid rfl 111 (.tmp 7) rfl b7 0 rfl lc _ (aD (HL.out.b 0)) Tryz.underlying111 rfl (by rw[hlc];exact EG) ?_)
 clear c1;have HSW:=O HL.out.keep.size;refine((by rw[←HLC.out];exact Dn (B:=B) (fun k hk=>Nat.lt_of_lt_of_le (HBLT.out k hk) HL.out.keep.size) pv p HPT.out.pt HPL.out (a:Int):Calls _ _ _ w3 (sL w3 B p))).mono ?_;rintro e w4 ⟨v1,rfl,hpv1,hnw1,hk⟩;have HV1:Hid (PtV w4 v1 p):=O hpv1.pt;have HVO:Hid (∀i,v1.ownBlock=some i->N0≤i/\v.ownBlock≠some i/\IsC w4 i):=O (fun i hi=>⟨by have h1:=hnw1 i hi;have h2:=HNN.out;have h3:=HSW.out;omega,fun e=>by (obtain⟨cur,hc⟩:=aL HO.out.row e;have h1:=lt_of_block hc;have h2:=hnw1 i hi;omega),(hpv1.off i hi).2⟩);obtain⟨rc,HRC,hrc,HOR⟩:=nmPt hpv1.pt;rw[HRC.out];clear hpv1 hnw1;replace HL:=O (HL.out.keeps hk);replace HPT:=O (aQ.keep0 HPT.out hk);replace HT:=O (HT.out.keep hk fun _ e=>e.elim);replace HO:=O (HO.out.keep0 hk);clear hk
 go_wp2_with ((with_reducible show WL _ _);refine al 35 (.agg aK.toArray) (aK.toArray) bJ ?_)
 intro b10 w5 hbs hk0 hb0_
 go_wp2_with ((with_reducible show WL _ _);refine sta 35 (.tmp 10) (.tmp 29) b10 0 rc hb0_ (by first|decide|(rw[List.size_toArray,hrc];exact Nat.le_refl _)|simp[hrc,aH]) (szP9 hrc) HOR.out ?_)
 intro w6 hk hb;rw[aG _ _ (by first|rfl|(rw[List.size_toArray,hrc];rfl)|simp[hrc,aH])] at hb;replace hk:=hk0.trans' hk (U:=aB) (fun _ _ h=>h) (fun i hi e=>by omega);replace HL:=O (HL.out.new (fun _ h=>h.elim) hbs hk hb);replace HPT:=O (aQ.keep0 HPT.out hk);replace HT:=O (HT.out.keep hk fun _ e=>e.elim);replace HO:=O (HO.out.keep0 hk);replace HV1:=O (HV1.out.keep hk fun _ _=>id);replace HVO:=O (fun i hi=>And.intro (HVO.out i hi).1 (And.intro (HVO.out i hi).2.1 ((HVO.out i hi).2.2.keep hk id)));clear hbs hk hb hk0 hb0_;have c1:w6.cell? ⟨q11,0,none⟩=some (v):=(cell_of_one HO.out.cell)
 go_wp2_with ((with_reducible show WL _ _);first
  | refine wpList_load_mid rfl 35 (.tmp 10) rfl b10 0 rfl rc _ (aD (HL.out.b 0)) aJ rfl (szP9 hrc) ?_
  | refine bsA 39 35 (.tmp 33) Tryz.underlying39 jE (by omega) rc hrc (by omega) ?_)
 clear c1;intro b34 w7 hbs hk hb;have HRN:Hid (Rd w7 35 (.slice (some ⟨b34,0,none⟩) 1 1) 1 rc):=O (cG (n:=1) (size:=35) hb (by rw[hrc]) (by unfold maxLen;omega));replace HL:=O (HL.out.new (fun _ h=>h.elim) hbs hk hb);replace HPT:=O (aQ.keep0 HPT.out hk);replace HT:=O (HT.out.keep hk fun _ e=>e.elim);replace HO:=O (HO.out.keep0 hk);replace HV1:=O (HV1.out.keep hk fun _ _=>id);replace HVO:=O (fun i hi=>And.intro (HVO.out i hi).1 (And.intro (HVO.out i hi).2.1 ((HVO.out i hi).2.2.keep hk id)));clear hbs hk hb;have HLN:=O (show N0≤w7.heap.size from Nat.le_trans HNN.out HL.out.keep.size);have HPS2:Hid (ps.length+1≤maxLen/\(ps.length+1)*72≤140737488355328):=O (by have:=HPS.out;unfold maxLen;omega)
 go_wp2_with (at_builtin;refine aI rfl (.tmp 32) (.tmp 34) 39 rfl N0 35 (.agg aK.toArray) 35 72 Tryz.underlying39 jE rfl (by decide) v ps.length (ps.flatMap fun x=>aE x.1 x.2) rfl HO.out.row (.slice (some ⟨b34,0,none⟩) 1 1) 1 rc rfl HRN.out HOR.out HPS2.out.1 HPS2.out.2 HLN.out ?_)
 intro v2 w8 ho5 hk5 hn5 hb5;obtain⟨g2,c2,rfl,-,-⟩:=(Rd.of_owns ho5).form;have H11:=O (hk5.blk HO.out.cell fun e=>by have h1:=aR HO.out.row e;have h2:=HT.out.l11.1;omega);have HO5:=O ho5;have HK5:=O hk5;have HB5:=O hb5;have HKL:=O HL.out.keep;clear ho5 hk5 hn5 hb5 HRN
 go_wp2_with ((with_reducible show WL _ (.store 39 _ _));refine sta 39 (.tmp 4) (.tmp 35) q11 0 [.slice g2 (ps.length+1) c2] H11.out (by simp) (by kernel_rfl) (by intro u hu;rw[List.mem_singleton] at hu;subst hu;rfl) ?_)
 intro w9 hk hb;replace hb:w9.heap[q11]?=some (.cells #[.slice g2 (ps.length+1) c2] 39 (0,0)):=hb
 have HP:Hid (pI N0 q11 x 0 t a v ps w (.returned (.int .i64 0)) w9):=O (by
  refine⟨_,[(v1,p)],rfl,HO.out.grow HT.out.l11.1 HV1.out HVO.out (by rw[HRC.out];exact HO5.out) HK5.out HB5.out hk hb,by rw[HEQ.out,←HPE.out];rfl,fun i hi=>?_,?_⟩
  ·rcases HB5.out with e|e
   ·exact .inl (e▸hi)
   ·rw[e] at hi
    injection hi with hi
    have:=HKL.out.size;exact .inr (by omega)
  ·exact((HKL.out.any.trans' HK5.out (fun _ _ h=>h) (fun i _ e=>.inr e)).trans' hk (fun _ _ h=>h) (fun i _ e=>.inl e)))
 clear HL HO HT HPT hk hb HK5 HO5 H11;go_wp2_with fail;go_ret;exact HP.out
def MU(B:Nat->Prop)(S:Kor)(c N0 g q6 q7 q11 q4 q12:Nat)(x:Int)(l:Nat):Prop:=∀(w:World) (v:Value) (ps:List (Value×Pt)) (pv:Value) (t:Tr) (a:Nat),KI w c S B->Thr B N0 c g x q6 q7 q11 q4 q12 w->jK N0 q11 w v ps->N0≤w.heap.size->ps.length+(thr (dB x) l t a).length≤1000->a+4 ^ l≤64->Tr.Ok S l t->aQ w B pv t.ptr->(∀i,pv.ownBlock=some i->i≠q11/\v.ownBlock≠some i) ->
 Calls Tryz.prog 60 #[.agg (fJ pv t.ptr (a:Int)).toArray,.int .i64 (l:Int),.pointer (some ⟨q6,0,none⟩),.pointer (some ⟨q7,0,none⟩),.pointer (some ⟨q11,0,none⟩),.pointer (some ⟨q4,0,none⟩),.pointer (some ⟨q12,0,none⟩)] w (pI N0 q11 x l t a v ps w)
theorem Loc.onto{S B:Nat->Prop}{w0 w w':World}{l:List (Nat×Array Value×TypeId)}(h:Loc aB B w0 w l)(k:aA S w w')(hS:∀x∈l,¬S x.1):Loc S B w0 w' l:=
 ⟨h.keep.trans' k (fun _ _ e=>e.elim) (fun _ _ e=>e),h.ge,h.nd,fun x hx=>k.blk (h.at_ x hx) (hS x hx),h.ap⟩
theorem Dp{f:Pt->Bool}{l a:Nat}{t:Tr}(hh:t.isHole=false)(hf:f t.ptr=true):thr f (l+1) t a=(t.ptr,a)::(List.range 4).flatMap fun i=>thr f l (t.kid i) (a+i*4 ^ l):=by
 rw[gR,hh,hf];rfl
structure sM(w:World)(B:Nat->Prop)(S:Kor)(c N0 g q6 q7 q11 q4 q12:Nat)(x:Int)(b7 b12 l:Nat)(t:Tr)(a:Nat)(pv v:Value)(ps:List (Value×Pt))(vs:Nat->Value)(k:Nat)(wr:World)(vk:Value)(qs:List (Value×Pt)):Prop where
 ki:KI wr c S B
 th:Thr B N0 c g x q6 q7 q11 q4 q12 wr
 out:jK N0 q11 wr vk (ps++qs)
 eq:qs.map (·.2)=((t.ptr,a)::(List.range k).flatMap fun i=>thr (dB x) l (t.kid i) (a+i*4 ^ l)).map (·.1)
 old:fI wr B vs (fun i=>(t.kid i).ptr)
 off:∀q,q<4->∀i,(vs q).ownBlock=some i->i≠q11/\vk.ownBlock≠some i
 h7:wr.heap[b7]?=some (.cells (fJ pv t.ptr (a:Int)).toArray 111 (0,0))
 h12:wr.heap[b12]?=some (.cells (cO ((l+1:Nat):Int) vs (fun i=>(t.kid i).ptr)).toArray 104 (0,0))
 own:∀i,vk.ownBlock=some i->(v.ownBlock=some i\/w.heap.size≤i)/\i≠b7/\i≠b12
 ge:N0≤b7/\N0≤b12/\N0≤w.heap.size
 keep:aA (fun i=>i=q11\/v.ownBlock=some i) w wr
theorem sM.len{w:World}{B:Nat->Prop}{S:Kor}{c N0 g q6 q7 q11 q4 q12:Nat}{x:Int}{b7 b12 l:Nat}{t:Tr}{a:Nat}{pv v:Value}{ps:List (Value×Pt)}{vs:Nat->Value}{k:Nat}{wr:World}{vk:Value}{qs:List (Value×Pt)}
 (h:sM w B S c N0 g q6 q7 q11 q4 q12 x b7 b12 l t a pv v ps vs k wr vk qs) (hk:k<4) (hm:ps.length+(thr (dB x) (l+1) t a).length≤1000) (hh:t.isHole=false) (hf:dB x t.ptr=true):(ps++qs).length+(thr (dB x) l (t.kid k) (a+k*4 ^ l)).length≤1000:=by
 have e:=congrArg List.length h.eq;rw[List.length_map,List.length_map,List.length_cons] at e;rw[Dp hh hf,List.length_cons] at hm
 have h1:((List.range (k+1)).flatMap fun i=>thr (dB x) l (t.kid i) (a+i*4 ^ l)).length≤((List.range 4).flatMap fun i=>thr (dB x) l (t.kid i) (a+i*4 ^ l)).length:=by
  have:∃r,(List.range 4)=List.range (k+1)++r:=by
   have:k=0\/k=1\/k=2\/k=3:=by omega
   rcases this with rfl|rfl|rfl|rfl<;>exact⟨_,rfl⟩
  obtain⟨r,e⟩:=this;rw[e,List.flatMap_append,List.length_append];omega
 rw[List.range_succ,List.flatMap_append,List.length_append] at h1;simp only[List.flatMap_cons,List.flatMap_nil,List.append_nil] at h1;rw[List.length_append];omega
theorem sM.step{w:World}{B:Nat->Prop}{S:Kor}{c N0 g q6 q7 q11 q4 q12:Nat}{x:Int}{b7 b12 l:Nat}{t:Tr}{a:Nat}{pv v:Value}{ps:List (Value×Pt)}{vs:Nat->Value}{k:Nat}{wr w1 w2:World}{vk:Value}{qs:List (Value×Pt)}{e:Ending}
 (h:sM w B S c N0 g q6 q7 q11 q4 q12 x b7 b12 l t a pv v ps vs k wr vk qs) (hB:∀i,B i->i<N0) (k1:aA aB wr w1) (hm:pI N0 q11 x l (t.kid k) (a+k*4 ^ l) vk (ps++qs) w1 e w2):e=.returned (.int .i64 0)/\aA (fun i=>i=q11\/vk.ownBlock=some i) w1 w2/\∃v' qs',sM w B S c N0 g q6 q7 q11 q4 q12 x b7 b12 l t a pv v ps vs (k+1) w2 v' qs':=by
 obtain⟨v',q2,he,ho,hq,hv,hk⟩:=hm;have hge:∀i,vk.ownBlock=some i->N0≤i:=fun i hi=>aR h.out.row hi
 have h11:=h.th.l11;have hk2:aA (fun i=>i=q11\/vk.ownBlock=some i) wr w2:=k1.trans' hk (fun _ _ h=>h.elim) (fun _ _ h=>h);have hlt:∀i,(∃q,q<4/\(vs q).ownBlock=some i)->i<wr.heap.size:=fun i ⟨q,hq,hi⟩=>((h.old q hq).off i hi).2.lt
 have h7l:=lt_of_block h.h7;have h12l:=lt_of_block h.h12;have hg:=h.ge
 have hoff:∀q,q<4->∀i,(vs q).ownBlock=some i->¬(i=q11\/vk.ownBlock=some i):=fun q hq i hi e=>by
  have:=h.off q hq i hi;exact e.elim this.1 this.2
 refine⟨he,hk,v',qs++q2,h.ki.keepT hk2 fun i hi hb=>?_,h.th.keep hk2 fun i hi=>hi.imp id (hge i),by rw[←List.append_assoc];exact ho,?_,h.old.keepT hk2 hoff,fun q hq i hi=>⟨(h.off q hq i hi).1,fun e=>?_⟩,hk2.blk h.h7 fun e=>?_,hk2.blk h.h12 fun e=>?_,fun i hi=>?_,hg,h.keep.trans' hk2 (fun _ _ h=>h) fun i hi e=>?_⟩
 ·rcases hi with rfl|hi
  ·exact h11.2 hb
  ·have:=hge i hi;have:=hB i hb;omega
 ·rw[List.map_append,h.eq,hq,←List.map_append,List.range_succ,List.flatMap_append]
  simp only[List.flatMap_cons,List.flatMap_nil,List.append_nil,List.cons_append]
 ·rcases hv i e with e|e
  ·exact(h.off q hq i hi).2 e
  ·have:=hlt i ⟨q,hq,hi⟩;have:=k1.size;omega
 ·rcases e with e|e
  ·omega
  ·exact(h.own _ e).2.1 rfl
 ·rcases e with e|e
  ·omega
  ·exact(h.own _ e).2.2 rfl
 ·rcases hv i hi with e|e
  ·exact h.own i e
  ·have:=k1.size;have:=h.keep.size
   exact⟨.inr (by omega),by omega,by omega⟩
 ·rcases e with e|e
  ·exact .inl e
  ·exact(h.own i e).1.elim .inr fun e=>absurd hi (by omega)
theorem sM.fin{w:World}{B:Nat->Prop}{S:Kor}{c N0 g q6 q7 q11 q4 q12:Nat}{x:Int}{b7 b12 l:Nat}{t:Tr}{a:Nat}{pv v:Value}{ps:List (Value×Pt)}{vs:Nat->Value}{wr w':World}{vk:Value}{qs:List (Value×Pt)}
 (h:sM w B S c N0 g q6 q7 q11 q4 q12 x b7 b12 l t a pv v ps vs 4 wr vk qs) (hh:t.isHole=false) (hf:dB x t.ptr=true) (k:aA aB wr w'):pI N0 q11 x (l+1) t a v ps w (.returned (.int .i64 0)) w':=
 ⟨vk,qs,rfl,h.out.keep0 k,by rw[Dp hh hf];exact h.eq,fun i hi=>(h.own i hi).1,h.keep.trans' k (fun _ _ h=>h) (fun _ _ e=>e.elim)⟩
theorem Ni{w:World}{b:Nat}{v:Value}{p:Pt}{a:Int}{t:TypeId}{fr:Nat×Nat}(hs:p.sum.length=32)(h:w.heap[b]?=some (.cells (fJ v p a).toArray t fr)):w.cell? ⟨b,35,none⟩=some (.int .i64 a):=
 aC h (by
  rw[List.getElem?_toArray];unfold fJ;rw[List.getElem?_append_right (by rw[aO hs];exact Nat.le_refl _),aO hs];rfl)
theorem KL(f:Nat->Value)(a:Int):Tryz.prog.built 111 [(0,.agg ((List.range 35).map f).toArray),(1,.int .i64 a)]=some ((List.range 35).map f++[Value.int .i64 a]).toArray:=by kernel_rfl
theorem EH(uc:List Value)(h:uc.length=35):uc=(List.range 35).map fun i=>uc.getD i undef:=by
 apply List.ext_getElem?;intro i;rw[List.getElem?_map]
 by_cases hi:i<35
 ·rw[List.getElem?_range hi,List.getElem?_eq_getElem (by omega)]
  simp[List.getD,List.getElem?_eq_getElem (show i<uc.length by omega)]
 ·rw[List.getElem?_eq_none (by omega),List.getElem?_eq_none (by simp;omega)];rfl
theorem Mg(v:Value)(p:Pt)(a:Int)(hs:p.sum.length=32)(w:World):(Instr.build 111 #[(0,.agg (aE v p).toArray),(1,.int .i64 a)]).run Tryz.prog w=.ok (.agg (fJ v p a).toArray) w:=by
 refine run_build w 111 _ _ ?_;unfold fJ;rw[EH (aE v p) (aO hs)];exact KL _ _
theorem Dq{w:World}{c:Nat}{S:Kor}{B:Nat->Prop}(hK:KI w c S B){N0 g q6 q7 q11 q4 q12 l:Nat}{x:Int}(hl2:l≤2)(IH:MU B S c N0 g q6 q7 q11 q4 q12 x l)(hB:∀i,B i->i<N0)(hT:Thr B N0 c g x q6 q7 q11 q4 q12 w){v:Value}{ps:List (Value×Pt)}(hO:jK N0 q11 w v ps)(hN:N0≤w.heap.size)(pv:Value)(t:Tr)(a:Nat)(hps:ps.length+(thr (dB x) (l+1) t a).length≤1000)(ha:a+4 ^ (l+1)≤64)(ht:Tr.Ok S (l+1) t)(hp:aQ w B pv t.ptr)(hpo:∀i,pv.ownBlock=some i->i≠q11/\v.ownBlock≠some i)(hpl:t.ptr.addrs.length≤65536)(hh:t.isHole=false)(hn:decide (x<t.ptr.birth)=true):Calls Tryz.prog 60 #[.agg (fJ pv t.ptr (a:Int)).toArray,.int .i64 ((l+1:Nat):Int),.pointer (some ⟨q6,0,none⟩),.pointer (some ⟨q7,0,none⟩),.pointer (some ⟨q11,0,none⟩),.pointer (some ⟨q4,0,none⟩),.pointer (some ⟨q12,0,none⟩)] w (pI N0 q11 x (l+1) t a v ps w):=by
 have hhp:t.ptr.hole=false:=by rw[ht.hole_eq,hh]
 have HIH:=O IH;have HBN:=O hB;have HTR:=O ht;have HPSL:=O hps;have HA:=O ha;have HPO:=O hpo;have HHH:Hid (t.isHole=false/\dB x t.ptr=true):=O ⟨hh,hn⟩;have hps1:ps.length≤1000:=by omega
 have HT:=O hT;have HO:=O hO;have HBLT:=O (fun i (e:B i)=>hK.lt e);have HNN:=O hN;have HPS:=O hps1;have HKI:=O hK;have HVO0:Hid (∀i,v.ownBlock=some i->i<w.heap.size):=O fun i hi=>by (obtain⟨cur,hc⟩:=aL hO.row hi;exact lt_of_block hc)
 obtain⟨p,hpe⟩:∃p,t.ptr=p:=⟨_,rfl⟩
 have HPE:=O hpe;rw[hpe] at hp hhp hn hpl ⊢;have HPT:=O hp;have HHP:=O hhp;have HN1:=O hn;have HPL:=O hpl;have HSM:=O hp.pt.sum;have hpc:=aO (v:=pv) hp.pt.sum;have HOP0:=bM hp.pt;have hlc:=sJ (v:=pv) (a:=(a:Int)) hp.pt.sum;have HOL0:=sK (a:=(a:Int)) hp.pt;obtain⟨pc,hpce⟩:∃l,aE pv p=l:=⟨_,rfl⟩
 obtain⟨lc,hlce⟩:∃l,fJ pv p (a:Int)=l:=⟨_,rfl⟩
 have HOP:Hid (∀u∈pc,u.oneCell'=true):=O (by rw[←hpce];exact HOP0);have HOL:Hid (∀u∈lc,u.oneCell'=true):=O (by rw[←hlce];exact HOL0);have HPC:=O hpce;have HLC:=O hlce;rw[hpce] at hpc;rw[hlce] at hlc ⊢;have hl0:(0:Int)≤((l+1:Nat):Int):=by omega
 have hlz:(((l:Int)+1) == 0)=false:=by rw[beq_eq_false_iff_ne];omega
 clear HOP0 HOL0 hpce hlce hp hT hO hh hhp hn hN hps hpl hpe hK IH hB ht ha hpo hps1;have HL:=O (Loc.nil aB aB w);go_enter Tryz.func60,Tryz.ntmps60
 go_wp2_with ((with_reducible show WL _ _);refine bxL HL 111 (.tmp 0) (lc.toArray) ?_)
 intro b7 w1 hk HL;replace HPT:=O (aQ.keep0 HPT.out hk);replace HT:=O (HT.out.keep hk fun _ e=>e.elim);replace HO:=O (HO.out.keep0 hk);replace HKI:=O (KI.keep0 HKI.out hk);clear hk
 go_wp2_with ((with_reducible show WL _ _);refine wpList_load_mid rfl 35 (.tmp 15) rfl b7 0 rfl pc _ (by have h:=HL.out.b 0;rw[←HLC.out] at h;rw[←HPC.out];exact jJ h) aJ rfl (szP9 hpc) ?_)
 refine((by rw[←HPC.out];exact cJ w1 pv p HPT.out.pt:Calls _ _ _ w1 (aX w1 p.hole))).mono ?_;rintro e w2 ⟨rfl,hk⟩;replace HL:=O (HL.out.keeps hk);replace HPT:=O (aQ.keep0 HPT.out hk);replace HT:=O (HT.out.keep hk fun _ e=>e.elim);replace HO:=O (HO.out.keep0 hk);replace HKI:=O (KI.keep0 HKI.out hk);clear hk;rw[HHP.out];have c1:w2.cell? ⟨q6,0,none⟩=some (nwV g):=(cell_of_one HT.out.c6)
 go_wp2_with ((with_reducible show WL _ _);refine aY (by rfl) 35 (.tmp 20) rfl b7 0 rfl pc _ (by have h:=HL.out.b 0;rw[←HLC.out] at h;rw[←HPC.out];exact jJ h) aJ rfl (szP9 hpc) ?_)
 clear c1;refine((by rw[←HPC.out];exact sI HT.out.cg pv p HPT.out.pt:Calls _ _ _ w2 (aX w2 (decide (x<p.birth))))).mono ?_;rintro e w3 ⟨rfl,hk⟩;replace HL:=O (HL.out.keeps hk);replace HPT:=O (aQ.keep0 HPT.out hk);replace HT:=O (HT.out.keep hk fun _ e=>e.elim);replace HO:=O (HO.out.keep0 hk);replace HKI:=O (KI.keep0 HKI.out hk);clear hk;rw[HN1.out];have c1:w3.cell? ⟨q7,0,none⟩=some (owV):=(cell_of_one HT.out.c7)
 go_wp2_with ((with_reducible show WL _ _);refine wpList_load_mid rfl 111 (.tmp 7) rfl b7 0 rfl lc _ (aD (HL.out.b 0)) Tryz.underlying111 rfl (by rw[hlc];exact EG) ?_)
 clear c1;have HSW:=O HL.out.keep.size;refine((by rw[←HLC.out];exact Dn (B:=B) (fun k hk=>Nat.lt_of_lt_of_le (HBLT.out k hk) HL.out.keep.size) pv p HPT.out.pt HPL.out (a:Int):Calls _ _ _ w3 (sL w3 B p))).mono ?_;rintro e w4 ⟨v1,rfl,hpv1,hnw1,hk⟩;have HV1:Hid (PtV w4 v1 p):=O hpv1.pt;have HVO:Hid (∀i,v1.ownBlock=some i->N0≤i/\v.ownBlock≠some i/\IsC w4 i):=O (fun i hi=>⟨by have h1:=hnw1 i hi;have h2:=HNN.out;have h3:=HSW.out;omega,fun e=>by (obtain⟨cur,hc⟩:=aL HO.out.row e;have h1:=lt_of_block hc;have h2:=hnw1 i hi;omega),(hpv1.off i hi).2⟩);obtain⟨rc,HRC,hrc,HOR⟩:=nmPt hpv1.pt;rw[HRC.out];clear hpv1 hnw1;replace HL:=O (HL.out.keeps hk);replace HPT:=O (aQ.keep0 HPT.out hk);replace HT:=O (HT.out.keep hk fun _ e=>e.elim);replace HO:=O (HO.out.keep0 hk);replace HKI:=O (KI.keep0 HKI.out hk);clear hk
 go_wp2_with ((with_reducible show WL _ _);refine al 35 (.agg aK.toArray) (aK.toArray) bJ ?_)
 intro b10 w5 hbs hk0 hb0_
 go_wp2_with ((with_reducible show WL _ _);refine sta 35 (.tmp 10) (.tmp 29) b10 0 rc hb0_ (by first|decide|(rw[List.size_toArray,hrc];exact Nat.le_refl _)|simp[hrc,aH]) (szP9 hrc) HOR.out ?_)
 intro w6 hk hb;rw[aG _ _ (by first|rfl|(rw[List.size_toArray,hrc];rfl)|simp[hrc,aH])] at hb;replace hk:=hk0.trans' hk (U:=aB) (fun _ _ h=>h) (fun i hi e=>by omega);replace HL:=O (HL.out.new (fun _ h=>h.elim) hbs hk hb);replace HPT:=O (aQ.keep0 HPT.out hk);replace HT:=O (HT.out.keep hk fun _ e=>e.elim);replace HO:=O (HO.out.keep0 hk);replace HKI:=O (KI.keep0 HKI.out hk);replace HV1:=O (HV1.out.keep hk fun _ _=>id);replace HVO:=O (fun i hi=>And.intro (HVO.out i hi).1 (And.intro (HVO.out i hi).2.1 ((HVO.out i hi).2.2.keep hk id)));clear hbs hk hb hk0 hb0_;have c1:w6.cell? ⟨q11,0,none⟩=some (v):=(cell_of_one HO.out.cell)
 go_wp2_with ((with_reducible show WL _ _);first
  | refine wpList_load_mid rfl 35 (.tmp 10) rfl b10 0 rfl rc _ (aD (HL.out.b 0)) aJ rfl (szP9 hrc) ?_
  | refine bsA 39 35 (.tmp 33) Tryz.underlying39 jE (by omega) rc hrc (by omega) ?_)
 clear c1;intro b34 w7 hbs hk hb;have HRN:Hid (Rd w7 35 (.slice (some ⟨b34,0,none⟩) 1 1) 1 rc):=O (cG (n:=1) (size:=35) hb (by rw[hrc]) (by unfold maxLen;omega));replace HL:=O (HL.out.new (fun _ h=>h.elim) hbs hk hb);replace HPT:=O (aQ.keep0 HPT.out hk);replace HT:=O (HT.out.keep hk fun _ e=>e.elim);replace HO:=O (HO.out.keep0 hk);replace HKI:=O (KI.keep0 HKI.out hk);replace HV1:=O (HV1.out.keep hk fun _ _=>id);replace HVO:=O (fun i hi=>And.intro (HVO.out i hi).1 (And.intro (HVO.out i hi).2.1 ((HVO.out i hi).2.2.keep hk id)));clear hbs hk hb;have HLN:=O (show N0≤w7.heap.size from Nat.le_trans HNN.out HL.out.keep.size);have HPS2:Hid (ps.length+1≤maxLen/\(ps.length+1)*72≤140737488355328):=O (by have:=HPS.out;unfold maxLen;omega)
 go_wp2_with (at_builtin;refine aI rfl (.tmp 32) (.tmp 34) 39 rfl N0 35 (.agg aK.toArray) 35 72 Tryz.underlying39 jE rfl (by decide) v ps.length (ps.flatMap fun x=>aE x.1 x.2) rfl HO.out.row (.slice (some ⟨b34,0,none⟩) 1 1) 1 rc rfl HRN.out HOR.out HPS2.out.1 HPS2.out.2 HLN.out ?_)
 intro v2 w8 ho5 hk5 hn5 hb5;obtain⟨g2,c2,rfl,-,-⟩:=(Rd.of_owns ho5).form;have H11:=O (hk5.blk HO.out.cell fun e=>by have h1:=aR HO.out.row e;have h2:=HT.out.l11.1;omega);have HO5:=O ho5;have HK5:=O hk5;have HB5:=O hb5;have HKL:=O HL.out.keep;have HB7L:=O (HL.out.lt 2);have HOG:=O (fun i (hi:v.ownBlock=some i)=>(aR HO.out.row hi:N0≤i));clear ho5 hk5 hn5 hb5 HRN
 go_wp2_with ((with_reducible show WL _ (.store 39 _ _));refine sta 39 (.tmp 4) (.tmp 35) q11 0 [.slice g2 (ps.length+1) c2] H11.out (by simp) (by kernel_rfl) (by intro u hu;rw[List.mem_singleton] at hu;subst hu;rfl) ?_)
 intro w9 hk hb;replace hb:w9.heap[q11]?=some (.cells #[.slice g2 (ps.length+1) c2] 39 (0,0)):=hb;have hk9:aA (fun i=>i=q11\/v.ownBlock=some i) w7 w9:=HK5.out.trans' hk (fun i _ e=>.inr e) (fun i _ e=>.inl e);have HQ:Hid (jK N0 q11 w9 (.slice g2 (ps.length+1) c2) (ps++[(v1,p)])):=O (HO.out.grow HT.out.l11.1 HV1.out HVO.out (by rw[HRC.out];exact HO5.out) HK5.out HB5.out hk hb)
 have hsl:∀i,w.heap.size≤i->¬(i=q11\/v.ownBlock=some i):=fun i hi e=>by
  rcases e with rfl|e
  ·have h1:=HT.out.l11.1;have h2:=HNN.out;omega
  ·have h1:=HVO0.out i e;omega
 replace HL:=O (HL.out.onto hk9 (fun z hz=>hsl _ (HL.out.ge z hz)));replace HT:=O (HT.out.keep hk9 fun i e=>e.imp id (HOG.out i));replace HKI:=O (HKI.out.keepT hk9 fun i e hBi=>e.elim (fun e=>HT.out.l11.2 (e▸hBi)) fun e=>by (have h1:=HOG.out i e;have h2:=HBN.out i hBi;omega));replace HPT:=O (HPT.out.keepT hk9 fun i hi e=>e.elim (HPO.out i hi).1 (HPO.out i hi).2)
 have HV2:Hid (∀i,(Value.slice g2 (ps.length+1) c2).ownBlock=some i->v.ownBlock=some i\/i=w7.heap.size):=O (fun i hi=>by
  rcases HB5.out with e|e
  ·exact .inl (e▸hi)
  ·rw[e] at hi;injection hi with hi;exact .inr hi.symm)
 have HS2:=O (And.intro HKL.out.size (And.intro hk9.size (HL.out.lt 2)));obtain⟨v2,hv2⟩:∃u,Value.slice g2 (ps.length+1) c2=u:=⟨_,rfl⟩
 rw[hv2] at HQ HV2;clear hk9 hk hb HK5 HO5 H11 HO HV1 HVO HB5 hv2;have c1:w9.cell? ⟨q4,0,none⟩=some (.pointer (some ⟨c,0,none⟩)):=(cell_of_one HT.out.c4)
 go_wp2_with ((with_reducible show WL _ _);refine wpList_load_mid rfl 35 (.tmp 40) rfl b7 0 rfl pc _ (by have h:=HL.out.b 2;rw[←HLC.out] at h;rw[←HPC.out];exact jJ h) aJ rfl (szP9 hpc) ?_)
 clear c1;have HLW:=O HL.out.keep.size;have HQL:Hid (∀i,v2.ownBlock=some i->i<w9.heap.size):=O fun i hi=>by (obtain⟨cur,hc⟩:=aL HQ.out.row hi;exact lt_of_block hc)
 refine((by rw[←HPC.out,←HPE.out];exact IT HKI.out hl2 pv t HTR.out (by rw[HPE.out];exact HPT.out.pt):Calls _ _ _ w9 (fU w9 B l t))).mono ?_;rintro e w8 ⟨vs,rfl,hvs,hnew,hk⟩;have HNN2:=O hvs;have HWS:=O hk.size;have HNO:Hid (∀q,q<4->∀i,(vs q).ownBlock=some i->i≠q11/\v2.ownBlock≠some i):=O (fun q hq i hi=>⟨fun e=>by (have h1:=hnew q hq i hi;have h2:=HLW.out;have h3:=HT.out.l11.1;have h4:=HNN.out;omega),fun e=>by (have h1:=hnew q hq i hi;have h2:=HQL.out i e;omega)⟩);have hnn:=gS ((l+1:Nat):Int) vs hvs.nv;have HOF0:=dX ((l+1:Nat):Int) hvs.nv;obtain⟨nn,hnne⟩:∃x,cO ((l+1:Nat):Int) vs (fun i=>(t.kid i).ptr)=x:=⟨_,rfl⟩
 have HOF:Hid (∀u∈nn,u.oneCell'=true):=O (by rw[←hnne];exact HOF0);have HNF:=O hnne;rw[hnne] at hnn ⊢;clear HOF0 hnne hvs hnew;replace HL:=O (HL.out.keeps hk);replace HPT:=O (aQ.keep0 HPT.out hk);replace HT:=O (HT.out.keep hk fun _ e=>e.elim);replace HQ:=O (HQ.out.keep0 hk);replace HKI:=O (KI.keep0 HKI.out hk);clear hk
 go_wp2_with ((with_reducible show WL _ _);refine al 104 (.agg dA.toArray) (dA.toArray) jD ?_)
 intro b12 w9 hbs hk0 hb0_
 go_wp2_with ((with_reducible show WL _ _);refine sta 104 (.tmp 12) (.tmp 44) b12 0 nn hb0_ (by first|decide|(rw[List.size_toArray,hnn];exact Nat.le_refl _)|simp[hnn,bS]) (by rw[hnn];exact dZ) HOF.out ?_)
 intro wa hk hb;rw[aG _ _ (by first|rfl|(rw[List.size_toArray,hnn];rfl)|simp[hnn,bS])] at hb;replace hk:=hk0.trans' hk (U:=aB) (fun _ _ h=>h) (fun i hi e=>by omega);have HNb12:=O (show w8.heap.size≤b12 from Nat.le_of_eq hbs);replace HL:=O (HL.out.new (fun _ h=>h.elim) hbs hk hb);replace HPT:=O (aQ.keep0 HPT.out hk);replace HT:=O (HT.out.keep hk fun _ e=>e.elim);replace HQ:=O (HQ.out.keep0 hk);replace HKI:=O (KI.keep0 HKI.out hk);replace HNN2:=O (fI.keep0 HNN2.out hk);clear hbs hk hb hk0 hb0_;go_wp2_with fail
 have HST:Hid (∃vk qs,sM w B S c N0 g q6 q7 q11 q4 q12 x b7 b12 l t a pv v ps vs 0 wa vk qs):=O ⟨v2,[(v1,p)],HKI.out,HT.out,HQ.out,by rw[HPE.out];rfl,HNN2.out,HNO.out,by (have h:=HL.out.b 3;rw[←HLC.out] at h;rw[HPE.out];exact h),by (have h:=HL.out.b 0;rw[←HNF.out] at h;exact h),fun i hi=>by
  have h7:=HB7L.out;have hs:=HS2.out;have h12:=HL.out.lt 0;have hq:=HQL.out i hi;have h12n:=HNb12.out;have hws:=HWS.out;rcases HV2.out i hi with e|e
  ·have h1:=HVO0.out i e
   exact⟨.inl e,by omega,by omega⟩
  ·exact⟨.inr (by omega),by omega,by omega⟩,⟨by have h1:=(HL.out.lt 3).1;have h2:=HNN.out;omega,by have h1:=(HL.out.lt 0).1;have h2:=HNN.out;omega,HNN.out⟩,HL.out.keep⟩
 clear HL HKI HPT HT HQ HNN2
 go_loopw [13,14] (fun e i wr=>∃k:Nat,k≤4/\e=.int .i64 0/\i=.int .i64 (k:Int)/\Hid (∃vk qs,sM w B S c N0 g q6 q7 q11 q4 q12 x b7 b12 l t a pv v ps vs k wr vk qs)) (fun _ i _=>4-(intOf i).toNat)
 case atStart=>exact⟨0,by omega,rfl,rfl,HST⟩
 case round =>
  obtain⟨k,hk,rfl,rfl,HCI⟩:=hrel;obtain⟨vk,qs,hci⟩:=HCI.out
  by_cases hk8:k<4
  ·have hk0:(0:Int)≤(k:Int):=by omega
   have hk1:(k:Int)<4:=by omega
   have HKI:=O hci.ki;have HT:=O hci.th;have HQ:=O hci.out;have HQV:=O (hci.old k hk8);have HCX:=O hci;have hqc:=aO (v:=vs k) HQV.out.pt.sum;have HOQ0:=bM HQV.out.pt;have HX0:=wX hci.old.nv (aD hci.h12) hk8;obtain⟨qc,hqce⟩:∃x,aE (vs k) ((t.kid k).ptr)=x:=⟨_,rfl⟩
   have HOQ:Hid (∀u∈qc,u.oneCell'=true):=O (by rw[←hqce];exact HOQ0);have HQC:=O hqce;rw[hqce] at hqc HX0;have HX:=O HX0;have HAT:=O (Ni (by rw[HPE.out];exact HSM.out) hci.h7);obtain⟨W,hW⟩:∃W:Nat,4 ^ l=W:=⟨_,rfl⟩
   have hW16:W≤16/\1≤W:=by
    have:l=0\/l=1\/l=2:=by omega
    rcases this with rfl|rfl|rfl<;>omega
   have HW:=O hW;obtain⟨kw,hkw⟩:∃q:Nat,k*W=q:=⟨_,rfl⟩
   have hkw48:kw+W≤4*W:=by rw[←hkw];have h1:=Nat.mul_le_mul_right W (show k+1≤4 by omega);rw[Nat.succ_mul] at h1;exact h1
   have hkwi:(k:Int)*(W:Int)=(kw:Int):=by rw[←hkw];push_cast;rfl
   have hal:a+4*W≤64:=by have h1:=HA.out;rw[Nat.pow_succ,hW] at h1;omega
   obtain⟨ak,hak⟩:∃ak,a+kw=ak:=⟨_,rfl⟩
   have HKWI:Hid (a+k*4 ^ l=ak):=O (by rw[hW,hkw,hak]);have hai:(a:Int)+(kw:Int)=(ak:Int):=by omega
   have HNQ:Hid ((∀i,(vs k).ownBlock=some i->i≠q11/\vk.ownBlock≠some i)/\(ps++qs).length+(thr (dB x) l (t.kid k) ak).length≤1000/\ak+4 ^ l≤64/\N0≤wr.heap.size):=O ⟨hci.off k hk8,by rw[←hak,←hkw,←hW];exact hci.len hk8 HPSL.out HHH.out.1 HHH.out.2,by rw[hW];omega,by have h1:=hci.ge;have h2:=hci.keep.size;omega⟩;have HTK:=O (HTR.out.kid hk8);have HL:=O (Loc.nil aB aB wr)
   have H12N:Hid (¬(b12=q11\/vk.ownBlock=some b12)/\¬(b7=q11\/vk.ownBlock=some b7)/\¬(q12=q11\/vk.ownBlock=some q12)):=O (by
    have h1:=hci.ge;have h2:=hci.th.l11.1;have h3:=hci.th.lt q12 (.inr (.inr (.inr (.inr rfl))));refine⟨fun e=>e.elim (fun e=>by omega) fun e=>(hci.own _ e).2.2 rfl,fun e=>e.elim (fun e=>by omega) fun e=>(hci.own _ e).2.1 rfl,fun e=>e.elim (fun e=>by omega) fun e=>?_⟩;have h4:=aR hci.out.row e;omega)
   have hbp:=Mg (vs k) (t.kid k).ptr (ak:Int) HQV.out.pt.sum;obtain⟨mc,hmc⟩:∃x,fJ (vs k) (t.kid k).ptr (ak:Int)=x:=⟨_,rfl⟩
   have HMC:=O hmc;rw[hmc,hqce] at hbp;have HBP:=O hbp;clear hqce HOQ0 HX0 hci HCI hW hkw hmc hbp hak;go_wp2_with fail;obtain⟨S,hS0⟩:∃S:World->Prop,S=fun w'=>aA (fun i=>i=q11\/vk.ownBlock=some i) wr.drew w':=⟨_,rfl⟩
   have HSE:=O (show ∀w',S w'->aA (fun i=>i=q11\/vk.ownBlock=some i) wr.drew w' from fun w' h=>by rw[hS0] at h;exact h);have HSI:=O (show ∀w',aA (fun i=>i=q11\/vk.ownBlock=some i) wr.drew w'->S w' from fun w' h=>by rw[hS0];exact h);have hS:S wr.drew:=by rw[hS0];exact aA.refl _ _
   have hkd:=(aA.refl aB wr).drew;clear hS0;refine wp_region_held (S:=S) (by kernel_rfl) ?_;change wpAnyH _ _ _ _ _ _ _ _ wr.drew;generalize wr.drew=wc at HSE HSI hS hkd ⊢;replace HL:=O (HL.out.keeps hkd);replace HKI:=O (KI.keep0 HKI.out hkd);replace HT:=O (HT.out.keep hkd fun _ e=>e.elim);replace HQ:=O (HQ.out.keep0 hkd);replace HX:=O (hkd.rangeAt HX.out);replace HQV:=O (aQ.keep0 HQV.out hkd);replace HAT:=O (hkd.cell HAT.out id);clear hkd;have HLs:=HL;have HKIs:=HKI;have HTs:=HT;have HQs:=HQ;have HXs:=HX;have HQVs:=HQV;have HATs:=HAT;refine tnd 0 (dnV q6 q7 q11 q4 q12) rfl (.inl ⟨by rfl,fun w' hw'=>by have c:World.cell? w' ⟨q12,0,none⟩=some (dnV q6 q7 q11 q4 q12):=(HSE.out w' hw').cell (cell_of_one HTs.out.c12) H12N.out.2.2;go_simp⟩) hS ?_;refine tna 1 (.int .i64 (k:Int)) rfl hS ?_;refine tnb 2 (.pointer (some ⟨b12,1,none⟩)) rfl hS ?_;refine tnd 3 (.pointer (some ⟨b12,1+k*35,none⟩)) rfl (.inl ⟨by rfl,fun _ _=>by go_simp<;>omega⟩) hS ?_;refine tnd 4 (.agg qc.toArray) rfl (yieldsIf_load_mid (by rfl) 35 (.tmp 57) rfl b12 (1+k*35) rfl qc _ (fun w' h=>(HSE.out w' h).rangeAt2 HXs.out H12N.out.1) aJ rfl (szP9 hqc)) hS ?_;refine tnb 5 (.pointer (some ⟨b7,35,none⟩)) rfl hS ?_;refine tnd 6 (.int .i64 (a:Int)) rfl (.inl ⟨by rfl,fun w' hw'=>by have c:World.cell? w' ⟨b7,35,none⟩=some (.int .i64 (a:Int)):=(HSE.out w' hw').cell HATs.out H12N.out.2.1;go_simp⟩) hS ?_;refine tna 7 (.int .i64 (k:Int)) rfl hS ?_;refine tna 8 (.int .i64 ((l+1:Nat):Int)) rfl hS ?_;refine tnd 9 (.int .i64 (l:Int)) rfl (.inl ⟨by rfl,fun _ _=>by go_simp;exact IntWalk.i64_in _ (by omega)⟩) hS ?_;refine tna 14 (.int .i64 ((l+1:Nat):Int)) rfl hS ?_;refine tnd 15 (.int .i64 (l:Int)) rfl (.inl ⟨by rfl,fun _ _=>by go_simp;exact IntWalk.i64_in _ (by omega)⟩) hS ?_;refine wA9 10 ?_;go_wp2_with fail;refine((by rw[←HW.out];exact Gd wc l (by omega):Calls _ _ _ wc (aF wc (.int .i64 (W:Int))))).mono ?_;rintro e wd ⟨rfl,hk⟩;have hS1:=HSI.out _ ((HSE.out _ hS).trans hk.any);replace HL:=O (HL.out.keeps hk);replace HKI:=O (KI.keep0 HKI.out hk);replace HT:=O (HT.out.keep hk fun _ e=>e.elim);replace HQ:=O (HQ.out.keep0 hk);replace HX:=O (hk.rangeAt HX.out);replace HQV:=O (aQ.keep0 HQV.out hk);replace HAT:=O (hk.cell HAT.out id);clear hS hk;go_wp2_with fail;refine⟨hS1,?_⟩;refine tnd 11 (.int .i64 (kw:Int)) rfl (.inl ⟨by rfl,fun _ _=>by go_simp;exact IntWalk.i64_in _ (by omega)⟩) hS1 ?_;refine tnd 12 (.int .i64 (ak:Int)) rfl (.inl ⟨by rfl,fun _ _=>by go_simp;exact IntWalk.i64_in _ (by omega)⟩) hS1 ?_;refine tnd 13 (.agg mc.toArray) rfl (kB 111 #[(0,.tmp 58),(1,.tmp 66)] [(0,.agg qc.toArray),(1,.int .i64 (ak:Int))] (.agg mc.toArray) HBP.out) hS1 ?_;refine wA9 16 ?_;go_wp2_with fail;have HLK:Hid (aA aB wr wd):=O HL.out.keep;refine((by rw[←HMC.out];exact HIH.out wd vk (ps++qs) (vs k) (t.kid k) ak HKI.out HT.out HQ.out (Nat.le_trans HNQ.out.2.2.2 HL.out.keep.size) HNQ.out.2.1 HNQ.out.2.2.1 HTK.out HQV.out HNQ.out.1:Calls _ _ _ wd (pI N0 q11 x l (t.kid k) ak vk (ps++qs) wd))).mono ?_;rintro e we hm;obtain⟨he,hmk,hnx⟩:=HCX.out.step HBN.out HLK.out (by rw[HKWI.out];exact hm);subst he;have HNX:=O hnx;have hS2:=HSI.out _ ((HSE.out _ hS1).trans hmk);clear hS1 hmk hm hnx HL HKI HT HX HQV HQ HAT HLK;go_wp2_with fail;refine⟨hS2,?_⟩;refine tna 17 (.int .i64 0) rfl hS2 ?_;refine wpAnyH_done (by kernel_rfl) ?_ _;clear hS2 HSE HSI HLs HKIs HTs HQs HXs HQVs HATs;clear HCX;go_wp2_with fail
   go_roundw
   case rel=>exact⟨k+1,by omega,rfl,by go_num,HNX⟩
   case measure=>simp[intOf];omega
  ·obtain rfl:k=4:=by omega
   have HP:=O (hci.fin HHH.out.1 HHH.out.2 (aA.refl aB wr));clear hci HCI;go_wp2_with fail;go_ret;exact HP.out
theorem Nr:Hid (∀w,(zeroValue 109).run Tryz.prog w=.ok .nilFunc w):=O fun w=>by kernel_rfl
theorem IV(f:Nat->Value):Tryz.prog.built 111 [(0,.agg ((List.range 35).map f).toArray)]=some ((List.range 35).map f++[Value.int .i64 0]).toArray:=by kernel_rfl
theorem KM(v:Value)(p:Pt)(hs:p.sum.length=32)(w:World):(Instr.build 111 #[(0,.agg (aE v p).toArray)]).run Tryz.prog w=.ok (.agg (fJ v p 0).toArray) w:=by
 refine run_build w 111 _ _ ?_;unfold fJ;rw[EH (aE v p) (aO hs)];exact IV _
theorem Tr.Ok.few{S:Kor}{l:Nat}{t:Tr}(h:Tr.Ok S l t):t.ptr.addrs.length≤65536:=by
 have:=(mO h.pmay).1;omega
theorem KN{B:Nat->Prop}{S:Kor}{c N0 g q6 q7 q11 q4 q12:Nat}{x:Int}(hB:∀i,B i->i<N0):∀l,l≤3->MU B S c N0 g q6 q7 q11 q4 q12 x l:=by
 intro l
 induction l with
 | zero =>
   intro hl w v ps pv t a hK hT hO hN hps ha ht hp hpo;cases hh:t.isHole with
   | true=>exact lJ hK hT hO pv t 0 a ht hp (.inl hh)
   | false =>
     cases hn:decide (x<t.ptr.birth) with
     | false=>exact lJ hK hT hO pv t 0 a ht hp (.inr hn)
     | true=>exact Do hK hT hO hN (by omega) pv t a hp ht.few hh (by rw[ht.hole_eq,hh]) hn
 | succ l ih =>
   intro hl w v ps pv t a hK hT hO hN hps ha ht hp hpo;cases hh:t.isHole with
   | true=>exact lJ hK hT hO pv t (l+1) a ht hp (.inl hh)
   | false =>
     cases hn:decide (x<t.ptr.birth) with
     | false=>exact lJ hK hT hO pv t (l+1) a ht hp (.inr hn)
     | true=>exact Dq hK (by omega) (ih (by omega)) hB hT hO hN pv t a hps ha ht hp hpo ht.few hh hn
def oL(w:World)(ps:List Pt)(e:Ending)(w':World):Prop:=
 ∃(v:Value) (qs:List (Value×Pt)),e=.returned (.tuple #[v,.int .i64 0])/\qs.map (·.2)=ps/\w'.ownsRow w.heap.size 35 35 v ps.length (qs.flatMap fun x=>aE x.1 x.2)/\(∀x∈qs,PtV w' x.1 x.2/\∀i,x.1.ownBlock=some i->w.heap.size≤i/\v.ownBlock≠some i/\IsC w' i)/\aA aB w w'
theorem Ea{w:World}{c:Nat}{S:Kor}{B:Nat->Prop}(hK:KI w c S B){g:Nat}{x:Int}(hg:w.heap[g]?=some (.cells #[.int .i64 x] 3 (0,0)))(pv:Value)(t:Tr)(ht:Tr.Ok S 3 t)(hp:aQ w B pv t.ptr)(hm:(thr (dB x) 3 t 0).length≤1000):Calls Tryz.prog 29 #[.pointer (some ⟨c,0,none⟩),.agg (aE pv t.ptr).toArray,nwV g,owV] w (oL w ((thr (dB x) 3 t 0).map (·.1))):=by
 have HTR:=O ht;have HM:=O hm;have HKI:=O hK;have HBLT:=O (fun i (e:B i)=>hK.lt e);have HGB:=O hg;have HGL:=O (lt_of_block hg);obtain⟨p,hpe⟩:∃p,t.ptr=p:=⟨_,rfl⟩
 have HPE:=O hpe;rw[hpe] at hp ⊢;have HPT:=O hp;have HRT:Hid (p.root=true):=O (by rw[←hpe];exact ht.root);have hpc:=aO (v:=pv) hp.pt.sum;have HOP0:=bM hp.pt;have hbp:=KM pv p hp.pt.sum;obtain⟨pc,hpce⟩:∃l,aE pv p=l:=⟨_,rfl⟩
 obtain⟨lc,hlce⟩:∃l,fJ pv p 0=l:=⟨_,rfl⟩
 have HOP:Hid (∀u∈pc,u.oneCell'=true):=O (by rw[←hpce];exact HOP0);have HPC:=O hpce;have HLC:=O hlce;rw[hpce] at hpc hbp ⊢;rw[hlce] at hbp;have HBP:=O hbp;have HPO:=O (fun i hi=>(hp.off i hi).2.lt);clear HOP0 hpce hlce hp ht hK hpe hg hm hbp;have HL:=O (Loc.nil aB aB w);go_enter Tryz.func29,Tryz.ntmps29
 go_wp2_with ((with_reducible show WL _ _);refine bxL HL 25 (.tmp 0) (#[.pointer (some ⟨c,0,none⟩)]) ?_)
 intro b4 w1 hk HL;replace HPT:=O (aQ.keep0 HPT.out hk);replace HKI:=O (KI.keep0 HKI.out hk);replace HGB:=O (hk.blk HGB.out id);clear hk
 go_wp2_with ((with_reducible show WL _ _);refine bxL HL 35 (.tmp 1) (pc.toArray) ?_)
 intro b5 w2 hk HL;replace HPT:=O (aQ.keep0 HPT.out hk);replace HKI:=O (KI.keep0 HKI.out hk);replace HGB:=O (hk.blk HGB.out id);clear hk
 go_wp2_with ((with_reducible show WL _ _);refine bxL HL 38 (.tmp 2) (#[nwV g]) ?_)
 intro b6 w3 hk HL;replace HPT:=O (aQ.keep0 HPT.out hk);replace HKI:=O (KI.keep0 HKI.out hk);replace HGB:=O (hk.blk HGB.out id);clear hk
 go_wp2_with ((with_reducible show WL _ _);refine bxL HL 75 (.tmp 3) (#[owV]) ?_)
 intro b7 w4 hk HL;replace HPT:=O (aQ.keep0 HPT.out hk);replace HKI:=O (KI.keep0 HKI.out hk);replace HGB:=O (hk.blk HGB.out id);clear hk;have c1:w4.cell? ⟨b4,0,none⟩=some (.pointer (some ⟨c,0,none⟩)):=(aC (i:=0) (HL.out.b 3) rfl)
 go_wp2_with ((with_reducible show WL _ _);first
  | refine wpList_load_mid rfl 35 (.tmp 5) rfl b5 0 rfl pc _ (aD (HL.out.b 2)) aJ rfl (szP9 hpc) ?_
  | refine bsA 39 35 (.tmp 15) Tryz.underlying39 jE (by omega) pc hpc (by omega) ?_)
 clear c1;intro b16 w5 hbs hk hb;replace HL:=O (HL.out.new (fun _ h=>h.elim) hbs hk hb);replace HPT:=O (aQ.keep0 HPT.out hk);replace HKI:=O (KI.keep0 HKI.out hk);replace HGB:=O (hk.blk HGB.out id);clear hbs hk hb;go_wp2_with fail;refine((D9 HKI.out pv p HPT.out.pt HRT.out (by rw[HPC.out];exact HL.out.b 0):Calls _ _ _ w5 (aF w5 (.int .i64 0)))).mono ?_;rintro e w6 ⟨rfl,hk⟩;replace HL:=O (HL.out.keeps hk);replace HPT:=O (aQ.keep0 HPT.out hk);replace HKI:=O (KI.keep0 HKI.out hk);replace HGB:=O (hk.blk HGB.out id);clear hk
 go_wp2_with ((with_reducible show WL _ _);refine alL HL 39 (.slice none 0 0) (#[.slice none 0 0]) K5 ?_)
 intro b11 w7 hk HL;replace HPT:=O (aQ.keep0 HPT.out hk);replace HKI:=O (KI.keep0 HKI.out hk);replace HGB:=O (hk.blk HGB.out id);clear hk
 go_wp2_with ((with_reducible show WL _ _);refine alL HL 109 (.nilFunc) (#[.nilFunc]) Nr ?_)
 intro b12 w8 hk HL;replace HPT:=O (aQ.keep0 HPT.out hk);replace HKI:=O (KI.keep0 HKI.out hk);replace HGB:=O (hk.blk HGB.out id);clear hk
 go_wp2_with ((with_reducible show WL _ _);refine sta 109 (.tmp 12) (.tmp 21) b12 0 ([dnV b6 b7 b11 b4 b12]) (HL.out.b 0) (by simp) (by kernel_rfl) (one9) ?_)
 intro w9 hk hb;replace hb:w9.heap[b12]?=some (.cells #[dnV b6 b7 b11 b4 b12] 109 (0,0)):=hb;replace HL:=O (HL.out.set 0 hk hb);replace HPT:=O (HPT.out.keepT hk fun i hi e=>by have h1:=HPO.out i hi;have h2:=(HL.out.lt 0).1;omega);replace HKI:=O (HKI.out.keepT hk fun i e hb=>by have h1:=HBLT.out i hb;have h2:=(HL.out.lt 0).1;omega);replace HGB:=O (hk.blk HGB.out fun e=>by have h1:=HGL.out;have h2:=(HL.out.lt 0).1;omega);clear hk hb;obtain⟨N0,hN0⟩:∃n,w9.heap.size=n:=⟨_,rfl⟩
 have hg_:g<w9.heap.size:=Nat.lt_of_lt_of_le HGL.out HL.out.keep.size;have hB0:∀i,B i->i<N0:=fun i e=>by have h1:=HBLT.out i e;have h2:=HL.out.keep.size;omega
 have hT0:Thr B N0 c g x b6 b7 b11 b4 b12 w9:=⟨HGB.out,HL.out.b 4,HL.out.b 3,HL.out.b 6,HL.out.b 0,fun i hi=>by
  have g6:=HL.out.lt 4;have g7:=HL.out.lt 3;have g4:=HL.out.lt 6;have g12:=HL.out.lt 0;have g11:=HL.out.lt 1;have gg:=HGL.out;have n6:b11≠b6:=cH HL.out.nd (i:=4) rfl 1 (by decide) rfl;have n7:b11≠b7:=cH HL.out.nd (i:=3) rfl 1 (by decide) rfl;have n4:b11≠b4:=cH HL.out.nd (i:=6) rfl 1 (by decide) rfl;have n12:b11≠b12:=cH HL.out.nd (i:=0) rfl 1 (by decide) rfl;rcases hi with rfl|rfl|rfl|rfl|rfl<;>omega,⟨by have g11:=HL.out.lt 1;omega,fun e=>by have h1:=HBLT.out _ e;have g11:=HL.out.lt 1;omega⟩⟩
 have HO0:Hid (jK N0 b11 w9 (.slice none 0 0) []):=O ⟨HL.out.b 1,World.ownsRow_nil _ _ _ _,fun x hx=>by cases hx⟩;have HT:=O hT0;have HB0:=O hB0;have HN0:=O hN0;have HPO2:Hid (∀i,pv.ownBlock=some i->i≠b11/\(Value.slice none 0 0).ownBlock≠some i):=O (fun i hi=>⟨fun e=>by have h1:=HPO.out i hi;have h2:=(HL.out.lt 1).1;omega,fun e=>by cases e⟩);clear hg_ hB0 hT0 hN0;have HKW0:=O HL.out.keep.size;have c1:w9.cell? ⟨b12,0,none⟩=some (dnV b6 b7 b11 b4 b12):=(aC (i:=0) (HL.out.b 0) rfl)
 go_wp2_with ((with_reducible show WL _ _);first
  | refine wpList_load_mid rfl 35 (.tmp 5) rfl b5 0 rfl pc _ (aD (HL.out.b 5)) aJ rfl (szP9 hpc) ?_
  | refine bld 111 #[(0,.tmp 23)] [(0,.agg pc.toArray)] (.agg lc.toArray) HBP.out ?_)
 clear c1;have HNS:Hid (w.heap.size≤N0):=O (by have h1:=HN0.out;have h2:=HKW0.out;omega);refine((by rw[←HLC.out,←HPE.out];exact KN HB0.out 3 (by omega) w9 (.slice none 0 0) [] pv t 0 HKI.out HT.out HO0.out (by have h1:=HN0.out;have h2:=HL.out.keep.size;omega) (by rw[List.length_nil,Nat.zero_add];exact HM.out) (by decide) HTR.out (by rw[HPE.out];exact HPT.out) HPO2.out:Calls _ _ _ w9 (pI N0 b11 x 3 t 0 (.slice none 0 0) [] w9))).mono ?_;rintro e wa ⟨v,qs,rfl,ho,hq,-,hk⟩;have HC11:=O (cell_of_one ho.cell)
 have HP:Hid (oL w ((thr (dB x) 3 t 0).map (·.1)) (.returned (.tuple #[v,.int .i64 0])) wa):=O (by
  have hsz:=HL.out.keep.size;have hn:=HN0.out;have hr:=ho.row;rw[List.nil_append] at hr;refine⟨v,qs,rfl,hq,?_,fun y hy=>⟨(ho.at_ y hy).1,fun i hi=>⟨?_,((ho.at_ y hy).2 i hi).2⟩⟩,HL.out.keep.trans' hk (fun _ _ h=>h) (fun i hi e=>?_)⟩
  ·rw[←hq,List.length_map]
   exact aP hr HNS.out
  ·exact Nat.le_trans HNS.out ((ho.at_ y hy).2 i hi).1
  ·rcases e with e|e
   ·have h1:=(HL.out.lt 1).1;omega
   ·cases e)
 clear HL HT HO0 HKI HPT ho hq hk;have c1:wa.cell? ⟨b11,0,none⟩=some (v):=HC11.out;go_wp2_with fail;clear c1
 go_ret2
 exact HP.out
theorem Mh{S:Kor}{t:Tr}{x:Int}(h:Tr.Ok S 3 t):(thr (dB x) 3 t 0).length≤1000:=by
 have q:∀{l:Nat}{t:Tr}{a:Nat},(thr (dB x) l t a).length≤2*4 ^ l-1:=by
  intro l
  induction l with
  | zero=>intro t a;rw[gQ];split<;>simp
  | succ l ih =>
    intro t a;rw[gR];split
    ·simp
    ·have h0:=ih (t:=t.kid 0) (a:=a+0*4 ^ l);have h1:=ih (t:=t.kid 1) (a:=a+1*4 ^ l);have h2:=ih (t:=t.kid 2) (a:=a+2*4 ^ l);have h3:=ih (t:=t.kid 3) (a:=a+3*4 ^ l)
     rw[List.length_cons,show List.range 4=[0,1,2,3] from rfl];simp only[List.flatMap_cons,List.flatMap_nil,List.append_nil,List.length_append];have hp:0<4 ^ l:=Nat.pos_of_ne_zero (by simp);rw[Nat.pow_succ];omega
 have:=q (l:=3) (t:=t) (a:=0);omega
theorem Dr{w:World}{c:Nat}{S:Kor}{B:Nat->Prop}(hK:KI w c S B)(pv:Value)(t:Tr)(ht:Tr.Ok S 3 t)(hp:aQ w B pv t.ptr):Calls Tryz.prog 11 #[.pointer (some ⟨c,0,none⟩),.agg (aE pv t.ptr).toArray] w (oL w (fC 3 t)):=by
 have HTR:=O ht;have HEQ:Hid ((thr (dB 0) 3 t 0).map (·.1)=fC 3 t):=O (by rw[zH ht];rfl);have HKI:=O hK;obtain⟨p,hpe⟩:∃p,t.ptr=p:=⟨_,rfl⟩
 have HPE:=O hpe;rw[hpe] at hp ⊢;have HPT:=O hp;obtain⟨pc,HPC,hpc,HOP⟩:=nmPt hp.pt;rw[HPC.out];clear hp ht hK hpe;have HL:=O (Loc.nil aB aB w);go_enter Tryz.func11,Tryz.ntmps11
 go_wp2_with ((with_reducible show WL _ _);refine bxL HL 35 (.tmp 1) (pc.toArray) ?_)
 intro b3 w1 hk HL;replace HPT:=O (aQ.keep0 HPT.out hk);replace HKI:=O (KI.keep0 HKI.out hk);clear hk;go_wp2_with fail;obtain⟨S,hS0⟩:∃S:World->Prop,S=fun w'=>aA aB w1.drew w':=⟨_,rfl⟩
 have HSE:=O (show ∀w',S w'->aA aB w1.drew w' from fun w' h=>by rw[hS0] at h;exact h);have HSI:=O (show ∀w',aA aB w1.drew w'->S w' from fun w' h=>by rw[hS0];exact h);have hS:S w1.drew:=by rw[hS0];exact aA.refl _ _
 have hkd:=(aA.refl aB w1).drew;clear hS0;refine wp_region_held (S:=S) (by kernel_rfl) ?_;change wpAnyH _ _ _ _ _ _ _ _ w1.drew;generalize w1.drew=w2 at HSE HSI hS hkd ⊢;replace HL:=O (HL.out.keeps hkd);replace HPT:=O (aQ.keep0 HPT.out hkd);replace HKI:=O (KI.keep0 HKI.out hkd);clear hkd;have HLs:=HL;have HPTs:=HPT;have HKIs:=HKI;refine tna 0 (.pointer (some ⟨c,0,none⟩)) rfl hS ?_;refine tnd 1 (.agg pc.toArray) rfl (yieldsIf_load_mid (by rfl) 35 (.tmp 3) rfl b3 0 rfl pc _ (fun w' h=>aD ((HSE.out w' h).blk (HLs.out.b 0) id)) aJ rfl (szP9 hpc)) hS ?_;refine wA9 2 ?_;go_wp2_with fail;refine((IU w2 0)).mono ?_;rintro e w3 ⟨g,rfl,hg,-,hk⟩;have HGB:=O hg;clear hg;have hS1:=HSI.out _ ((HSE.out _ hS).trans hk);replace HL:=O (HL.out.keeps hk);replace HPT:=O (aQ.keep0 HPT.out hk);replace HKI:=O (KI.keep0 HKI.out hk);clear hS hk;go_wp2_with fail;refine⟨hS1,?_⟩;refine wA9 3 ?_;go_wp2_with fail;refine((by rw[←HPC.out,←HPE.out];exact Ea HKI.out HGB.out pv t HTR.out (by rw[HPE.out];exact HPT.out) (Mh HTR.out):Calls _ _ _ w3 (oL w3 ((thr (dB 0) 3 t 0).map (·.1))))).mono ?_;rintro e w4 ⟨v,qs,rfl,hq,ho,hat,hk⟩
 have HP:Hid (oL w (fC 3 t) (.returned (.tuple #[v,.int .i64 0])) w4):=O (by
  rw[HEQ.out] at hq ho;exact⟨v,qs,rfl,hq,aP ho HL.out.keep.size,fun y hy=>⟨(hat y hy).1,fun i hi=>⟨Nat.le_trans HL.out.keep.size ((hat y hy).2 i hi).1,((hat y hy).2 i hi).2⟩⟩,HL.out.keep.trans hk⟩)
 have hS2:=HSI.out _ ((HSE.out _ hS1).trans hk);clear hS1 hk hq ho hat HL HKI HPT HGB;go_wp2_with fail;refine⟨hS2,?_⟩;refine tnb 4 v rfl hS2 ?_;refine tnb 5 (.int .i64 0) rfl hS2 ?_;refine tna 6 v rfl hS2 ?_;refine tna 7 (.int .i64 0) rfl hS2 ?_;refine wpAnyH_done (by kernel_rfl) ?_ _;clear hS2 HSE HSI HLs HPTs HKIs;go_wp2_with fail
 go_ret2
 exact HP.out
end
end Go.Proofs.YthihofpfonfjfaaGreatDoor
