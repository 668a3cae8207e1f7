/- A part of the proof. Conditions: those told. -/
import Derived.Test.YtjkbekifgobeaaaGreatDoorQ1
import Derived.Test.YtjkbekifgobeaaaGreatDoorQ27
namespace Go.Proofs.YtjkbekifgobeaaaGreatDoor
set_option maxHeartbeats 64000000
set_option maxRecDepth 100000
set_option linter.unusedVariables false
section
open Go.RowKit Go.Maps Go.ChangeMaps
theorem Hc{S:Kor}{c:Nat}{B:Nat->Prop}{N0 bo b2:Nat}(a:List (List UInt8))(J:Nat->Prop)(w:World)(pv:Value)(t:Tr)(hi:gU N0 bo b2 c a J w)(hK:KI w c S B)(ht:Tr.Ok S 0 t)(hp:bB w J pv t.ptr)(hP:a.length+1≤1000):Calls Tryz.prog 61 #[.agg (aE pv t.ptr).toArray,.int .i64 0,.pointer (some ⟨bo,0,none⟩),.pointer (some ⟨b2,0,none⟩)] w (cF (gU N0 bo b2 c) w J (a++[t.blk 0 0])):=by
 have HJL:=O (fun i=>(qA N0 bo b2 c).lt a J w i hi);obtain⟨v,vs,hz,hbo,hb2,ho,hr,rfl⟩:=hi;obtain⟨va,vc,rfl,-,-⟩:=(Rd.of_owns ho).form;have HZ:=O hz;have HBO:=O hbo;have HB2:=O hb2;have HO:=O ho;have HR:=O hr;have HT:=O ht;have HK:=O hK;have HBLEN:=O (Tr.Ok.blk_len ht 0);have HPT:Hid (PtV w pv t.ptr):=O hp.pt;obtain⟨p,hpe⟩:∃p,t.ptr=p:=⟨_,rfl⟩
 have HPE:=O hpe;rw[hpe] at HPT hp ⊢;obtain⟨pc,HPC,hpc,HOP⟩:=nmPt hp.pt;rw[HPC.out];have HL:=O (Loc.nil aB aB w);clear hp hpe hK ht hz hbo hb2 ho hr;go_enter Tryz.func61,Tryz.ntmps61
 go_wp2_with ((with_reducible show WL _ _);refine bxL HL 26 (.tmp 0) (pc.toArray) ?_)
 intro b4 w1 hk HL;replace HPT:=O (HPT.out.keep hk fun _ _=>id);replace HK:=O (HK.out.keep0 hk);replace HBO:=O (hk.blk HBO.out id);replace HB2:=O (hk.blk HB2.out id);replace HO:=O (hk.owns HO.out fun _ _=>id);replace HR:=O (HR.out.keep (aA.any hk) fun _ h=>.inl h);clear hk;have c1:w1.cell? ⟨b2,0,none⟩=some (.pointer (some ⟨c,0,none⟩)):=(cell_of_one HB2.out)
 go_wp2_with ((with_reducible show WL _ _);refine wpList_load_mid rfl 26 (.tmp 4) rfl b4 0 rfl pc _ (aD (HL.out.b 0)) aK rfl (szP9 hpc) ?_)
 clear c1;have HLW:=O HL.out.keep.size;refine((by rw[←HPC.out,←HPE.out];exact Fa HK.out pv t HT.out (by rw[HPE.out];exact HPT.out) 0:Calls _ _ _ w1 (gD w1 (t.blk 0 0)))).mono ?_;rintro e w2 ⟨v1,rfl,ho1,hk⟩;rw[show (256:Nat)=(t.blk 0 0).length from HBLEN.out.symm] at ho1;obtain⟨wa,wc,rfl,-,-⟩:=(Rd.of_owns ho1).form;have HU:=O (Rd.of_owns ho1);have HUO:Hid (lB w w2 (Value.slice wa (t.blk 0 0).length wc)):=O (fun i hi=>⟨Nat.le_trans HLW.out (aS ho1 hi),by obtain⟨cur,hc⟩:=aJ ho1 hi;exact⟨_,_,hc⟩⟩);rw[HBLEN.out] at HU HUO ⊢;clear ho1;replace HL:=O (HL.out.keeps hk);replace HPT:=O (HPT.out.keep hk fun _ _=>id);replace HK:=O (HK.out.keep0 hk);replace HBO:=O (hk.blk HBO.out id);replace HB2:=O (hk.blk HB2.out id);replace HO:=O (hk.owns HO.out fun _ _=>id);replace HR:=O (HR.out.keep (aA.any hk) fun _ h=>.inl h);clear hk;have c1:w2.cell? ⟨bo,0,none⟩=some (.slice va a.length vc):=(cell_of_one HBO.out)
 go_wp2_with ((with_reducible show WL _ _);refine bs1 79 27 (.tmp 27) (.slice wa 256 wc) (by kernel_rfl) (by kernel_rfl) Tryz.underlying79 rfl ?_)
 clear c1;intro b28 w3 hbs hk hb;replace HL:=O (HL.out.new (fun _ h=>h.elim) hbs hk hb);replace HPT:=O (HPT.out.keep hk fun _ _=>id);replace HK:=O (HK.out.keep0 hk);replace HBO:=O (hk.blk HBO.out id);replace HB2:=O (hk.blk HB2.out id);replace HO:=O (hk.owns HO.out fun _ _=>id);replace HR:=O (HR.out.keep (aA.any hk) fun _ h=>.inl h);replace HU:=O (HU.out.keep hk fun _ _=>id);replace HUO:=O (lB.keep HUO.out hk fun _ _=>id);clear hbs hk hb;have hrd_:Rd w3 1 (.slice (some ⟨b28,0,none⟩) 1 1) 1 [.slice wa 256 wc]:=cE (n:=1) (size:=1) (HL.out.b 0) rfl (by unfold maxLen;omega);have HRD_:=O hrd_;have HKE:=O HL.out.keep;clear hrd_
 go_wp2_with (first
  | (at_builtin;refine aH rfl (.tmp 26) (.tmp 28) 79 rfl N0 27 (.slice none 0 0) 1 24 Tryz.underlying79 sB rfl (by decide) (.slice va a.length vc) a.length vs rfl HO.out (.slice (some ⟨b28,0,none⟩) 1 1) 1 [.slice wa 256 wc] rfl HRD_.out (by intro u hu;rcases List.mem_singleton.1 hu with rfl;rfl) (by unfold maxLen;omega) (by omega) (by have:=HZ.out;have:=HKE.out.size;omega) ?_))
 intro v2 w4 ho5 hk5 hn5 hb5;obtain⟨g2,c2,rfl⟩:=ownsRow_succ ho5;have HO5:=O ho5;have HK5:=O hk5;have HB5:=O hb5;clear ho5 hk5 hn5 hb5 HRD_;have HBO8:=O (HK5.out.blk HBO.out (fun e=>by have:=aS HO.out e;have:=HZ.out;omega))
 go_wp2_with ((with_reducible show WL _ _);refine sta 79 (.tmp 2) (.tmp 29) bo 0 [.slice (some ⟨g2,0,none⟩) (a.length+1) c2] HBO8.out (by simp) (by kernel_rfl) (one9) ?_)
 intro w5 hk hb;replace hb:w5.heap[bo]?=some (.cells #[.slice (some ⟨g2,0,none⟩) (a.length+1) c2] 79 (0,0)):=hb;have HP:=O (gU.more (b:=t.blk 0 0) HZ.out HKE.out HB2.out HO.out HR.out (by rw[HBLEN.out];exact HU.out) HUO.out (fun i hi=>HJL.out i (.inr hi)) HO5.out HK5.out HB5.out hk hb);clear hk hb HL HK HPT HBO HB2 HO HR HU HUO HO5 HK5 HB5 HBO8;go_wp2_with fail;go_ret;exact HP.out
theorem Hd{S:Kor}{c:Nat}{B:Nat->Prop}{N0 bo b2:Nat}(a:List (List UInt8))(J:Nat->Prop)(w:World)(pv:Value)(p:Pt)(l:Nat)(hl:l≤3)(hl0:¬l=0)(hi:gU N0 bo b2 c a J w)(hp:bB w J pv p)(hP:a.length+4 ^ l≤1000):Calls Tryz.prog 61 #[.agg (aE pv p).toArray,.int .i64 (l:Int),.pointer (some ⟨bo,0,none⟩),.pointer (some ⟨b2,0,none⟩)] w (cF (gU N0 bo b2 c) w J (a++List.replicate (4 ^ l) zB)):=by
 have HV0:Hid (gU N0 bo b2 c a J w):=O hi;have HM4:Hid (∃m,4 ^ l=m):=O ⟨_,rfl⟩;obtain⟨m,hm⟩:=HM4.out;have HM:=O hm;have hl1:decide ((0:Int)<(l:Int))=true:=decide_eq_true (by omega);have hl2:(0:Int)<(l:Int):=by omega
 rw[hm] at hP ⊢;obtain⟨pc,HPC,hpc,HOP⟩:=nmPt hp.pt;rw[HPC.out];have HL:=O (Loc.nil aB aB w);clear hp hi hm HM4;go_enter Tryz.func61,Tryz.ntmps61
 go_wp2_with ((with_reducible show WL _ _);refine bxL HL 26 (.tmp 0) (pc.toArray) ?_)
 intro b4 w1 hk HL;replace HV0:=O ((qA N0 bo b2 c).keep _ _ _ _ HV0.out hk);clear hk;go_wp2_with fail;refine((by rw[←HM.out];exact GY w1 l hl:Calls _ _ _ w1 (aF w1 (.int .i64 (m:Int))))).mono ?_;rintro e w2 ⟨rfl,hk⟩;replace HL:=O (HL.out.keeps hk);replace HV0:=O ((qA N0 bo b2 c).keep _ _ _ _ HV0.out hk);clear hk;go_wp2_with fail;have HST:Hid (cF (gU N0 bo b2 c) w J (a++List.replicate 0 zB) (.returned (.int .i64 0)) w2):=O ⟨rfl,J,by rw[List.replicate_zero,List.append_nil];exact HV0.out,fun k h=>.inl h,HL.out.keep.any⟩;clear HL HV0
 go_loopw [13] (fun i wr=>∃k:Nat,k≤m/\i=.int .i64 (k:Int)/\Hid (cF (gU N0 bo b2 c) w J (a++List.replicate k zB) (.returned (.int .i64 0)) wr)) (fun i _=>m-(intOf i).toNat)
 case atStart=>exact⟨0,by omega,rfl,HST⟩
 case round =>
  obtain⟨k,hk,rfl,HVP⟩:=hrel
  by_cases hk8:k<m
  ·obtain⟨-,J2,hi2,hJ2,hkJ⟩:=HVP.out
   have HJL:=O (fun i=>(qA N0 bo b2 c).lt _ J2 wr i hi2);obtain⟨v,vs,hz,hbo,hb2,ho,hr,rfl⟩:=hi2;have hN:(a++List.replicate k zB).length=a.length+k:=by rw[List.length_append,List.length_replicate]
   have HN:=O hN;obtain⟨va,vc,rfl,-,-⟩:=(Rd.of_owns ho).form;have HZ:=O hz;have HBO:=O hbo;have HB2:=O hb2;have HO:=O ho;have HR:=O hr;have HJ2:=O hJ2;have HKJ:=O hkJ;have HL:=O (Loc.nil aB aB wr);have HNA:=O hN;rw[hN] at HBO HO HJL HR HJ2;have hk1:(k:Int)<(m:Int):=by omega
   have hk0:(0:Int)≤(k:Int):=by omega
   clear hz hbo hb2 ho hr hJ2 hkJ hN;go_wp2_with fail;have hkd:=(aA.refl aB wr).drew;refine wp_region_held (S:=fun _=>True) (by kernel_rfl) ?_;change wpAnyH _ _ _ _ _ _ _ _ wr.drew;generalize wr.drew=w4 at hkd ⊢;replace HL:=O (HL.out.keeps hkd);replace HBO:=O (hkd.blk HBO.out id);replace HB2:=O (hkd.blk HB2.out id);replace HO:=O (hkd.owns HO.out fun _ _=>id);replace HR:=O (HR.out.keep (aA.any hkd) fun _ h=>.inl h);clear hkd;refine fC (k:=0) (l:=1) rfl rfl (by kernel_rfl) ?_ ?_
   ·have c1:w4.cell? ⟨bo,0,none⟩=some (.slice va (a.length+k) vc):=cell_of_one HBO.out
    go_wp2_with fail;clear c1;refine⟨trivial,?_⟩;refine wA9 1 ?_;refine mkz (.const (.int .i64 256)) (.const (.int .i64 256)) ?_;intro b16 w5 hbs hk hb;replace HL:=O (HL.out.new (fun _ h=>h.elim) hbs hk hb);replace HBO:=O (hk.blk HBO.out id);replace HB2:=O (hk.blk HB2.out id);replace HO:=O (hk.owns HO.out fun _ _=>id);replace HR:=O (HR.out.keep (aA.any hk) fun _ h=>.inl h);clear hbs hk hb;refine wpList_nil ?_;refine⟨trivial,?_⟩;refine wA9 2 ?_;refine bs1 79 27 (.tmp 16) (.slice (some ⟨b16,0,none⟩) 256 256) (by kernel_rfl) (by kernel_rfl) Tryz.underlying79 rfl ?_;intro b17 w6 hbs hk hb;replace HL:=O (HL.out.new (fun _ h=>h.elim) hbs hk hb);replace HBO:=O (hk.blk HBO.out id);replace HB2:=O (hk.blk HB2.out id);replace HO:=O (hk.owns HO.out fun _ _=>id);replace HR:=O (HR.out.keep (aA.any hk) fun _ h=>.inl h);clear hbs hk hb;refine wpList_nil ?_;refine⟨trivial,?_⟩;refine wA9 3 ?_;have HRD_:Hid (Rd w6 1 (.slice (some ⟨b17,0,none⟩) 1 1) 1 [.slice (some ⟨b16,0,none⟩) 256 256]):=O (cE (n:=1) (size:=1) (HL.out.b 0) rfl (by unfold maxLen;omega));have HKE:=O HL.out.keep;refine aH rfl (.tmp 15) (.tmp 17) 79 rfl N0 27 (.slice none 0 0) 1 24 Tryz.underlying79 sB rfl (by decide) (.slice va (a.length+k) vc) (a.length+k) vs rfl HO.out (.slice (some ⟨b17,0,none⟩) 1 1) 1 [.slice (some ⟨b16,0,none⟩) 256 256] rfl HRD_.out (by intro u hu;rcases List.mem_singleton.1 hu with rfl;rfl) (by unfold maxLen;omega) (by omega) (by have:=HZ.out;have:=HKE.out.size;omega) ?_;intro v2 w7 ho5 hk5 hn5 hb5;obtain⟨g2,c2,rfl,-,-⟩:=(Rd.of_owns ho5).form;have HO5:=O ho5;have HK5:=O hk5;have HB5:=O hb5;clear ho5 hk5 hn5 hb5 HRD_;have HBO8:=O (HK5.out.blk HBO.out (fun e=>by have:=aS HO.out e;have:=HZ.out;omega));refine wpList_nil ?_;refine⟨trivial,?_⟩;refine wA9 4 ?_;refine sta 79 (.tmp 2) (.tmp 18) bo 0 [.slice g2 (a.length+k+1) c2] HBO8.out (by simp) (by kernel_rfl) (one9) ?_;intro w8 hk hb;replace hb:w8.heap[bo]?=some (.cells #[.slice g2 (a.length+k+1) c2] 79 (0,0)):=hb;refine wpList_nil ?_;refine⟨trivial,?_⟩;refine wpAnyH_done (by kernel_rfl) ?_ _;have HUR:Hid (Rd w6 1 (.slice (some ⟨b16,0,none⟩) 256 256) zB.length (zB.map vb)):=O (cE (n:=256) (size:=1) (HL.out.b 1) rfl (by unfold maxLen;omega))
    have HUO:Hid (∀i,(.slice (some ⟨b16,0,none⟩) 256 256:Value).ownBlock=some i->wr.heap.size≤i/\IsC w6 i):=O fun i hi=>by
     have e:b16=i:=by injection hi
     subst e;exact⟨(HL.out.lt 1).1,_,_,HL.out.b 1⟩
    have HNX:Hid (cF (gU N0 bo b2 c) w J (a++List.replicate (k+1) zB) (.returned (.int .i64 0)) w8):=O (by
     rw[List.replicate_succ',←List.append_assoc];refine cF.trans (gU.more (b:=zB) HZ.out HKE.out HB2.out (by rw[HNA.out];exact HO.out) HR.out HUR.out HUO.out (fun i hi=>HJL.out i (.inr hi)) (by rw[HNA.out];exact HO5.out) HK5.out HB5.out hk hb) HJ2.out HKJ.out)
    clear hk hb HL HBO HB2 HO HR HO5 HK5 HB5 HBO8 HUR HUO HJ2 HKJ HKE;go_wp2_with fail
    go_roundw
    case rel=>exact⟨k+1,by omega,by go_num,HNX⟩
    case measure=>simp[intOf];omega
   ·refine mkz (.const (.int .i64 256)) (.const (.int .i64 256)) ?_
    intro b16 w5 hbs hk hb;replace HL:=O (HL.out.new (fun _ h=>h.elim) hbs hk hb);replace HBO:=O (hk.blk HBO.out id);replace HB2:=O (hk.blk HB2.out id);replace HO:=O (hk.owns HO.out fun _ _=>id);replace HR:=O (HR.out.keep (aA.any hk) fun _ h=>.inl h);clear hbs hk hb;refine wpList_nil ?_;refine⟨trivial,?_⟩;refine fC (k:=0) (l:=2) rfl rfl (by kernel_rfl) ?_ ?_
    ·have c1:w5.cell? ⟨bo,0,none⟩=some (.slice va (a.length+k) vc):=cell_of_one HBO.out
     go_wp2_with fail;clear c1;refine⟨trivial,?_⟩;refine wA9 2 ?_;refine bs1 79 27 (.tmp 16) (.slice (some ⟨b16,0,none⟩) 256 256) (by kernel_rfl) (by kernel_rfl) Tryz.underlying79 rfl ?_;intro b17 w6 hbs hk hb;replace HL:=O (HL.out.new (fun _ h=>h.elim) hbs hk hb);replace HBO:=O (hk.blk HBO.out id);replace HB2:=O (hk.blk HB2.out id);replace HO:=O (hk.owns HO.out fun _ _=>id);replace HR:=O (HR.out.keep (aA.any hk) fun _ h=>.inl h);clear hbs hk hb;refine wpList_nil ?_;refine⟨trivial,?_⟩;refine wA9 3 ?_;have HRD_:Hid (Rd w6 1 (.slice (some ⟨b17,0,none⟩) 1 1) 1 [.slice (some ⟨b16,0,none⟩) 256 256]):=O (cE (n:=1) (size:=1) (HL.out.b 0) rfl (by unfold maxLen;omega));have HKE:=O HL.out.keep;refine aH rfl (.tmp 15) (.tmp 17) 79 rfl N0 27 (.slice none 0 0) 1 24 Tryz.underlying79 sB rfl (by decide) (.slice va (a.length+k) vc) (a.length+k) vs rfl HO.out (.slice (some ⟨b17,0,none⟩) 1 1) 1 [.slice (some ⟨b16,0,none⟩) 256 256] rfl HRD_.out (by intro u hu;rcases List.mem_singleton.1 hu with rfl;rfl) (by unfold maxLen;omega) (by omega) (by have:=HZ.out;have:=HKE.out.size;omega) ?_;intro v2 w7 ho5 hk5 hn5 hb5;obtain⟨g2,c2,rfl,-,-⟩:=(Rd.of_owns ho5).form;have HO5:=O ho5;have HK5:=O hk5;have HB5:=O hb5;clear ho5 hk5 hn5 hb5 HRD_;have HBO8:=O (HK5.out.blk HBO.out (fun e=>by have:=aS HO.out e;have:=HZ.out;omega));refine wpList_nil ?_;refine⟨trivial,?_⟩;refine wA9 4 ?_;refine sta 79 (.tmp 2) (.tmp 18) bo 0 [.slice g2 (a.length+k+1) c2] HBO8.out (by simp) (by kernel_rfl) (one9) ?_;intro w8 hk hb;replace hb:w8.heap[bo]?=some (.cells #[.slice g2 (a.length+k+1) c2] 79 (0,0)):=hb;refine wpList_nil ?_;refine⟨trivial,?_⟩;refine wpAnyH_done (by kernel_rfl) ?_ _;have HUR:Hid (Rd w6 1 (.slice (some ⟨b16,0,none⟩) 256 256) zB.length (zB.map vb)):=O (cE (n:=256) (size:=1) (HL.out.b 1) rfl (by unfold maxLen;omega))
     have HUO:Hid (∀i,(.slice (some ⟨b16,0,none⟩) 256 256:Value).ownBlock=some i->wr.heap.size≤i/\IsC w6 i):=O fun i hi=>by
      have e:b16=i:=by injection hi
      subst e;exact⟨(HL.out.lt 1).1,_,_,HL.out.b 1⟩
     have HNX:Hid (cF (gU N0 bo b2 c) w J (a++List.replicate (k+1) zB) (.returned (.int .i64 0)) w8):=O (by
      rw[List.replicate_succ',←List.append_assoc];refine cF.trans (gU.more (b:=zB) HZ.out HKE.out HB2.out (by rw[HNA.out];exact HO.out) HR.out HUR.out HUO.out (fun i hi=>HJL.out i (.inr hi)) (by rw[HNA.out];exact HO5.out) HK5.out HB5.out hk hb) HJ2.out HKJ.out)
     clear hk hb HL HBO HB2 HO HR HO5 HK5 HB5 HBO8 HUR HUO HJ2 HKJ HKE;go_wp2_with fail
     go_roundw
     case rel=>exact⟨k+1,by omega,by go_num,HNX⟩
     case measure=>simp[intOf];omega
    ·refine bs1 79 27 (.tmp 16) (.slice (some ⟨b16,0,none⟩) 256 256) (by kernel_rfl) (by kernel_rfl) Tryz.underlying79 rfl ?_
     intro b17 w6 hbs hk hb;replace HL:=O (HL.out.new (fun _ h=>h.elim) hbs hk hb);replace HBO:=O (hk.blk HBO.out id);replace HB2:=O (hk.blk HB2.out id);replace HO:=O (hk.owns HO.out fun _ _=>id);replace HR:=O (HR.out.keep (aA.any hk) fun _ h=>.inl h);clear hbs hk hb;refine wpList_nil ?_;refine⟨trivial,?_⟩;refine wA9 0 ?_;have c1:w6.cell? ⟨bo,0,none⟩=some (.slice va (a.length+k) vc):=cell_of_one HBO.out;go_wp2_with fail;clear c1;refine⟨trivial,?_⟩;refine wA9 3 ?_;have HRD_:Hid (Rd w6 1 (.slice (some ⟨b17,0,none⟩) 1 1) 1 [.slice (some ⟨b16,0,none⟩) 256 256]):=O (cE (n:=1) (size:=1) (HL.out.b 0) rfl (by unfold maxLen;omega));have HKE:=O HL.out.keep;refine aH rfl (.tmp 15) (.tmp 17) 79 rfl N0 27 (.slice none 0 0) 1 24 Tryz.underlying79 sB rfl (by decide) (.slice va (a.length+k) vc) (a.length+k) vs rfl HO.out (.slice (some ⟨b17,0,none⟩) 1 1) 1 [.slice (some ⟨b16,0,none⟩) 256 256] rfl HRD_.out (by intro u hu;rcases List.mem_singleton.1 hu with rfl;rfl) (by unfold maxLen;omega) (by omega) (by have:=HZ.out;have:=HKE.out.size;omega) ?_;intro v2 w7 ho5 hk5 hn5 hb5;obtain⟨g2,c2,rfl,-,-⟩:=(Rd.of_owns ho5).form;have HO5:=O ho5;have HK5:=O hk5;have HB5:=O hb5;clear ho5 hk5 hn5 hb5 HRD_;have HBO8:=O (HK5.out.blk HBO.out (fun e=>by have:=aS HO.out e;have:=HZ.out;omega));refine wpList_nil ?_;refine⟨trivial,?_⟩;refine wA9 4 ?_;refine sta 79 (.tmp 2) (.tmp 18) bo 0 [.slice g2 (a.length+k+1) c2] HBO8.out (by simp) (by kernel_rfl) (one9) ?_;intro w8 hk hb;replace hb:w8.heap[bo]?=some (.cells #[.slice g2 (a.length+k+1) c2] 79 (0,0)):=hb;refine wpList_nil ?_;refine⟨trivial,?_⟩;refine wpAnyH_done (by kernel_rfl) ?_ _;have HUR:Hid (Rd w6 1 (.slice (some ⟨b16,0,none⟩) 256 256) zB.length (zB.map vb)):=O (cE (n:=256) (size:=1) (HL.out.b 1) rfl (by unfold maxLen;omega))
     have HUO:Hid (∀i,(.slice (some ⟨b16,0,none⟩) 256 256:Value).ownBlock=some i->wr.heap.size≤i/\IsC w6 i):=O fun i hi=>by
      have e:b16=i:=by injection hi
      subst e;exact⟨(HL.out.lt 1).1,_,_,HL.out.b 1⟩
     have HNX:Hid (cF (gU N0 bo b2 c) w J (a++List.replicate (k+1) zB) (.returned (.int .i64 0)) w8):=O (by
      rw[List.replicate_succ',←List.append_assoc];refine cF.trans (gU.more (b:=zB) HZ.out HKE.out HB2.out (by rw[HNA.out];exact HO.out) HR.out HUR.out HUO.out (fun i hi=>HJL.out i (.inr hi)) (by rw[HNA.out];exact HO5.out) HK5.out HB5.out hk hb) HJ2.out HKJ.out)
     clear hk hb HL HBO HB2 HO HR HO5 HK5 HB5 HBO8 HUR HUO HJ2 HKJ HKE;go_wp2_with fail
     go_roundw
     case rel=>exact⟨k+1,by omega,by go_num,HNX⟩
     case measure=>simp[intOf];omega
  ·obtain rfl:k=m:=by omega
   have hk1:¬(k:Int)<(k:Int):=by omega
   go_wp2_with fail;go_ret;exact HVP.out
theorem Jw(S:Kor)(c:Nat)(B:Nat->Prop)(N0 bo b2:Nat):Fb (gU N0 bo b2 c) lC (fun a=>a.length≤1000) S c B 61 #[.pointer (some ⟨bo,0,none⟩),.pointer (some ⟨b2,0,none⟩)]:=by
 intro a J w pv t l hi hK hBJ hl h0 ht hp hP;have hP2:(lC a t l).length≤1000:=hP;unfold lC at hP2 ⊢;rw[List.length_append,ht.blocks_len] at hP2
 by_cases e:l=0
 ·subst e
  have hb:t.blocks 0=[t.blk 0 0]:=by rw[ht.blocks_eq];rfl
  rw[hb];exact Hc a J w pv t hi hK ht hp (by omega)
 ·have et:=gL (h0.resolve_left e)
  subst et;rw[show Tr.blocks l .hole=List.replicate (4 ^ l) zB from by cases l<;>rfl];exact Hd (S:=S) (B:=B) a J w pv _ l hl e hi hp hP2
theorem gT.weak{N0 N1:Nat}{w:World}{J J':Nat->Prop}{vs:List Value}{R:List (List UInt8)}(h:gT N0 w J vs R)(hN:N1≤N0)(hJ:∀i,J' i->J i):gT N1 w J' vs R:=
 ⟨h.1,fun j b hj=>(h.2 j b hj).imp fun u hu=>⟨hu.1,hu.2.1,fun i hi=>⟨Nat.le_trans hN (hu.2.2 i hi).1,fun e=>(hu.2.2 i hi).2.1 (hJ i e),(hu.2.2 i hi).2.2⟩⟩⟩
def vR(w:World)(t:Tr)(e:Ending)(w':World):Prop:=
 ∃v vs,e=.returned (.tuple #[v,.int .i64 0])/\w'.ownsRow w.heap.size 27 1 v (t.blocks 3).length vs/\gT w.heap.size w' (fun i=>v.ownBlock=some i) vs (t.blocks 3)/\aA aB w w'
theorem Jy{w:World}{c:Nat}{S:Kor}{B:Nat->Prop}(hK:KI w c S B)(pv:Value)(t:Tr)(ht:Tr.Ok S 3 t)(hp:bB w B pv t.ptr):Calls Tryz.prog 30 #[.pointer (some ⟨c,0,none⟩),.agg (aE pv t.ptr).toArray] w (vR w t):=by
 have HT:=O ht;have HPT:=O hp;have HK:=O hK;have HBLT:=O (fun i (e:B i)=>hK.lt e);obtain⟨p,hpe⟩:∃p,t.ptr=p:=⟨_,rfl⟩
 have HPE:=O hpe;rw[hpe] at HPT hp ⊢;obtain⟨pc,HPC,hpc,HOP⟩:=nmPt hp.pt;rw[HPC.out];have HL:=O (Loc.nil aB aB w);clear hp ht hK hpe;have HPT0:=HPT;have HK0:=HK;go_enter Tryz.func30,Tryz.ntmps30
 go_wp2_with ((with_reducible show WL _ _);refine bxL HL 36 (.tmp 0) (#[.pointer (some ⟨c,0,none⟩)]) ?_)
 intro b2 w1 hk HL;replace HPT:=O (bB.keep0 HPT.out hk);replace HK:=O (HK.out.keep0 hk);clear hk
 go_wp2_with ((with_reducible show WL _ _);refine bxL HL 26 (.tmp 1) (pc.toArray) ?_)
 intro b3 w2 hk HL;replace HPT:=O (bB.keep0 HPT.out hk);replace HK:=O (HK.out.keep0 hk);clear hk;have c1:w2.cell? ⟨b2,0,none⟩=some (.pointer (some ⟨c,0,none⟩)):=(aC (i:=0) (HL.out.b 1) rfl)
 go_wp2_with ((with_reducible show WL _ _);refine wpList_load_mid rfl 26 (.tmp 3) rfl b3 0 rfl pc _ (aD (HL.out.b 0)) aK rfl (szP9 hpc) ?_)
 clear c1;refine((by rw[←HPC.out];exact E6 HK.out pv p HPT.out.pt (by rw[←HPE.out];exact HT.out.root):Calls _ _ _ w2 (aF w2 (.int .i64 0)))).mono ?_;rintro e w3 ⟨rfl,hk⟩;replace HL:=O (HL.out.keeps hk);replace HPT:=O (bB.keep0 HPT.out hk);replace HK:=O (HK.out.keep0 hk);clear hk
 go_wp2_with ((with_reducible show WL _ _);refine alL HL 79 (.slice none 0 0) (#[.slice none 0 0]) LT ?_)
 intro b7 w4 hk HL;replace HPT:=O (bB.keep0 HPT.out hk);replace HK:=O (HK.out.keep0 hk);clear hk;have HB7:=O (HL.out.b 0);have HG7:=O (HL.out.lt 0);have HB2:=O (HL.out.b 2);have HG2:=O (HL.out.lt 2);have HKW:=O HL.out.keep;have HN27:Hid (b2≠b7):=O (fun e=>cW (i:=0) HL.out.nd rfl 2 (by decide) rfl e);have HOFF:Hid (∀i,pv.ownBlock=some i->i<w.heap.size):=O (fun i hi=>(HPT0.out.off i hi).2.lt);have c1:w4.cell? ⟨b2,0,none⟩=some (.pointer (some ⟨c,0,none⟩)):=(aC (i:=0) (HL.out.b 2) rfl)
 go_wp2_with ((with_reducible show WL _ _);refine wpList_load_mid rfl 26 (.tmp 3) rfl b3 0 rfl pc _ (aD (HL.out.b 1)) aK rfl (szP9 hpc) ?_)
 clear c1
 have hbj:∀i,B i->¬(i=b7\/(Value.slice none 0 0).ownBlock=some i):=fun i e e2=>by
  have:=HBLT.out i e;have:=HG7.out.1;rcases e2 with e2|e2
  ·omega
  ·cases e2
 have hpj:bB w4 (fun i=>i=b7\/(Value.slice none 0 0).ownBlock=some i) pv t.ptr:=by
  refine⟨by rw[HPE.out];exact HPT.out.pt,fun i hi=>⟨fun e=>?_,(HPT.out.off i hi).2⟩⟩;have:=HOFF.out i hi;have:=HG7.out.1;rcases e with e|e
  ·omega
  ·cases e
 have HC:=(Fc (qA w4.heap.size b7 b2 c) (Jv 1000) (enters_of Tryz.func61 (by kernel_rfl) rfl) (Jw S c B w4.heap.size b7 b2) [] (fun i=>i=b7\/(Value.slice none 0 0).ownBlock=some i) w4 pv t ⟨.slice none 0 0,[],⟨HG7.out.2,HG2.out.2,HN27.out,Nat.le_refl _⟩,HB7.out,HB2.out,World.ownsRow_nil _ _ _ _,gT.nil _ _ _,rfl⟩ HK.out hbj HT.out hpj (by show (eR lC 3 [] t).length≤1000;rw[jT 3 [] t HT.out,List.nil_append,HT.out.blocks_len];decide):Calls _ _ _ w4 (cF (gU w4.heap.size b7 b2 c) w4 (fun i=>i=b7\/(Value.slice none 0 0).ownBlock=some i) (eR lC 3 [] t)))
 clear hbj hpj;rw[HPE.out,HPC.out,jT 3 [] t HT.out,List.nil_append] at HC;refine HC.mono ?_;rintro e w9 ⟨rfl,J',⟨v,vs,-,hb,-,ho,hr,rfl⟩,-,hk⟩;obtain⟨va,vc,rfl,-,-⟩:=(Rd.of_owns ho).form;have c1:=cell_of_one hb
 have HKX:Hid (aA aB w w9):=O (HKW.out.trans' hk (fun _ _ h=>h) (fun i hi e=>by
  have:=HG7.out.1;rcases e with e|e
  ·omega
  ·cases e))
 have HP:Hid (vR w t (.returned (.tuple #[.slice va (t.blocks 3).length vc,.int .i64 0])) w9):=O ⟨_,vs,rfl,aP ho HKW.out.size,hr.weak HKW.out.size (fun i h=>.inr h),HKX.out⟩;clear hb hk HC HL HPT HK HB7 HB2 ho hr HKX;go_wp2_with fail
 go_ret2
 exact HP.out
end
end Go.Proofs.YtjkbekifgobeaaaGreatDoor
