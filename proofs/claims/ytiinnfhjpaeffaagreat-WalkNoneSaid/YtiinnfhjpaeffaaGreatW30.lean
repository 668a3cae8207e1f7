import Derived.Test.YtiinnfhjpaeffaaGreatW1
import Derived.Test.YtiinnfhjpaeffaaGreatW29
namespace Go.Proofs.YtiinnfhjpaeffaaGreat
set_option maxHeartbeats 64000000
set_option maxRecDepth 100000
set_option linter.unusedVariables false
section
open Go.RowKit Go.Maps Go.ChangeMaps
theorem Tr.Ok.may3{S:Kor}{t:Tr}(h:Tr.Ok S 3 t):t.ptr.may=true:=by
 cases t with
 | hole=>exact jI iI
 | leaf p b=>exact h.elim
 | node p k=>exact h.1.may
theorem qM{P:Program}{ops:Array Oper}{S:World->Prop}{op:Oper}{a:Act}{v:Value}(hw:Region.wanted op (yielded ops a.tmps)=true)(t:TypeId)(ho:op.op=.build t #[])(h:∀w,(Instr.build t #[]).run P w=.ok v w):YieldsIf P ops S op v a:=
 .inl ⟨hw,fun w _=>by
  unfold execOp;simp only[ho,Sem.run_bind,Sem.run_pure];rw[show (#[]:Array (Nat×Operand)).map (fun p=>(p.1,a.eval p.2))=#[] by simp,h w];rfl⟩
theorem zK:∀u∈aH,u.oneCell'=true:=cS zPt
theorem Jc{w:World}{c:Nat}{S:Kor}{B:Nat->Prop}(hK:KI w c S B)(pv:Value)(t:Tr)(ht:Tr.Ok S 3 t)(hp:bA w B pv t.ptr)(n:Nat)(hn:n<64)(vv:Value)(bs:List UInt8)(hbl:bs.length=256)(hr:Rd w 1 vv 256 (bs.map vb))(hvb:∀i,vv.ownBlock=some i->¬B i/\i<w.heap.size)(he:t.blk 3 n=bs):Calls Tryz.prog 46 #[.pointer (some ⟨c,0,none⟩),.agg (aE pv t.ptr).toArray,.int .i64 (n:Int),vv] w (cK w c B (.slice none 0 0) (some t) S):=by
 have HBS0:Hid ((aW n t 3).blk 0 n=bs):=O (by rw[←Do ht];exact he);have HO3:=O (iR (n:=n) ht 3 (by omega));have HT:=O ht;have HN:=O hn;have HBL:=O hbl;have HVB:=O hvb;have HPT:=O hp;have HK:=O hK;have HVV:=O hr;have HBLT:=O (fun i (e:B i)=>hK.lt e);have HOP0:=O (fun i (hi:pv.ownBlock=some i)=>(hp.off i hi).2.lt);have HADL:=O (by have:=(iC (Tr.Ok.may3 ht)).1;omega:t.ptr.addrs.length≤65536);obtain⟨va,vc,hve,-,-⟩:=hr.form;have HVE:=O hve;rw[hve] at HVV HVB ⊢;have hn0:¬((n:Int)<0):=by omega
 have hn1:¬((64:Int)≤(n:Int)):=by omega
 obtain⟨p,hpe⟩:∃p,t.ptr=p:=⟨_,rfl⟩
 have HPE:=O hpe;rw[hpe] at HPT hp HADL ⊢;obtain⟨pc,HPC,hpc,HOP⟩:=nmPt hp.pt;rw[HPC.out];have HL:=lN w;clear he hp ht hK hpe hr hvb hbl hve;have HPT0:=HPT;have HK0:=HK;have HVV0:=HVV;go_in
 go_wp2_with ((with_reducible show WL _ _);refine bxL HL 39 (.tmp 0) (#[.pointer (some ⟨c,0,none⟩)]) ?_)
 intro b4 w1 hk HL;replace HPT:=pK HPT hk;replace HK:=O (HK.out.keep0 hk);replace HVV:=O (HVV.out.keep hk fun _ _=>id);clear hk
 go_wp2_with ((with_reducible show WL _ _);refine bxL HL 27 (.tmp 1) (pc.toArray) ?_)
 intro b5 w2 hk HL;replace HPT:=pK HPT hk;replace HK:=O (HK.out.keep0 hk);replace HVV:=O (HVV.out.keep hk fun _ _=>id);clear hk
 go_wp2_with ((with_reducible show WL _ _);refine alL HL 27 (.agg aH.toArray) (aH.toArray) bG ?_)
 intro b8 w3 hk HL;replace HPT:=pK HPT hk;replace HK:=O (HK.out.keep0 hk);replace HVV:=O (HVV.out.keep hk fun _ _=>id);clear hk
 go_wp2_with ((with_reducible show WL _ _);refine alL HL 49 (.int .i64 0) (#[.int .i64 0]) jZ ?_)
 intro b9 w4 hk HL;replace HPT:=pK HPT hk;replace HK:=O (HK.out.keep0 hk);replace HVV:=O (HVV.out.keep hk fun _ _=>id);clear hk;have c1:w4.cell? ⟨b4,0,none⟩=some (.pointer (some ⟨c,0,none⟩)):=(aC (i:=0) (HL.out.b 3) rfl)
 go_wp2_with ((with_reducible show WL _ _);refine wpList_load_mid rfl 27 (.tmp 5) rfl b5 0 rfl pc _ (aD (HL.out.b 2)) aF rfl (szP9 hpc) ?_)
 clear c1;refine((by rw[←HPC.out];exact zC HK.out pv p HPT.out.pt (by rw[←HPE.out];exact HT.out.root):Calls _ _ _ w4 (aK w4 (.int .i64 0)))).mono ?_;rintro e w5 ⟨rfl,hk⟩;replace HL:=kL HL hk;replace HPT:=pK HPT hk;replace HK:=O (HK.out.keep0 hk);replace HVV:=O (HVV.out.keep hk fun _ _=>id);clear hk
 go_wp2_with ((with_reducible show WL _ _);refine al 49 (.int .i64 0) (#[.int .i64 0]) jZ ?_)
 intro b10 w6 hbs hk0 hb0_
 go_wp2_with ((with_reducible show WL _ _);refine sta 49 (.tmp 10) (.tmp 18) b10 0 ([.int .i64 0]) hb0_ (by first|decide|(rw[List.size_toArray,rfl];exact Nat.le_refl _)|simp[]) (by kernel_rfl) (one9) ?_)
 intro w7 hk hb;replace hb:w7.heap[b10]?=some (.cells #[.int .i64 0] 49 (0,0)):=hb;replace hk:=tX hk0 hk (fun i hi e=>by omega);replace HL:=lW HL hbs hk hb;replace HPT:=pK HPT hk;replace HK:=O (HK.out.keep0 hk);replace HVV:=O (HVV.out.keep hk fun _ _=>id);clear hbs hk hb hk0 hb0_;have c1:w7.cell? ⟨b10,0,none⟩=some (.int .i64 0):=(aC (i:=0) (HL.out.b 0) rfl)
 have c2:w7.cell? ⟨b4,0,none⟩=some (.pointer (some ⟨c,0,none⟩)):=(aC (i:=0) (HL.out.b 4) rfl)
 go_wp2_with ((with_reducible show WL _ _);refine wpList_load_mid rfl 27 (.tmp 5) rfl b5 0 rfl pc _ (aD (HL.out.b 3)) aF rfl (szP9 hpc) ?_)
 clear c1 c2;have HWB:=O HL.out.keep.size;have HB10L:=O (HL.out.lt 0);have HB9L:=O (HL.out.lt 1);have HB8L:=O (HL.out.lt 2);refine((by rw[←HPC.out,←HPE.out];exact Dp HK.out pv t HT.out (by rw[HPE.out];exact HPT.out) n HN.out false:Calls _ _ _ w7 (AB w7 B pv n t false))).mono ?_;rintro e w8 ⟨sv,pvf,k,pvs,vss,M,rfl,hk3,hM,hwr,hwp,hk⟩;obtain rfl:=hk3 rfl;obtain⟨sa,scap,hsv,hs3,-⟩:=(Rd.of_owns hwr.row).form;subst hsv;have HWR:=O hwr;have HWP:=O hwp;have HM:=O hM;have HS3:=O hs3;obtain⟨qc,HQC,hqc,HOQ⟩:=nmPt hwp.val.pt;rw[HQC.out];clear hwp hM hwr hs3;replace HL:=kL HL hk;replace HPT:=pK HPT hk;replace HK:=O (HK.out.keep0 hk);replace HVV:=O (HVV.out.keep hk fun _ _=>id);clear hk
 go_wp2_with ((with_reducible show WL _ _);refine al 27 (.agg aH.toArray) (aH.toArray) bG ?_)
 intro b12 w9 hbs hk0 hb0_
 go_wp2_with ((with_reducible show WL _ _);refine sta 27 (.tmp 12) (.tmp 43) b12 0 qc hb0_ (by first|decide|(rw[List.size_toArray,hqc];exact Nat.le_refl _)|simp[hqc,aG]) (szP9 hqc) HOQ.out ?_)
 intro wa hk hb;rw[aI _ _ (by first|rfl|(rw[List.size_toArray,hqc];rfl)|simp[hqc,aG])] at hb;replace hk:=tX hk0 hk (fun i hi e=>by omega);replace HL:=lW HL hbs hk hb;replace HPT:=pK HPT hk;replace HK:=O (HK.out.keep0 hk);replace HVV:=O (HVV.out.keep hk fun _ _=>id);replace HWR:=O (cG.keep0 HWR.out hk);replace HWP:=O (eO.keep0 HWP.out hk);clear hbs hk hb hk0 hb0_
 go_wp2_with ((with_reducible show WL _ _);refine sta 49 (.tmp 10) (.tmp 44) b10 0 ([.int .i64 0]) (HL.out.b 1) (by simp) (by kernel_rfl) (one9) ?_)
 intro wb hk hb;replace hb:wb.heap[b10]?=some (.cells #[.int .i64 0] 49 (0,0)):=hb;replace HL:=O (HL.out.set 1 hk hb);replace HPT:=O (bA.keep0 HPT0.out HL.out.keep);replace HK:=O (HK0.out.keep0 HL.out.keep);replace HVV:=O (HVV0.out.keep HL.out.keep fun _ _=>id);replace HWR:=O (cG.keepT HWR.out hk (fun i hi e=>by have:=aS HWR.out.row hi;have:=HB10L.out;omega) (fun i hi e=>by have:=HOP0.out i hi;have:=HB10L.out;omega) (fun i hi e=>by have:=HM.out;have:=HB10L.out;omega));replace HWP:=O (eO.keepT HWP.out hk (fun i hi e=>by have:=HOP0.out i hi;have:=HB10L.out;omega) (fun i hi e=>by have:=HM.out;have:=HB10L.out;omega));clear hk hb;have HB10W:=O (And.intro (HL.out.lt 0) (HL.out.lt 1));have c1:wb.cell? ⟨b10,0,none⟩=some (.int .i64 0):=(aC (i:=0) (HL.out.b 1) rfl)
 have c2:wb.cell? ⟨b4,0,none⟩=some (.pointer (some ⟨c,0,none⟩)):=(aC (i:=0) (HL.out.b 5) rfl)
 go_wp2_with ((with_reducible show WL _ _);refine wpList_load_mid rfl 27 (.tmp 12) rfl b12 0 rfl qc _ (aD (HL.out.b 0)) aF rfl (szP9 hqc) ?_)
 clear c1 c2;have HBW:=O HL.out.keep.size;refine((by rw[←HQC.out];exact zE HK.out pvf (aW n t 3) HO3.out HWP.out.val.pt n:Calls _ _ _ wb (fK wb ((aW n t 3).blk 0 n)))).mono ?_;rintro e wc ⟨v1,rfl,ho,hk⟩;rw[HBS0.out] at ho;obtain⟨wa,wc,rfl,-,-⟩:=(Rd.of_owns ho).form;have HO:=O ho;have HOG:=O (fun i (hi:(Value.slice wa 256 wc).ownBlock=some i)=>aS ho hi);clear ho;replace HL:=kL HL hk;replace HPT:=pK HPT hk;replace HK:=O (HK.out.keep0 hk);replace HVV:=O (HVV.out.keep hk fun _ _=>id);replace HWR:=O (cG.keep0 HWR.out hk);replace HWP:=O (eO.keep0 HWP.out hk);clear hk
 go_wp2_with ((with_reducible show WL _ _);refine sta 49 (.tmp 10) (.tmp 54) b10 0 ([.int .i64 0]) (HL.out.b 1) (by simp) (by kernel_rfl) (one9) ?_)
 intro wd hk hb;replace hb:wd.heap[b10]?=some (.cells #[.int .i64 0] 49 (0,0)):=hb;replace HL:=O (HL.out.set 1 hk hb);replace HPT:=O (bA.keep0 HPT0.out HL.out.keep);replace HK:=O (HK0.out.keep0 HL.out.keep);replace HVV:=O (HVV0.out.keep HL.out.keep fun _ _=>id);replace HWR:=O (cG.keepT HWR.out hk (fun i hi e=>by have:=aS HWR.out.row hi;have:=HB10L.out;omega) (fun i hi e=>by have:=HOP0.out i hi;have:=HB10L.out;omega) (fun i hi e=>by have:=HM.out;have:=HB10L.out;omega));replace HWP:=O (eO.keepT HWP.out hk (fun i hi e=>by have:=HOP0.out i hi;have:=HB10L.out;omega) (fun i hi e=>by have:=HM.out;have:=HB10L.out;omega));replace HO:=O (hk.owns HO.out fun i hi e=>by have:=HOG.out i hi;have:=HB10L.out;have:=HBW.out;have:=HB10W.out;omega);clear hk hb;have c1:wd.cell? ⟨b10,0,none⟩=some (.int .i64 0):=(aC (i:=0) (HL.out.b 1) rfl)
 go_wp2_with fail;clear c1;refine(mJ wd _ _ bs bs (by rw[HBL.out];exact Rd.of_owns HO.out) (by rw[HBL.out];exact HVV.out) true (decide_eq_true rfl)).mono ?_;rintro e we ⟨rfl,rfl⟩
 go_wp2_with ((with_reducible show WL _ _);refine wpList_load_mid rfl 27 (.tmp 5) rfl b5 0 rfl pc _ (aD (HL.out.b 4)) aF rfl (szP9 hpc) ?_)
 have HLS:=O HL.out.keep.size;have HLB:=O (And.intro (HL.out.lt 2).2 (HL.out.lt 3).2);refine((by rw[←HPC.out];exact Dn (fun i e=>HK.out.lt e) pv p HPT.out.pt HADL.out:Calls _ _ _ wd (vL wd B p))).mono ?_;rintro e wf ⟨ov,rfl,hov,hovn,hk⟩;have HOV:=O hov;have HOVN:=O hovn;have HON2:=O (hovn.from HLS.out);obtain⟨oc,HOCE,hoc,HOOC⟩:=nmPt hov.pt;rw[HOCE.out];clear hov hovn;replace HL:=kL HL hk;replace HPT:=pK HPT hk;replace HK:=O (HK.out.keep0 hk);replace HVV:=O (HVV.out.keep hk fun _ _=>id);replace HWR:=O (cG.keep0 HWR.out hk);replace HWP:=O (eO.keep0 HWP.out hk);replace HO:=O (hk.owns HO.out fun _ _=>id);clear hk;clear HPT HVV HWR HWP HO
 go_wp2_with ((with_reducible show WL _ _);refine sta 27 (.tmp 8) (.tmp 65) b8 0 oc (HL.out.b 3) (by first|decide|(rw[hoc];exact Nat.le_refl _)|simp[hoc,aG]) (szP9 hoc) HOOC.out ?_)
 intro wg hk hb;rw[aI _ _ (by first|rfl|simp[hoc,aG])] at hb;replace HL:=O (HL.out.set 3 hk hb);replace HK:=O (HK0.out.keep0 HL.out.keep);replace HOV:=O (bA.keepT HOV.out hk (fun i hi e=>by have:=HOVN.out i hi;have:=HLB.out;omega));clear hk hb
 go_wp2_with ((with_reducible show WL _ _);refine sta 49 (.tmp 9) (.const (.int .i64 0)) b9 0 ([.int .i64 0]) (HL.out.b 2) (by simp) (by kernel_rfl) (one9) ?_)
 intro wh hk hb;replace hb:wh.heap[b9]?=some (.cells #[.int .i64 0] 49 (0,0)):=hb;replace HL:=O (HL.out.set 2 hk hb);replace HK:=O (HK0.out.keep0 HL.out.keep);replace HOV:=O (bA.keepT HOV.out hk (fun i hi e=>by have:=HOVN.out i hi;have:=HLB.out;omega));clear hk hb;have HB8:=O (HL.out.b 3);have c9:wh.cell? ⟨b9,0,none⟩=some (.int .i64 0):=aC (i:=0) (HL.out.b 2) rfl;have HP:Hid (cK w c B (.slice none 0 0) (some t) S (.returned (.tuple #[.agg oc.toArray,.int .i64 0])) wh):=O ⟨ov,B,by rw[←HOCE.out,←HPE.out];rfl,by show bA _ B ov t.ptr;rw[HPE.out];exact HOV.out,HK.out,fun _ h=>.inl h,Cl.refl _ _ _ HL.out.keep,.inr HON2.out,HL.out.keep.any⟩;clear HL HK HOV;go_wp2_with fail;refine bodyPost_ret (eY rfl _ _ b8 _ _ _ _ rfl HB8.out aF rfl (by rw[List.size_toArray,hoc];exact dF) ⟨b9,0,none⟩ (.int .i64 0) rfl (by go_simp)) rfl ?_;exact HP.out
theorem Jd{w:World}{c:Nat}{S:Kor}{B:Nat->Prop}(hK:KI w c S B)(pv:Value)(t:Tr)(ht:Tr.Ok S 3 t)(hp:bA w B pv t.ptr)(n:Nat)(hn:n<64)(vv:Value)(bs:List UInt8)(hbl:bs.length=256)(hr:Rd w 1 vv 256 (bs.map vb))(hvb:∀i,vv.ownBlock=some i->¬B i/\i<w.heap.size)(he:¬t.blk 3 n=bs):Calls Tryz.prog 46 #[.pointer (some ⟨c,0,none⟩),.agg (aE pv t.ptr).toArray,.int .i64 (n:Int),vv] w (cK w c B (.slice none 0 0) (eG 3 S t n bs).1 (eG 3 S t n bs).2):=by
 have HBS0:Hid ((aW n t 3).blk 0 n=t.blk 3 n):=O (Do ht).symm;have HO3:=O (iR (n:=n) ht 3 (by omega));have HNE:=O he;have HBD:=O hK.bd;have HBL0:Hid ((t.blk 3 n).length=256):=O (Tr.Ok.blk_len ht n);have HT:=O ht;have HN:=O hn;have HBL:=O hbl;have HVB:=O hvb;have HPT:=O hp;have HK:=O hK;have HVV:=O hr;have HBLT:=O (fun i (e:B i)=>hK.lt e);have HOP0:=O (fun i (hi:pv.ownBlock=some i)=>(hp.off i hi).2.lt);have HADL:=O (by have:=(iC (Tr.Ok.may3 ht)).1;omega:t.ptr.addrs.length≤65536);obtain⟨va,vc,hve,-,-⟩:=hr.form;have HVE:=O hve;rw[hve] at HVV HVB ⊢;have hn0:¬((n:Int)<0):=by omega
 have hn1:¬((64:Int)≤(n:Int)):=by omega
 obtain⟨p,hpe⟩:∃p,t.ptr=p:=⟨_,rfl⟩
 have HPE:=O hpe;rw[hpe] at HPT hp HADL ⊢;obtain⟨pc,HPC,hpc,HOP⟩:=nmPt hp.pt;rw[HPC.out];have HL:=lN w;clear he hp ht hK hpe hr hvb hbl hve;have HPT0:=HPT;have HK0:=HK;have HVV0:=HVV;refine callsIn_wide.1 (callsIn_of_wp_marks (F:=Fence.wide) (n:=3) Tryz.func46 rfl trivial (wpIn_wide.2 ?_));simp only[Tryz.ntmps46,List.size_toArray,List.length_cons,List.length_nil,Nat.reduceAdd,Nat.reduceSub,Array.replicate_succ,Array.replicate_zero,List.push_toArray,List.append_toArray,List.nil_append,List.cons_append]
 go_wp2_with ((with_reducible show WL _ _);refine bxL HL 39 (.tmp 0) (#[.pointer (some ⟨c,0,none⟩)]) ?_)
 intro b4 w1 hk HL;replace HPT:=pK HPT hk;replace HK:=O (HK.out.keep0 hk);replace HVV:=O (HVV.out.keep hk fun _ _=>id);clear hk
 go_wp2_with ((with_reducible show WL _ _);refine bxL HL 27 (.tmp 1) (pc.toArray) ?_)
 intro b5 w2 hk HL;replace HPT:=pK HPT hk;replace HK:=O (HK.out.keep0 hk);replace HVV:=O (HVV.out.keep hk fun _ _=>id);clear hk
 go_wp2_with ((with_reducible show WL _ _);refine alL HL 27 (.agg aH.toArray) (aH.toArray) bG ?_)
 intro b8 w3 hk HL;replace HPT:=pK HPT hk;replace HK:=O (HK.out.keep0 hk);replace HVV:=O (HVV.out.keep hk fun _ _=>id);clear hk
 go_wp2_with ((with_reducible show WL _ _);refine alL HL 49 (.int .i64 0) (#[.int .i64 0]) jZ ?_)
 intro b9 w4 hk HL;replace HPT:=pK HPT hk;replace HK:=O (HK.out.keep0 hk);replace HVV:=O (HVV.out.keep hk fun _ _=>id);clear hk;have c1:w4.cell? ⟨b4,0,none⟩=some (.pointer (some ⟨c,0,none⟩)):=(aC (i:=0) (HL.out.b 3) rfl)
 go_wp2_with ((with_reducible show WL _ _);refine wpList_load_mid rfl 27 (.tmp 5) rfl b5 0 rfl pc _ (aD (HL.out.b 2)) aF rfl (szP9 hpc) ?_)
 clear c1;refine((by rw[←HPC.out];exact zC HK.out pv p HPT.out.pt (by rw[←HPE.out];exact HT.out.root):Calls _ _ _ w4 (aK w4 (.int .i64 0)))).mono ?_;rintro e w5 ⟨rfl,hk⟩;replace HL:=kL HL hk;replace HPT:=pK HPT hk;replace HK:=O (HK.out.keep0 hk);replace HVV:=O (HVV.out.keep hk fun _ _=>id);clear hk
 go_wp2_with ((with_reducible show WL _ _);refine al 49 (.int .i64 0) (#[.int .i64 0]) jZ ?_)
 intro b10 w6 hbs hk0 hb0_
 go_wp2_with ((with_reducible show WL _ _);refine sta 49 (.tmp 10) (.tmp 18) b10 0 ([.int .i64 0]) hb0_ (by first|decide|(rw[List.size_toArray,rfl];exact Nat.le_refl _)|simp[]) (by kernel_rfl) (one9) ?_)
 intro w7 hk hb;replace hb:w7.heap[b10]?=some (.cells #[.int .i64 0] 49 (0,0)):=hb;replace hk:=tX hk0 hk (fun i hi e=>by omega);replace HL:=lW HL hbs hk hb;replace HPT:=pK HPT hk;replace HK:=O (HK.out.keep0 hk);replace HVV:=O (HVV.out.keep hk fun _ _=>id);clear hbs hk hb hk0 hb0_;have c1:w7.cell? ⟨b10,0,none⟩=some (.int .i64 0):=(aC (i:=0) (HL.out.b 0) rfl)
 have c2:w7.cell? ⟨b4,0,none⟩=some (.pointer (some ⟨c,0,none⟩)):=(aC (i:=0) (HL.out.b 4) rfl)
 go_wp2_with ((with_reducible show WL _ _);refine wpList_load_mid rfl 27 (.tmp 5) rfl b5 0 rfl pc _ (aD (HL.out.b 3)) aF rfl (szP9 hpc) ?_)
 clear c1 c2;have HWB:=O HL.out.keep.size;have HB10L:=O (HL.out.lt 0);have HB9L:=O (HL.out.lt 1);have HB8L:=O (HL.out.lt 2);refine((by rw[←HPC.out,←HPE.out];exact Dp HK.out pv t HT.out (by rw[HPE.out];exact HPT.out) n HN.out false:Calls _ _ _ w7 (AB w7 B pv n t false))).mono ?_;rintro e w8 ⟨sv,pvf,k,pvs,vss,M,rfl,hk3,hM,hwr,hwp,hk⟩;obtain rfl:=hk3 rfl;obtain⟨sa,scap,hsv,hs3,-⟩:=(Rd.of_owns hwr.row).form;subst hsv;have HWR:=O hwr;have HWP:=O hwp;have HM:=O hM;have HS3:=O hs3;obtain⟨qc,HQC,hqc,HOQ⟩:=nmPt hwp.val.pt;rw[HQC.out];clear hwp hM hwr hs3;have HZ:=O (HWR.out.zone HM.out HOP0.out);replace HL:=kL HL hk;replace HPT:=pK HPT hk;replace HK:=O (HK.out.keep0 hk);replace HVV:=O (HVV.out.keep hk fun _ _=>id);clear hk
 go_wp2_with ((with_reducible show WL _ _);refine al 27 (.agg aH.toArray) (aH.toArray) bG ?_)
 intro b12 w9 hbs hk0 hb0_
 go_wp2_with ((with_reducible show WL _ _);refine sta 27 (.tmp 12) (.tmp 43) b12 0 qc hb0_ (by first|decide|(rw[List.size_toArray,hqc];exact Nat.le_refl _)|simp[hqc,aG]) (szP9 hqc) HOQ.out ?_)
 intro wa hk hb;rw[aI _ _ (by first|rfl|(rw[List.size_toArray,hqc];rfl)|simp[hqc,aG])] at hb;replace hk:=tX hk0 hk (fun i hi e=>by omega);have HNb12:=O (show w8.heap.size≤b12 from Nat.le_of_eq hbs);replace HL:=lW HL hbs hk hb;replace HPT:=pK HPT hk;replace HK:=O (HK.out.keep0 hk);replace HVV:=O (HVV.out.keep hk fun _ _=>id);replace HWR:=O (cG.keep0 HWR.out hk);replace HWP:=O (eO.keep0 HWP.out hk);clear hbs hk hb hk0 hb0_
 go_wp2_with ((with_reducible show WL _ _);refine sta 49 (.tmp 10) (.tmp 44) b10 0 ([.int .i64 0]) (HL.out.b 1) (by simp) (by kernel_rfl) (one9) ?_)
 intro wb hk hb;replace hb:wb.heap[b10]?=some (.cells #[.int .i64 0] 49 (0,0)):=hb;replace HL:=O (HL.out.set 1 hk hb);replace HPT:=O (bA.keep0 HPT0.out HL.out.keep);replace HK:=O (HK0.out.keep0 HL.out.keep);replace HVV:=O (HVV0.out.keep HL.out.keep fun _ _=>id);replace HWR:=O (cG.keepT HWR.out hk (fun i hi e=>by have:=aS HWR.out.row hi;have:=HB10L.out;omega) (fun i hi e=>by have:=HOP0.out i hi;have:=HB10L.out;omega) (fun i hi e=>by have:=HM.out;have:=HB10L.out;omega));replace HWP:=O (eO.keepT HWP.out hk (fun i hi e=>by have:=HOP0.out i hi;have:=HB10L.out;omega) (fun i hi e=>by have:=HM.out;have:=HB10L.out;omega));clear hk hb;have HB10W:=O (And.intro (HL.out.lt 0) (HL.out.lt 1));have c1:wb.cell? ⟨b10,0,none⟩=some (.int .i64 0):=(aC (i:=0) (HL.out.b 1) rfl)
 have c2:wb.cell? ⟨b4,0,none⟩=some (.pointer (some ⟨c,0,none⟩)):=(aC (i:=0) (HL.out.b 5) rfl)
 go_wp2_with ((with_reducible show WL _ _);refine wpList_load_mid rfl 27 (.tmp 12) rfl b12 0 rfl qc _ (aD (HL.out.b 0)) aF rfl (szP9 hqc) ?_)
 clear c1 c2;have HBW:=O HL.out.keep.size;refine((by rw[←HQC.out];exact zE HK.out pvf (aW n t 3) HO3.out HWP.out.val.pt n:Calls _ _ _ wb (fK wb ((aW n t 3).blk 0 n)))).mono ?_;rintro e wc ⟨v1,rfl,ho,hk⟩;rw[HBS0.out] at ho;obtain⟨wa,wc,rfl,-,-⟩:=(Rd.of_owns ho).form;have HO:=O ho;have HOG:=O (fun i (hi:(Value.slice wa 256 wc).ownBlock=some i)=>aS ho hi);clear ho;replace HL:=kL HL hk;replace HPT:=pK HPT hk;replace HK:=O (HK.out.keep0 hk);replace HVV:=O (HVV.out.keep hk fun _ _=>id);replace HWR:=O (cG.keep0 HWR.out hk);replace HWP:=O (eO.keep0 HWP.out hk);clear hk
 go_wp2_with ((with_reducible show WL _ _);refine sta 49 (.tmp 10) (.tmp 54) b10 0 ([.int .i64 0]) (HL.out.b 1) (by simp) (by kernel_rfl) (one9) ?_)
 intro wd hk hb;replace hb:wd.heap[b10]?=some (.cells #[.int .i64 0] 49 (0,0)):=hb;replace HL:=O (HL.out.set 1 hk hb);replace HPT:=O (bA.keep0 HPT0.out HL.out.keep);replace HK:=O (HK0.out.keep0 HL.out.keep);replace HVV:=O (HVV0.out.keep HL.out.keep fun _ _=>id);replace HWR:=O (cG.keepT HWR.out hk (fun i hi e=>by have:=aS HWR.out.row hi;have:=HB10L.out;omega) (fun i hi e=>by have:=HOP0.out i hi;have:=HB10L.out;omega) (fun i hi e=>by have:=HM.out;have:=HB10L.out;omega));replace HWP:=O (eO.keepT HWP.out hk (fun i hi e=>by have:=HOP0.out i hi;have:=HB10L.out;omega) (fun i hi e=>by have:=HM.out;have:=HB10L.out;omega));replace HO:=O (hk.owns HO.out fun i hi e=>by have:=HOG.out i hi;have:=HB10L.out;have:=HBW.out;have:=HB10W.out;omega);clear hk hb;have c1:wd.cell? ⟨b10,0,none⟩=some (.int .i64 0):=(aC (i:=0) (HL.out.b 1) rfl)
 go_wp2_with fail;clear c1;refine(mJ wd _ _ (t.blk 3 n) bs (by rw[HBL0.out];exact Rd.of_owns HO.out) (by rw[HBL.out];exact HVV.out) false (decide_eq_false HNE.out)).mono ?_;rintro e we ⟨rfl,rfl⟩;have c1:wd.cell? ⟨b4,0,none⟩=some (.pointer (some ⟨c,0,none⟩)):=(aC (i:=0) (HL.out.b 5) rfl)
 go_wp2_with fail;clear c1;have HLW:=O HL.out.keep;have HLK:=O (And.intro (HL.out.lt 0) (And.intro (HL.out.lt 1) (And.intro (HL.out.lt 2) (And.intro (HL.out.lt 3) (HL.out.lt 5)))));refine((BQ HK.out (.slice va 256 vc) bs HBL.out HVV.out (fun i hi=>(HVB.out i hi).1):Calls _ _ _ wd (cK wd c B (.slice none 0 0) (S.leaf bs).1 (S.leaf bs).2))).mono ?_;rintro e wf ⟨v0,B0,hm1,hpv,hki,hB0,hcl,hnw,hk⟩;obtain⟨er0,her0⟩:∃x,kZ (S.leaf bs).1=x:=⟨_,rfl⟩
 rw[her0] at hm1;have HER0:=O her0;subst hm1;replace hnw:eN wd v0:=hnw.elim (fun e=>by rw[e];exact eN.nil _) id;have HV0:=O hpv;have HKI:=O hki;have HB0:=O hB0;have HCL:=O hcl;have HNW:=O hnw;have HKL:=O hk;obtain⟨lc,HLCE,hlc,HOLC⟩:=nmPt hpv.pt;rw[HLCE.out];clear hpv hki hcl hnw her0;replace HWR:=O (cG.toB HWR.out hk hB0 (fun i hi e=>by have:=aS HWR.out.row hi;have:=HBLT.out i e;have:=HWB.out;omega));replace HL:=O (((HL.out.wide HBLT.out).turn hk (fun _ _ h=>h)) (fun i hi hb=>(hB0 i hb).elim id fun e=>by omega));clear hk hB0 HO HWP HVV HK HPT
 go_wp2_with ((with_reducible show WL _ _);refine sta 27 (.tmp 12) (.tmp 70) b12 0 lc (HL.out.b 0) (by first|decide|(rw[hlc];exact Nat.le_refl _)|simp[hlc,hqc]) (szP9 hlc) HOLC.out ?_)
 intro wg hk hb;rw[aI _ _ (by first|rfl|simp[hlc,hqc])] at hb;replace HL:=O (HL.out.set 0 hk hb);replace HKI:=O (KI.keepT HKI.out hk (fun i e hq=>by rw[e] at hq;first|exact (HL.out.aq 0) hq|exact (HL.out.aq 1) hq));replace HV0:=O (bA.keepT HV0.out hk (fun i hi e=>by have:=HNW.out i hi;have:=HLK.out;omega));replace HWR:=O (cG.keepZ HWR.out HZ.out hk (fun i e=>by have:=HNb12.out;have:=HB10L.out;omega));replace HCL:=O (Cl.onT HCL.out hk fun i hq e=>by rw[e] at hq;first|exact (HL.out.aq 0) hq|exact (HL.out.aq 1) hq);clear hk hb
 go_wp2_with ((with_reducible show WL _ _);refine sta 49 (.tmp 10) (.tmp 71) b10 0 ([.int .i64 er0]) (HL.out.b 1) (by simp) (by kernel_rfl) (one9) ?_)
 intro wh hk hb;replace hb:wh.heap[b10]?=some (.cells #[.int .i64 er0] 49 (0,0)):=hb;replace HL:=O (HL.out.set 1 hk hb);replace HKI:=O (KI.keepT HKI.out hk (fun i e hq=>by rw[e] at hq;first|exact (HL.out.aq 0) hq|exact (HL.out.aq 1) hq));replace HV0:=O (bA.keepT HV0.out hk (fun i hi e=>by have:=HNW.out i hi;have:=HLK.out;omega));replace HWR:=O (cG.keepZ HWR.out HZ.out hk (fun i e=>by have:=HNb12.out;have:=HB10L.out;omega));replace HCL:=O (Cl.onT HCL.out hk fun i hq e=>by rw[e] at hq;first|exact (HL.out.aq 0) hq|exact (HL.out.aq 1) hq);clear hk hb;go_wp2_with fail;have HB0L:=O (fun i (e:B0 i)=>HKI.out.lt e);have HLH:=O (And.intro (HL.out.lt 0).2 (And.intro (HL.out.lt 1).2 (And.intro (HL.out.lt 2).2 (HL.out.lt 3).2)));refine((KU (.slice sa 3 scap) wh ⟨_,_,_,rfl⟩)).mono ?_;rintro e wi ⟨B1,rfl,hb1,hB1,hk⟩;have HB1:=O hb1;have HB1S:=O hB1;clear hb1 hB1;replace HL:=kL HL hk;replace HKI:=O (HKI.out.keep0 hk);replace HV0:=pK HV0 hk;replace HWR:=O (cG.keep0 HWR.out hk);replace HCL:=O (Cl.onT HCL.out hk fun _ _=>id);clear hk;go_wp2_with fail;obtain⟨g,cap,cur,hsve,hcap,hgc,hstp⟩:=I5 HWR.out (by omega);cases hsve
 have hgz:=(HZ.out.sv g rfl).2;have hgw:=aS HWR.out.row (k:=g) rfl;have hB1l:=lt_of_block HB1.out;have hgl:=lt_of_block hgc;have hwb:=HWB.out;have hn12:=HNb12.out;have hlk:=HLK.out;have hb10:=HB10L.out;have hb9:=HB9L.out;have hb8:=HB8L.out;have hlh:=HLH.out;have hb1s:=HB1S.out;have hlw:=HLW.out.size;have HNE2:=O (fun q (hq:q<3) p (hp:p<4) i (hi:(vss q p).ownBlock=some i)=>(by have:=HZ.out.vss q hq p hp i hi;omega:i≠b10/\i≠b12))
 have HBK:=Gs (Res:=fun i=>B0 i\/i=b8\/i=b9\/i=b10\/i=b12\/wi.heap.size≤i) (3-1) (fun x=>eR n t x (pvs x) (vss x)) (fun x hx=>E0 HWR.out hx) hcap HB1.out hstp hgc
  (by rintro (e|e|e|e|e|e)<;>first|omega|(have:=HB0L.out _ e;omega)) (by rintro (e|e|e|e|e|e)<;>first|omega|(rcases HB0.out _ e with e|e<;>first|omega|(have:=HBLT.out _ e;omega)))
 have hI0:sW wi b8 b9 b10 b12 c S B0 n t bs 0 wi:=⟨3,v0,B0,rfl,(by have h:=HL.out.b 0;rw[←HLCE.out] at h;exact h),(by have h:=HL.out.b 1;rw[←HER0.out] at h;exact h),HV0.out,fun i hi=>by (have:=HNW.out i hi;omega),HKI.out,fun i h=>.inl h,fun i h=>(Classical.em (IsC wi i)).imp id fun h2=>⟨HKI.out.lt h,h,h2⟩,aA.refl _ _⟩
 have HBB:Hid (∀i,B0 i->B i\/w.heap.size≤i):=O fun i h=>(HB0.out i h).imp id fun e=>by omega
 replace HL:Hid (Loc B B0 w wi [(b12,lc.toArray,27),(b10,#[.int .i64 er0],49),(b9,#[.int .i64 0],49),(b8,aH.toArray,27),(b5,pc.toArray,27),(b4,#[.pointer (some ⟨c,0,none⟩)],39)]):=HL;have HG:=O (And.intro HB1S.out (And.intro (lt_of_block (HL.out.b 0)) (And.intro (lt_of_block (HL.out.b 1)) (And.intro (lt_of_block (HL.out.b 2)) (lt_of_block (HL.out.b 3))))));have HWS:=O HL.out.keep.size;have HWR3:=O (fun q (hq:q<3)=>(HWR.out.vss q hq).1);have HST3:=O (fun q (hq:q<3)=>(HWR.out.pvs q hq).1.pt);clear hgz hgw hB1l hgl hwb hn12 hlk hb10 hb9 hb8 hlh hb1s hlw hcap hgc hstp HK0 HPT0 HVV0 HKI HV0 HWR HBW HOG HZ;refine wpIn_wide (n:=3).1 ?_;refine Ap rfl (by omega) (gf:=126) rfl trivial (enters_of Tryz.func126 (by kernel_rfl) rfl) (N:=3) (encs:=B9 (fun x=>eR n t x (pvs x) (vss x))) HBK (fun _=>rfl) (sW wi b8 b9 b10 b12 c S B0 n t bs) (Dr wi b8 b9 b10 b12 c S B0 n t bs) (fun W k=>hI0.keep0 k) (fun k W l o hl h ho hc o'=>h.put hl ho hc o') (fun W l o hl h ho hc o'=>h.put hl ho hc o') ?round ?done ?stop
 case round =>
  rintro l k W1 hk3 hI hl;obtain⟨y',v,B',hky,h12,h10,hpv,hvo,hki,hB',hBI,hkp⟩:=hI;obtain⟨y,rfl⟩:∃y,y'=y+1:=⟨y'-1,by omega⟩
  have hky2:k+y=2:=by omega
  have hy3:y<3:=by omega
  have HNV:Hid (cF W1 B' (vss y) (fun i=>((aW n t y).kid i).ptr)):=O fun q hq=>(HWR3.out y hy3 q hq).grow (T:=fun i=>i=b10\/i=b12) hkp (fun i hi e=>by have:=HNE2.out y hy3 q hq i hi;omega) hB'
  have HPY:=HST3.out y hy3;have HA35:=O (aJ (v:=pvs y) (HST3.out y hy3).sum);have HOA:=O (aU (HST3.out y hy3));unfold B9;dsimp only;rw[show 2-k=y by omega];obtain⟨⟨r,T⟩,hrT⟩:∃q,eG k S (aW n t (y+1)) n bs=q:=⟨_,rfl⟩
  rw[hrT] at h12 h10 hpv hki;dsimp only at h12 h10 hpv hki;have HRT:=O hrT;have huc:=aJ (v:=v) hpv.pt.sum;have HOU0:=aU hpv.pt;obtain⟨uc,huce⟩:∃x,aE v (gD r)=x:=⟨_,rfl⟩
  have HOU:Hid (∀u∈uc,u.oneCell'=true):=O (by rw[←huce];exact HOU0);have HUC:=O huce;rw[huce] at huc h12;have HL1:=O (Loc.round HL.out h12 h10 hB' HBB.out hkp);have HKI:=O hki;have HPV:=O hpv;have HBI:=O hBI;have HB2:=O hB';have HKP:=O hkp;have HSW:=O (And.intro hkp.size hl);have HVL:=O (fun i hi=>(hpv.off i hi).2.lt);have HNL:=O (fun q (hq:q<4) i hi=>((HNV.out q hq).off i hi).2.lt);have HX:=O (aA.refl aB W1);obtain⟨dg,hdg⟩:∃d,n / 4 ^ (2-y) % 4=d:=⟨_,rfl⟩
  have hd4:dg<4:=by rw[←hdg];exact Nat.mod_lt _ (by decide)
  have HDG:=O hdg
  have hsc:(eR n t y (pvs y) (vss y)).length=177:=by
   unfold eR;rw[List.length_append,List.length_append,HA35.out,dY _ _ (HWR3.out y hy3).nv];rfl
  have HOS0:∀u∈eR n t y (pvs y) (vss y),u.oneCell'=true:=by
   intro u hu;rcases List.mem_append.1 hu with h|h
   ·exact HOA.out u h
   ·rcases List.mem_append.1 h with h|h
    ·exact dI _ (HWR3.out y hy3).nv u h
    ·rw[List.mem_singleton] at h;subst h;rfl
  have hS0:eR n t y (pvs y) (vss y)=aE (pvs y) (aW n t y).ptr++(cE ((k+1:Nat):Int) (vss y) (fun i=>((aW n t y).kid i).ptr)++[.int .i64 (dg:Int)]):=by
   unfold eR;rw[hdg,show 3-y=k+1 by omega]
  obtain⟨sc,hsce⟩:∃x,eR n t y (pvs y) (vss y)=x:=⟨_,rfl⟩
  rw[hsce] at hsc HOS0 hS0 ⊢;have HOS:=O HOS0;have HSC:=O hS0;have hd0:(0:Int)≤(dg:Int):=by omega
  have hd1:(dg:Int)<4:=by omega
  rw[A8];simp only[List.setIfInBounds_toArray,List.set_cons_zero,List.set_cons_succ];replace HL:=HL1;clear hpv hki hBI hB' hkp h10 h12 hI0 HBK HWR3 HST3 HOS0 hS0 hsce hdg huce HOU0 HPY HL1 hrT;rcases r with _|u
  ·replace HL:Hid (Loc B B' w W1 [(b12,uc.toArray,27),(b10,#[.int .i64 15],49),(b9,#[.int .i64 0],49),(b8,aH.toArray,27),(b5,pc.toArray,27),(b4,#[.pointer (some ⟨c,0,none⟩)],39)]):=HL
   refine cO (by kernel_rfl) (fun ⟨_,_,h⟩=>h) ?_
   go_wp2_with ((with_reducible show WL _ _);refine al 166 (.agg iN.toArray) (iN.toArray) zD ?_)
   intro b15 wk hbs hk0 hb0_
   go_wp2_with ((with_reducible show WL _ _);refine sta 166 (.tmp 15) (.tmp 75) b15 0 sc hb0_ (by first|decide|(rw[List.size_toArray,hsc];exact Nat.le_refl _)|simp[hsc,gN]) (by rw[hsc];exact rN) HOS.out ?_)
   intro wl hk hb;rw[aI _ _ (by first|rfl|(rw[List.size_toArray,hsc];rfl)|simp[hsc,gN])] at hb;replace hk:=tX hk0 hk (fun i hi e=>by omega);have HNb15:=O (show W1.heap.size≤b15 from Nat.le_of_eq hbs);replace HL:=O (HL.out.new (fun k h=>HKI.out.lt h) hbs hk hb);replace HKI:=O (HKI.out.keep0 hk);replace HPV:=pK HPV hk;replace HNV:=O (cF.keep0 HNV.out hk);replace HBI:=O (fun i h=>(HBI.out i h).imp (fun c=>c.keep hk id) id);replace HKP:=O (HKP.out.trans (aA.any hk));replace HX:=O (HX.out.trans hk);clear hbs hk hb hk0 hb0_;go_wp2_with fail;refine⟨KpN.of HX.out (fun _ _ h=>h.elim),KpC.of HX.out (fun _ h=>h.elim),fun o o' hoo hoc=>?_⟩;have kd:=aA.of_grown (grownBy_putObj' wl l o');have no:=fun {i:Nat}(h:IsC wl i)=>nI hoo hoc h
   have nB:∀i,some l=some i->¬B' i:=fun i e hb=>(HBI.out i hb).elim (fun h=>no h e) fun h=>by have:=h.1;injection e with e;have:=HSW.out.2;omega
   replace HL:=O (HL.out.put (o':=o') hoo hoc (by have:=HSW.out.2;have:=HWS.out;omega));replace HKI:=O (HKI.out.keepT kd nB);replace HPV:=O (HPV.out.keepT kd fun i hi=>no (HPV.out.off i hi).2);replace HNV:=O (HNV.out.keepT kd fun q hq i hi=>no ((HNV.out q hq).off i hi).2);replace HBI:Hid (∀i,B' i->IsC (wl.putObj l o') i\/i<wi.heap.size/\B0 i/\¬IsC wi i):=O fun i h=>(HBI.out i h).imp (fun c=>c.keep kd (no c)) id
   replace HKP:=O (HKP.out.trans' kd (fun _ _ h=>h) (fun i hi e=>by injection e with e;have:=HSW.out.2;omega));clear HX kd no nB;generalize World.putObj wl l o'=V at HL HKI HPV HNV HBI HKP ⊢;have HLV:=HL;have HBV:=HBI;have HX:Hid (aA (fun i=>B' i\/i=b8\/i=b9\/i=b10\/i=b12\/i=b15) V V):=O (aA.refl _ _);clear hoo hoc;refine wpIn_block ?_
   repeat refine wpIn_seq ?_
   refine cO (by kernel_rfl) (fun ⟨_,_,h⟩=>h) ?_;have c1:V.cell? ⟨b10,0,none⟩=some (.int .i64 15):=(aC (i:=0) (HL.out.b 2) rfl)
   go_wp2_with fail;clear c1;refine wpIn_cond_true rfl ?_;refine wpIn_seq ?_;replace HKP:Hid (aA (fun i=>B0 i\/i=b8\/i=b9\/i=b10\/i=b12) wi V):=O ((aA.refl aB wi).trans' HKP.out (fun _ _ h=>h.elim) (fun i hi e=>e.elim .inl fun e=>e.elim (fun e=>.inr (.inr (.inr (.inl e)))) fun e=>.inr (.inr (.inr (.inr e)))));have HFIN:Hid (∀Wf,Wf.heap[b8]?=some (.cells aH.toArray Gu (0,0))->Wf.heap[b9]?=some (.cells #[.int .i64 15] Gt (0,0))->KI Wf c T B'->(∀i,B' i->IsC Wf i\/i<wi.heap.size/\B0 i/\¬IsC wi i)->aA (fun i=>B0 i\/i=b8\/i=b9\/i=b10\/i=b12) wi Wf->Dr wi b8 b9 b10 b12 c S B0 n t bs Wf):=O fun Wf a1 a2 a3 a4 a5=>⟨T,B',Bi (y:=y+1) (by omega) HRT.out,a1,a2,a3,HB2.out,a4,a5⟩
   go_wp2_with fail;obtain⟨S,hS0⟩:∃S:World->Prop,S=fun w'=>aA (fun k=>k=b8\/k=b9) V.drew w':=⟨_,rfl⟩
   have HSE:=O (show ∀w',S w'->aA (fun k=>k=b8\/k=b9) V.drew w' from fun w' h=>by rw[hS0] at h;exact h);have HSI:=O (show ∀w',aA (fun k=>k=b8\/k=b9) V.drew w'->S w' from fun w' h=>by rw[hS0];exact h);have hS:S V.drew:=by rw[hS0];exact aA.refl _ _
   have hkd:=(aA.refl aB V).drew;clear hS0;refine lJ (by kernel_rfl) (by kernel_rfl) (fun ⟨_,_,h⟩=>h) (wpAny_of_held (S:=S) _ _ _ _ ?_);change wpAnyH _ _ _ _ _ _ _ _ V.drew;generalize V.drew=wm at HSE HSI hS hkd ⊢;replace HL:=kL HL hkd;replace HKI:=O (HKI.out.keep0 hkd);replace HBI:=O (fun i h=>(HBI.out i h).imp (fun c=>c.keep hkd id) id);replace HKP:=O (HKP.out.trans (aA.any hkd));replace HX:=O (HX.out.trans (aA.any hkd));clear hkd;have HLs:=HL;have HKIs:=HKI;have HBIs:=HBI;have HKPs:=HKP;have HXs:=HX;refine tnd 0 (.agg aH.toArray) rfl (qM (by rfl) 27 rfl pW) hS ?_;refine tnd 1 (.int .i64 15) rfl (.inl ⟨by rfl,fun w' hw'=>by have c:World.cell? w' ⟨b10,0,none⟩=some (.int .i64 15):=aC (i:=0) ((HSE.out w' hw').blk (HLs.out.b 2) (fun e=>by rcases e with e|e<;>first|exact bF (i:=4) HLs.out.nd rfl 2 (by decide) rfl e|exact bF (i:=3) HLs.out.nd rfl 2 (by decide) rfl e)) rfl;go_simp⟩) hS ?_;refine wA9 2 ?_;refine sta 27 (.tmp 8) (.tmp 78) b8 0 aH (HL.out.b 4) (by first|decide|(rw[aG];exact Nat.le_refl _)|simp[aG,aG]) (szP9 aG) zK ?_;intro wn hk hb;rw[aI _ _ (by first|rfl|simp[aG,aG])] at hb;have hS1:=HSI.out _ ((HSE.out _ hS).trans' hk (fun _ _ h=>h) (fun i hi e=>(.inl e)));clear hS;replace HL:=O (HL.out.set 4 hk hb);replace HKI:=O (KI.keepT HKI.out hk (fun i e hq=>by rw[e] at hq;first|exact (HL.out.aq 0) hq|exact (HL.out.aq 1) hq|exact (HL.out.aq 2) hq|exact (HL.out.aq 3) hq|exact (HL.out.aq 4) hq|exact (HL.out.aq 5) hq|exact (HL.out.aq 6) hq));replace HBI:=O (fun i h=>(HBI.out i h).imp (fun cc=>cc.keep hk (fun e=>by rw[e] at h;first|exact (HL.out.aq 0) h|exact (HL.out.aq 1) h|exact (HL.out.aq 2) h|exact (HL.out.aq 3) h|exact (HL.out.aq 4) h|exact (HL.out.aq 5) h|exact (HL.out.aq 6) h)) id);replace HKP:=O (HKP.out.trans' hk (fun _ _ h=>h) (fun i hi e=>by first|exact .inr (.inl e)|exact .inr (.inr (.inl e))|exact .inr (.inr (.inr (.inl e)))|exact .inr (.inr (.inr (.inr e)))|(have:=HNb15.out;have:=HSW.out;omega)));replace HX:=O (HX.out.trans' hk (fun _ _ h=>h) (fun i _ e=>by first|exact .inr (.inl e)|exact .inr (.inr (.inl e))|exact .inr (.inr (.inr (.inl e)))|exact .inr (.inr (.inr (.inr (.inl e))))|exact .inr (.inr (.inr (.inr (.inr e))))));clear hk hb;refine wpList_nil ?_;refine⟨hS1,?_⟩;refine wA9 3 ?_;refine sta 49 (.tmp 9) (.tmp 79) b9 0 ([.int .i64 15]) (HL.out.b 3) (by simp) (by kernel_rfl) (one9) ?_;intro wo hk hb;replace hb:wo.heap[b9]?=some (.cells #[.int .i64 15] 49 (0,0)):=hb;have hS2:=HSI.out _ ((HSE.out _ hS1).trans' hk (fun _ _ h=>h) (fun i hi e=>(.inr (e))));clear hS1;replace HL:=O (HL.out.set 3 hk hb);replace HKI:=O (KI.keepT HKI.out hk (fun i e hq=>by rw[e] at hq;first|exact (HL.out.aq 0) hq|exact (HL.out.aq 1) hq|exact (HL.out.aq 2) hq|exact (HL.out.aq 3) hq|exact (HL.out.aq 4) hq|exact (HL.out.aq 5) hq|exact (HL.out.aq 6) hq));replace HBI:=O (fun i h=>(HBI.out i h).imp (fun cc=>cc.keep hk (fun e=>by rw[e] at h;first|exact (HL.out.aq 0) h|exact (HL.out.aq 1) h|exact (HL.out.aq 2) h|exact (HL.out.aq 3) h|exact (HL.out.aq 4) h|exact (HL.out.aq 5) h|exact (HL.out.aq 6) h)) id);replace HKP:=O (HKP.out.trans' hk (fun _ _ h=>h) (fun i hi e=>by first|exact .inr (.inl e)|exact .inr (.inr (.inl e))|exact .inr (.inr (.inr (.inl e)))|exact .inr (.inr (.inr (.inr e)))|(have:=HNb15.out;have:=HSW.out;omega)));replace HX:=O (HX.out.trans' hk (fun _ _ h=>h) (fun i _ e=>by first|exact .inr (.inl e)|exact .inr (.inr (.inl e))|exact .inr (.inr (.inr (.inl e)))|exact .inr (.inr (.inr (.inr (.inl e))))|exact .inr (.inr (.inr (.inr (.inr e))))));clear hk hb;refine wpList_nil ?_;refine⟨hS2,?_⟩;refine wpAnyH_done (by kernel_rfl) ?_ _;clear hS2 HSE HSI HLs HKIs HBIs HKPs HXs;refine wpIn_ret ?_;have HSF:=HFIN.out _ (HL.out.b 4) (HL.out.b 3) HKI.out HBI.out HKP.out
   exact⟨KpN.of HX.out fun i o e hn ho=>by
    rcases e with e|e|e|e|e|e
    ·rcases HBV.out i e with⟨cs,t,h⟩|h
     ·rw[h] at ho;cases ho;rfl
     ·omega
    ·have:=HG.out;omega
    ·have:=HG.out;omega
    ·have:=HG.out;omega
    ·have:=HG.out;omega
    ·subst e;rw[HLV.out.b 0] at ho;cases ho;rfl,HSF⟩
  ·replace HL:Hid (Loc B B' w W1 [(b12,uc.toArray,27),(b10,#[.int .i64 0],49),(b9,#[.int .i64 0],49),(b8,aH.toArray,27),(b5,pc.toArray,27),(b4,#[.pointer (some ⟨c,0,none⟩)],39)]):=HL
   refine cO (by kernel_rfl) (fun ⟨_,_,h⟩=>h) ?_
   go_wp2_with ((with_reducible show WL _ _);refine al 166 (.agg iN.toArray) (iN.toArray) zD ?_)
   intro b15 wk hbs hk0 hb0_
   go_wp2_with ((with_reducible show WL _ _);refine sta 166 (.tmp 15) (.tmp 75) b15 0 sc hb0_ (by first|decide|(rw[List.size_toArray,hsc];exact Nat.le_refl _)|simp[hsc,gN]) (by rw[hsc];exact rN) HOS.out ?_)
   intro wl hk hb;rw[aI _ _ (by first|rfl|(rw[List.size_toArray,hsc];rfl)|simp[hsc,gN])] at hb;replace hk:=tX hk0 hk (fun i hi e=>by omega);have HNb15:=O (show W1.heap.size≤b15 from Nat.le_of_eq hbs);replace HL:=O (HL.out.new (fun k h=>HKI.out.lt h) hbs hk hb);replace HKI:=O (HKI.out.keep0 hk);replace HPV:=pK HPV hk;replace HNV:=O (cF.keep0 HNV.out hk);replace HBI:=O (fun i h=>(HBI.out i h).imp (fun c=>c.keep hk id) id);replace HKP:=O (HKP.out.trans (aA.any hk));replace HX:=O (HX.out.trans hk);clear hbs hk hb hk0 hb0_;go_wp2_with fail;refine⟨KpN.of HX.out (fun _ _ h=>h.elim),KpC.of HX.out (fun _ h=>h.elim),fun o o' hoo hoc=>?_⟩;have kd:=aA.of_grown (grownBy_putObj' wl l o');have no:=fun {i:Nat}(h:IsC wl i)=>nI hoo hoc h
   have nB:∀i,some l=some i->¬B' i:=fun i e hb=>(HBI.out i hb).elim (fun h=>no h e) fun h=>by have:=h.1;injection e with e;have:=HSW.out.2;omega
   replace HL:=O (HL.out.put (o':=o') hoo hoc (by have:=HSW.out.2;have:=HWS.out;omega));replace HKI:=O (HKI.out.keepT kd nB);replace HPV:=O (HPV.out.keepT kd fun i hi=>no (HPV.out.off i hi).2);replace HNV:=O (HNV.out.keepT kd fun q hq i hi=>no ((HNV.out q hq).off i hi).2);replace HBI:Hid (∀i,B' i->IsC (wl.putObj l o') i\/i<wi.heap.size/\B0 i/\¬IsC wi i):=O fun i h=>(HBI.out i h).imp (fun c=>c.keep kd (no c)) id
   replace HKP:=O (HKP.out.trans' kd (fun _ _ h=>h) (fun i hi e=>by injection e with e;have:=HSW.out.2;omega));clear HX kd no nB;generalize World.putObj wl l o'=V at HL HKI HPV HNV HBI HKP ⊢;have HLV:=HL;have HBV:=HBI;have HX:Hid (aA (fun i=>B' i\/i=b8\/i=b9\/i=b10\/i=b12\/i=b15) V V):=O (aA.refl _ _);clear hoo hoc;refine wpIn_block ?_
   repeat refine wpIn_seq ?_
   refine cO (by kernel_rfl) (fun ⟨_,_,h⟩=>h) ?_;have c1:V.cell? ⟨b10,0,none⟩=some (.int .i64 0):=(aC (i:=0) (HL.out.b 2) rfl)
   go_wp2_with fail;clear c1;have HBU:=O (EZ (t:=t) (n:=n) (k:=k) (y:=y+1) HBD.out HT.out HBL.out HNE.out (by omega) HRT.out);have HKO:=O (iR (n:=n) HT.out y (by omega));refine wpIn_cond_false rfl ?_;refine wpIn_skip ?_;have hkc:=aJ (v:=vss y dg) ((HNV.out dg hd4).pt.sum);have HOK0:=aU (HNV.out dg hd4).pt;obtain⟨kc,hkce⟩:∃x,aE (vss y dg) ((aW n t y).kid dg).ptr=x:=⟨_,rfl⟩
   have HOKC:Hid (∀u∈kc,u.oneCell'=true):=O (by rw[←hkce];exact HOK0);have HKC:=O hkce;rw[hkce] at hkc;clear hkce HOK0
   have hst:eG (k+1) S (aW n t y) n bs=(T.lay (k+1) (eX (aW n t y).kid dg u)):=by
    rw[Dq S t n bs (k:=k) (y:=y) hky2,HRT.out,←HDG.out,show 2-y=k by omega]
   have HFIN:Hid (∀Wf v2 B2,Wf.heap[b12]?=some (.cells (aE v2 (gD (T.lay (k+1) (eX (aW n t y).kid dg u)).1)).toArray Gu (0,0))->Wf.heap[b10]?=some (.cells #[.int .i64 (kZ (T.lay (k+1) (eX (aW n t y).kid dg u)).1)] Gt (0,0))->bA Wf B2 v2 (gD (T.lay (k+1) (eX (aW n t y).kid dg u)).1)->(∀i,v2.ownBlock=some i->i≠b8/\i≠b9/\i≠b10/\i≠b12)->KI Wf c (T.lay (k+1) (eX (aW n t y).kid dg u)).2 B2->(∀i,B2 i->B0 i\/wi.heap.size≤i)->(∀i,B2 i->IsC Wf i\/i<wi.heap.size/\B0 i/\¬IsC wi i)->aA (fun i=>B0 i\/i=b10\/i=b12) wi Wf->sW wi b8 b9 b10 b12 c S B0 n t bs (k+1) Wf):=O fun Wf v2 B2 a1 a2 a3 a4 a5 a6 a7 a8=>⟨y,v2,B2,by omega,by rw[hst];exact a1,by rw[hst];exact a2,by rw[hst];exact a3,a4,by rw[hst];exact a5,a6,a7,a8⟩
   clear hst
   repeat refine wpIn_seq ?_
   go_wp2_with fail;obtain⟨S,hS0⟩:∃S:World->Prop,S=fun w'=>aA aB V.drew w':=⟨_,rfl⟩
   have HSE:=O (show ∀w',S w'->aA aB V.drew w' from fun w' h=>by rw[hS0] at h;exact h);have HSI:=O (show ∀w',aA aB V.drew w'->S w' from fun w' h=>by rw[hS0];exact h);have hS:S V.drew:=by rw[hS0];exact aA.refl _ _
   have hkd:=(aA.refl aB V).drew;clear hS0;refine lJ (by kernel_rfl) (by kernel_rfl) (fun ⟨_,_,h⟩=>h) (wpAny_of_held (S:=S) _ _ _ _ ?_);change wpAnyH _ _ _ _ _ _ _ _ V.drew;generalize V.drew=wm at HSE HSI hS hkd ⊢;replace HL:=kL HL hkd;replace HKI:=O (HKI.out.keep0 hkd);replace HPV:=pK HPV hkd;replace HNV:=O (cF.keep0 HNV.out hkd);replace HBI:=O (fun i h=>(HBI.out i h).imp (fun c=>c.keep hkd id) id);replace HKP:=O (HKP.out.trans (aA.any hkd));replace HX:=O (HX.out.trans (aA.any hkd));clear hkd;have HLs:=HL;have HKIs:=HKI;have HPVs:=HPV;have HNVs:=HNV;have HBIs:=HBI;have HKPs:=HKP;have HXs:=HX;refine tnd 0 (.agg uc.toArray) rfl (yieldsIf_load_mid (by rfl) 27 (.tmp 12) rfl b12 0 rfl uc _ (fun w' h=>aD ((HSE.out w' h).blk (HLs.out.b 1) id)) aF rfl (szP9 huc)) hS ?_;refine tnb 1 (.pointer (some ⟨b15,176,none⟩)) rfl hS ?_;refine tnd 2 (.int .i64 (dg:Int)) rfl (.inl ⟨by rfl,fun w' hw'=>by have c:World.cell? w' ⟨b15,176,none⟩=some (.int .i64 (dg:Int)):=(E1 HA35.out (dY _ _ HNV.out.nv) (by have hq:=((HSE.out w' hw').blk (HLs.out.b 0) id);rw[HSC.out] at hq;exact hq));go_simp⟩) hS ?_;refine tnb 3 (.pointer (some ⟨b15,35,none⟩)) rfl hS ?_;refine tnb 4 (.pointer (some ⟨b15,36,none⟩)) rfl hS ?_;refine tnb 5 (.pointer (some ⟨b15,36+dg*35,none⟩)) rfl hS ?_;refine tnd 6 (.agg kc.toArray) rfl (yieldsIf_load_mid (by rfl) 27 (.tmp 85) rfl b15 (36+dg*35) rfl kc _ (fun w' h=>(by rw[←HKC.out];exact MD (vs:=vss y) (ps:=(fun i=>((aW n t y).kid i).ptr)) HA35.out HNV.out.nv hd4 (by have hq:=((HSE.out w' h).blk (HLs.out.b 0) id);rw[HSC.out] at hq;exact hq))) aF rfl (szP9 hkc)) hS ?_;refine wA9 7 ?_;go_wp2_with fail;refine((by rw[←HUC.out,←HKC.out];exact FN wm v (vss y dg) u.ptr ((aW n t y).kid dg).ptr HPV.out.pt (HNV.out dg hd4).pt:Calls _ _ _ wm (aX wm (u.ptr.eqB ((aW n t y).kid dg).ptr)))).mono ?_;rintro e wn ⟨rfl,hk⟩;rw[show u.ptr.eqB ((aW n t y).kid dg).ptr=false from by have h:=HBU.out.2.2;rw[←HDG.out];exact h];have hS1:=HSI.out _ ((HSE.out _ hS).trans hk);replace HL:=kL HL hk;replace HKI:=O (HKI.out.keep0 hk);replace HPV:=pK HPV hk;replace HNV:=O (cF.keep0 HNV.out hk);replace HBI:=O (fun i h=>(HBI.out i h).imp (fun c=>c.keep hk id) id);replace HKP:=O (HKP.out.trans (aA.any hk));replace HX:=O (HX.out.trans (aA.any hk));clear hS hk;go_wp2_with fail;refine⟨hS1,?_⟩;refine wpAnyH_done (by kernel_rfl) ?_ _;clear hS1 HSE HSI HLs HKIs HPVs HNVs HBIs HKPs HXs;refine wpIn_cond_false rfl ?_;refine wpIn_skip ?_;refine wpIn_seq ?_;refine cO (by kernel_rfl) (fun ⟨_,_,h⟩=>h) ?_;have c1:wn.cell? ⟨b15,176,none⟩=some (.int .i64 (dg:Int)):=(E1 HA35.out (dY _ _ HNV.out.nv) (by have hq:=HL.out.b 0;rw[HSC.out] at hq;exact hq))
   go_wp2_with ((with_reducible show WL _ _);first
    | refine wpList_load_mid rfl 27 (.tmp 12) rfl b12 0 rfl uc _ (aD (HL.out.b 1)) aF rfl (szP9 huc) ?_
    | refine sta 27 (.tmp 95) (.tmp 92) b15 (36+dg*35) uc (HL.out.b 0) (by rw[List.size_toArray,hsc,huc];omega) (szP9 huc) HOU.out ?_)
   clear c1;intro wo hk hb;rw[HSC.out,←HUC.out,show gD (some u)=u.ptr from rfl,ME (v:=v) (p:=u.ptr) HA35.out HNV.out.nv hd4 HPV.out.pt.sum,KV] at hb;have HNU:=O (HNV.out.upd (d:=dg) HPV.out);have hnn:=dY ((k+1:Nat):Int) (gQ (vss y) dg v) HNU.out.nv;obtain⟨nn,hnne⟩:∃x,cE ((k+1:Nat):Int) (gQ (vss y) dg v) (fun i=>(eX (aW n t y).kid dg u i).ptr)=x:=⟨_,rfl⟩
   have HNN:=O hnne;rw[hnne] at hb hnn;obtain⟨sd,hsde⟩:∃x,aE (pvs y) (aW n t y).ptr++(nn++[.int .i64 (dg:Int)])=x:=⟨_,rfl⟩
   have HSD:=O hsde;rw[hsde] at hb
   have HNUL:Hid (∀q,q<4->∀i,(gQ (vss y) dg v q).ownBlock=some i->i<W1.heap.size):=O (fun q hq i hi=>by
    by_cases e:q=dg
    ·rw[e,rK] at hi;exact HVL.out i hi
    ·rw[rL _ _ e] at hi;exact HNL.out q hq i hi)
   clear hnne hsde;replace HL:=O (HL.out.set 0 hk hb);replace HKI:=O (KI.keepT HKI.out hk (fun i e hq=>by rw[e] at hq;first|exact (HL.out.aq 0) hq|exact (HL.out.aq 1) hq|exact (HL.out.aq 2) hq|exact (HL.out.aq 3) hq|exact (HL.out.aq 4) hq|exact (HL.out.aq 5) hq|exact (HL.out.aq 6) hq));replace HBI:=O (fun i h=>(HBI.out i h).imp (fun cc=>cc.keep hk (fun e=>by rw[e] at h;first|exact (HL.out.aq 0) h|exact (HL.out.aq 1) h|exact (HL.out.aq 2) h|exact (HL.out.aq 3) h|exact (HL.out.aq 4) h|exact (HL.out.aq 5) h|exact (HL.out.aq 6) h)) id);replace HKP:=O (HKP.out.trans' hk (fun _ _ h=>h) (fun i hi e=>by first|exact .inr (.inl e)|exact .inr (.inr e)|(have:=HNb15.out;have:=HSW.out;omega)));replace HX:=O (HX.out.trans' hk (fun _ _ h=>h) (fun i _ e=>by first|exact .inr (.inl e)|exact .inr (.inr (.inl e))|exact .inr (.inr (.inr (.inl e)))|exact .inr (.inr (.inr (.inr (.inl e))))|exact .inr (.inr (.inr (.inr (.inr e))))));replace HNU:=O (cF.keepT HNU.out hk (fun q hq i hi e=>by have:=HNUL.out q hq i hi;have:=HNb15.out;omega));clear hk hb;refine wpList_nil ?_;refine cO (by kernel_rfl) (fun ⟨_,_,h⟩=>h) ?_;have c1:wo.cell? ⟨b4,0,none⟩=some (.pointer (some ⟨c,0,none⟩)):=(aC (i:=0) (HL.out.b 6) rfl)
   go_wp2_with ((with_reducible show WL _ _);refine wpList_load_mid rfl 98 (.tmp 98) rfl b15 35 rfl nn _ (KW HA35.out (by have hq:=(HL.out.b 0);rw[←HSD.out] at hq;exact hq)) Tryz.underlying98 rfl (by rw[hnn];exact dG) ?_)
   clear c1;refine((by rw[←HNN.out];exact KS HKI.out (by omega) (eX (aW n t y).kid dg u) (MC (fun i hi=>by have h:=HKO.out;rw[show 3-y=k+1 by omega] at h;exact h.kid hi) HBU.out.1.ext HBU.out.2.1) (gQ (vss y) dg v) HNU.out:Calls _ _ _ wo (cK wo c B' (.slice none 0 0) (T.lay (k+1) (eX (aW n t y).kid dg u)).1 (T.lay (k+1) (eX (aW n t y).kid dg u)).2))).mono ?_;rintro e wp ⟨v2,B2,hm2,hpv2,hki2,hBB2,hcl2,hnw2,hk⟩;obtain⟨er2,her2⟩:∃x,kZ (T.lay (k+1) (eX (aW n t y).kid dg u)).1=x:=⟨_,rfl⟩
   rw[her2] at hm2;have HER2:=O her2;subst hm2;replace hnw2:eN wo v2:=hnw2.elim (fun e=>by rw[e];exact eN.nil _) id;have HPV2:=O hpv2;have HKI2:=O hki2;have HNW2:=O hnw2;have HBB2:=O hBB2;have HBI2:Hid (∀i,B2 i->IsC wp i\/i<wi.heap.size/\B0 i/\¬IsC wi i):=O fun i h=>(hcl2 i h).imp id fun ⟨a1,a2⟩=>(HBI.out i a1).resolve_left a2
   have hlc2:=aJ (v:=v2) hpv2.pt.sum;have HLC20:=aU hpv2.pt;obtain⟨lc2,hlce2⟩:∃x,aE v2 (gD (T.lay (k+1) (eX (aW n t y).kid dg u)).1)=x:=⟨_,rfl⟩
   have HOLC2:Hid (∀u∈lc2,u.oneCell'=true):=O (by rw[←hlce2];exact HLC20);have HLCE2:=O hlce2;rw[hlce2] at hlc2 ⊢;have HSV:=O (show wi.heap.size≤wo.heap.size from HKP.out.size);have HLQ:=O (And.intro (HL.out.lt 1).2 (And.intro (HL.out.lt 2).2 (And.intro (HL.out.lt 3).2 (HL.out.lt 4).2)));clear hlce2 HLC20 hpv2 hki2 hcl2 hnw2 her2;replace HX:Hid (aA (fun i=>B' i\/i=b8\/i=b9\/i=b10\/i=b12\/i=b15) V wp):=O (HX.out.trans' hk (fun _ _ h=>h) (fun i _ e=>.inl e));replace HKP:=O (HKP.out.trans' hk (fun _ _ h=>h) (fun i hi e=>(HB2.out i e).elim .inl fun e=>by omega));replace HL:=O (HL.out.turn hk (fun i hi e=>(HB2.out i e).elim (fun e=>(HBB.out i e).elim id fun e=>by omega) fun e=>by have:=HWS.out;omega) (fun i hi e=>(hBB2 i e).elim id fun e=>by omega));clear hk hBB2 HKI HBI HNU
   go_wp2_with ((with_reducible show WL _ _);refine sta 27 (.tmp 12) (.tmp 101) b12 0 lc2 (HL.out.b 1) (by first|decide|(rw[hlc2];exact Nat.le_refl _)|simp[hlc2,huc]) (szP9 hlc2) HOLC2.out ?_)
   intro wq hk hb;rw[aI _ _ (by first|rfl|simp[hlc2,huc])] at hb;replace HL:=O (HL.out.set 1 hk hb);replace HKI2:=O (KI.keepT HKI2.out hk (fun i e hq=>by rw[e] at hq;first|exact (HL.out.aq 0) hq|exact (HL.out.aq 1) hq|exact (HL.out.aq 2) hq|exact (HL.out.aq 3) hq|exact (HL.out.aq 4) hq|exact (HL.out.aq 5) hq|exact (HL.out.aq 6) hq));replace HPV2:=O (bA.keepT HPV2.out hk (fun i hi e=>by have:=HNW2.out i hi;have:=HLQ.out;omega));replace HBI2:=O (fun i h=>(HBI2.out i h).imp (fun cc=>cc.keep hk (fun e=>by rw[e] at h;first|exact (HL.out.aq 0) h|exact (HL.out.aq 1) h|exact (HL.out.aq 2) h|exact (HL.out.aq 3) h|exact (HL.out.aq 4) h|exact (HL.out.aq 5) h|exact (HL.out.aq 6) h)) id);replace HKP:=O (HKP.out.trans' hk (fun _ _ h=>h) (fun i hi e=>by first|exact .inr (.inl e)|exact .inr (.inr e)|(have:=HNb15.out;have:=HSW.out;omega)));replace HX:=O (HX.out.trans' hk (fun _ _ h=>h) (fun i _ e=>by first|exact .inr (.inl e)|exact .inr (.inr (.inl e))|exact .inr (.inr (.inr (.inl e)))|exact .inr (.inr (.inr (.inr (.inl e))))|exact .inr (.inr (.inr (.inr (.inr e))))));clear hk hb
   go_wp2_with ((with_reducible show WL _ _);refine sta 49 (.tmp 10) (.tmp 102) b10 0 ([.int .i64 er2]) (HL.out.b 2) (by simp) (by kernel_rfl) (one9) ?_)
   intro wr hk hb;replace hb:wr.heap[b10]?=some (.cells #[.int .i64 er2] 49 (0,0)):=hb;replace HL:=O (HL.out.set 2 hk hb);replace HKI2:=O (KI.keepT HKI2.out hk (fun i e hq=>by rw[e] at hq;first|exact (HL.out.aq 0) hq|exact (HL.out.aq 1) hq|exact (HL.out.aq 2) hq|exact (HL.out.aq 3) hq|exact (HL.out.aq 4) hq|exact (HL.out.aq 5) hq|exact (HL.out.aq 6) hq));replace HPV2:=O (bA.keepT HPV2.out hk (fun i hi e=>by have:=HNW2.out i hi;have:=HLQ.out;omega));replace HBI2:=O (fun i h=>(HBI2.out i h).imp (fun cc=>cc.keep hk (fun e=>by rw[e] at h;first|exact (HL.out.aq 0) h|exact (HL.out.aq 1) h|exact (HL.out.aq 2) h|exact (HL.out.aq 3) h|exact (HL.out.aq 4) h|exact (HL.out.aq 5) h|exact (HL.out.aq 6) h)) id);replace HKP:=O (HKP.out.trans' hk (fun _ _ h=>h) (fun i hi e=>by first|exact .inr (.inl e)|exact .inr (.inr e)|(have:=HNb15.out;have:=HSW.out;omega)));replace HX:=O (HX.out.trans' hk (fun _ _ h=>h) (fun i _ e=>by first|exact .inr (.inl e)|exact .inr (.inr (.inl e))|exact .inr (.inr (.inr (.inl e)))|exact .inr (.inr (.inr (.inr (.inl e))))|exact .inr (.inr (.inr (.inr (.inr e))))));clear hk hb;go_wp2_with fail;have HSI0:=HL.out.b 1;have HSI1:=HL.out.b 2;rw[←HLCE2.out] at HSI0;rw[←HER2.out] at HSI1;have HSN:=HFIN.out _ v2 B2 HSI0 HSI1 HPV2.out (fun i hi=>by (have:=HNW2.out i hi;have:=HLQ.out;omega)) HKI2.out (fun i h=>(HBB2.out i h).elim (HB2.out i) fun e=>.inr (by have:=HSV.out;omega)) HBI2.out HKP.out
   refine⟨KpN.of HX.out fun i o e hn ho=>by
    rcases e with e|e|e|e|e|e
    ·rcases HBV.out i e with⟨cs,t,h⟩|h
     ·rw[h] at ho;cases ho;rfl
     ·omega
    ·have:=HG.out;omega
    ·have:=HG.out;omega
    ·have:=HG.out;omega
    ·have:=HG.out;omega
    ·subst e;rw[HLV.out.b 0] at ho;cases ho;rfl,KpC.of HX.out (fun i e=>?_),HSN⟩
   rcases e with e|e|e|e|e|e
   ·exact(HB2.out i e).elim .inl fun e=>.inr (.inr (.inr (.inr (.inr e))))
   ·exact .inr (.inl e)
   ·exact .inr (.inr (.inl e))
   ·exact .inr (.inr (.inr (.inl e)))
   ·exact .inr (.inr (.inr (.inr (.inl e))))
   ·exact .inr (.inr (.inr (.inr (.inr (by have:=HNb15.out;have:=HSW.out;omega)))))
 case done =>
  rintro D W hDs ⟨y,v,B',hky,h12,h10,hpv,hvo,hki,hB',hBI,hkp⟩ hDd;obtain rfl:y=0:=by omega
  rename_i KQ hKQ;obtain⟨⟨r,T⟩,hrT⟩:∃q,eG 3 S t n bs=q:=⟨_,rfl⟩
  have e0:eG 3 S (aW n t 0) n bs=(r,T):=hrT;rw[e0] at h12 h10 hpv hki;rw[hrT] at hKQ ⊢;dsimp only at h12 h10 hpv hki hKQ ⊢;have HRT:=O hrT;have huc:=aJ (v:=v) hpv.pt.sum;have HOU0:=aU hpv.pt;obtain⟨uc,huce⟩:∃x,aE v (gD r)=x:=⟨_,rfl⟩
  have HOU:Hid (∀u∈uc,u.oneCell'=true):=O (by rw[←huce];exact HOU0);have HUC:=O huce;rw[huce] at huc h12;have HL1:=O (Loc.round HL.out h12 h10 hB' HBB.out hkp);have HKI:=O hki;have HPV:=O hpv;have HBI:=O hBI;have HDD:=O hDd;have HKP:Hid (aA (fun i=>B0 i\/i=b8\/i=b9\/i=b10\/i=b12) wi W):=O ((aA.refl aB wi).trans' hkp (fun _ _ h=>h.elim) (fun i hi e=>e.elim .inl fun e=>e.elim (fun e=>.inr (.inr (.inr (.inl e)))) fun e=>.inr (.inr (.inr (.inr e)))));have HPVO:=O hvo
  have HFX:Hid (∀Wf v2,bA Wf B' v2 (gD r)->v2=.slice none 0 0\/eN w v2->KI Wf c T B'->(∀i,B' i->IsC Wf i\/i<wi.heap.size/\B0 i/\¬IsC wi i)->aA (fun i=>B0 i\/i=b8\/i=b9\/i=b10\/i=b12) wi Wf->Wf.heap[D]?=some (.deferred (some []))->cK w c B (.slice none 0 0) r T (.returned (.tuple #[.agg (aE v2 (gD r)).toArray,.int .i64 (kZ r)])) (Wf.putObj D (.deferred none))):=O fun Wf v2 a1 a2 a3 a4 a5 a6=>by
   have kd:=aA.of_grown (grownBy_putObj' Wf D (.deferred none));have no:=fun {i:Nat}(h:IsC Wf i)=>nI a6 rfl h
   have nB:∀i,some D=some i->¬B' i:=fun i e hb=>(a4 i hb).elim (fun h=>no h e) fun h=>by have:=h.1;injection e with e;omega
   exact cK.upon (W:=Wf) rfl (a1.keepT kd fun i hi=>no (a1.off i hi).2) (a3.keepT kd nB) a2 HBB.out hB' HLW.out HCL.out (fun i h=>(a4 i h).imp (fun c=>c.keep kd (no c)) id) HL.out.keep (a5.trans' kd (fun _ _ h=>h) (fun i hi e=>by injection e with e;omega)) (fun i h=>h.elim .inl fun h=>.inr (by have:=HLK.out;omega))
  replace HL:=HL1;have HD8:=O (show b8≠D/\b9≠D from by have:=HG.out;omega)
  have HBU:Hid (∀u,r=some u->u.ptr.addrs.length≤65536):=O fun u hu=>by
   subst hu;have h:=(EZ (t:=t) (n:=n) (k:=3) (y:=0) HBD.out HT.out HBL.out HNE.out (by omega) e0).2.1;have:=(iC (Tr.Ok.may3 h)).1;omega
  clear hpv hki hBI hB' hkp h10 h12 hI0 HBK HOU0 HL1 hrT e0 huce hvo;show KQ _ _;refine hKQ _ _ ?_;clear hKQ;rcases r with _|u
  ·replace HL:Hid (Loc B B' w W [(b12,uc.toArray,27),(b10,#[.int .i64 15],49),(b9,#[.int .i64 0],49),(b8,aH.toArray,27),(b5,pc.toArray,27),(b4,#[.pointer (some ⟨c,0,none⟩)],39)]):=HL
   have c1:W.cell? ⟨b10,0,none⟩=some (.int .i64 15):=(aC (i:=0) (HL.out.b 1) rfl)
   go_wp2_with fail;clear c1;go_wp2_with fail;refine dwB (fun k=>k=b8\/k=b9) (by kernel_rfl) ?_;intro wk S HSE HSI hS hkd;replace HL:=kL HL hkd;replace HKI:=O (HKI.out.keep0 hkd);replace HBI:=O (fun i h=>(HBI.out i h).imp (fun c=>c.keep hkd id) id);replace HKP:=O (HKP.out.trans (aA.any hkd));replace HDD:=O (hkd.blk HDD.out id);clear hkd;have HLs:=HL;have HKIs:=HKI;have HBIs:=HBI;have HKPs:=HKP;have HDDs:=HDD;refine tnd 0 (.agg aH.toArray) rfl (qM (by rfl) 27 rfl pW) hS ?_;refine tnd 1 (.int .i64 15) rfl (.inl ⟨by rfl,fun w' hw'=>by have c:World.cell? w' ⟨b10,0,none⟩=some (.int .i64 15):=aC (i:=0) ((HSE.out w' hw').blk (HLs.out.b 1) (fun e=>by rcases e with e|e<;>first|exact bF (i:=3) HLs.out.nd rfl 1 (by decide) rfl e|exact bF (i:=2) HLs.out.nd rfl 1 (by decide) rfl e)) rfl;go_simp⟩) hS ?_;refine wA9 2 ?_;refine sta 27 (.tmp 8) (.tmp 105) b8 0 aH (HL.out.b 3) (by first|decide|(rw[aG];exact Nat.le_refl _)|simp[aG,aG]) (szP9 aG) zK ?_;intro wl hk hb;rw[aI _ _ (by first|rfl|simp[aG,aG])] at hb;have hS1:=HSI.out _ ((HSE.out _ hS).trans' hk (fun _ _ h=>h) (fun i hi e=>(.inl e)));clear hS;replace HL:=O (HL.out.set 3 hk hb);replace HKI:=O (KI.keepT HKI.out hk (fun i e hq=>by rw[e] at hq;first|exact (HL.out.aq 0) hq|exact (HL.out.aq 1) hq|exact (HL.out.aq 2) hq|exact (HL.out.aq 3) hq|exact (HL.out.aq 4) hq|exact (HL.out.aq 5) hq|exact (HL.out.aq 6) hq));replace HBI:=O (fun i h=>(HBI.out i h).imp (fun cc=>cc.keep hk (fun e=>by rw[e] at h;first|exact (HL.out.aq 0) h|exact (HL.out.aq 1) h|exact (HL.out.aq 2) h|exact (HL.out.aq 3) h|exact (HL.out.aq 4) h|exact (HL.out.aq 5) h|exact (HL.out.aq 6) h)) id);replace HKP:=O (HKP.out.trans' hk (fun _ _ h=>h) (fun i hi e=>by first|exact .inr (.inl e)|exact .inr (.inr (.inl e))));replace HDD:=O (hk.blk HDD.out (fun e=>by have:=HD8.out;omega));clear hk hb;refine wpList_nil ?_;refine⟨hS1,?_⟩;refine wA9 3 ?_;refine sta 49 (.tmp 9) (.tmp 106) b9 0 ([.int .i64 15]) (HL.out.b 2) (by simp) (by kernel_rfl) (one9) ?_;intro wm hk hb;replace hb:wm.heap[b9]?=some (.cells #[.int .i64 15] 49 (0,0)):=hb;have hS2:=HSI.out _ ((HSE.out _ hS1).trans' hk (fun _ _ h=>h) (fun i hi e=>(.inr (e))));clear hS1;replace HL:=O (HL.out.set 2 hk hb);replace HKI:=O (KI.keepT HKI.out hk (fun i e hq=>by rw[e] at hq;first|exact (HL.out.aq 0) hq|exact (HL.out.aq 1) hq|exact (HL.out.aq 2) hq|exact (HL.out.aq 3) hq|exact (HL.out.aq 4) hq|exact (HL.out.aq 5) hq|exact (HL.out.aq 6) hq));replace HBI:=O (fun i h=>(HBI.out i h).imp (fun cc=>cc.keep hk (fun e=>by rw[e] at h;first|exact (HL.out.aq 0) h|exact (HL.out.aq 1) h|exact (HL.out.aq 2) h|exact (HL.out.aq 3) h|exact (HL.out.aq 4) h|exact (HL.out.aq 5) h|exact (HL.out.aq 6) h)) id);replace HKP:=O (HKP.out.trans' hk (fun _ _ h=>h) (fun i hi e=>by first|exact .inr (.inl e)|exact .inr (.inr (.inl e))));replace HDD:=O (hk.blk HDD.out (fun e=>by have:=HD8.out;omega));clear hk hb;refine wpList_nil ?_;refine⟨hS2,?_⟩;refine wpAnyH_done (by kernel_rfl) ?_ _;clear hS2 HSE HSI HLs HKIs HBIs HKPs HDDs;refine noP ?_;go_wp2_with fail;have HB8:=O (HL.out.b 3);have HPF:=O (HFX.out _ (.slice none 0 0) (bA.hole _ _) (.inl rfl) HKI.out HBI.out HKP.out HDD.out);have kd:=aA.of_grown (grownBy_putObj' wm D (.deferred none));have HP8:=O (kd.blk (HL.out.b 3) (nI HDD.out rfl ⟨_,_,HL.out.b 3⟩));have c9:(wm.putObj D (.deferred none)).cell? ⟨b9,0,none⟩=some (.int .i64 15):=aC (i:=0) (kd.blk (HL.out.b 2) (nI HDD.out rfl ⟨_,_,HL.out.b 2⟩)) rfl;have hdf:=HDD.out;clear kd HL HKI HBI HKP;show bodyPostM _ _ _ _ _ .ret _ _;refine⟨by simp,.inl ⟨_,_,rfl,run_takeDeferred hdf,?_⟩⟩;exact⟨_,eY rfl _ _ b8 _ _ _ _ rfl HP8.out aF rfl (by rw[List.size_toArray,aG];exact dF) ⟨b9,0,none⟩ (.int .i64 15) rfl (by go_simp),HPF.out⟩
  ·replace HL:Hid (Loc B B' w W [(b12,uc.toArray,27),(b10,#[.int .i64 0],49),(b9,#[.int .i64 0],49),(b8,aH.toArray,27),(b5,pc.toArray,27),(b4,#[.pointer (some ⟨c,0,none⟩)],39)]):=HL
   have c1:W.cell? ⟨b10,0,none⟩=some (.int .i64 0):=(aC (i:=0) (HL.out.b 1) rfl)
   go_wp2_with ((with_reducible show WL _ _);refine wpList_load_mid rfl 27 (.tmp 12) rfl b12 0 rfl uc _ (aD (HL.out.b 0)) aF rfl (szP9 huc) ?_)
   clear c1;have HLS:=O HL.out.keep.size;have HLB:=O (And.intro (HL.out.lt 2).2 (HL.out.lt 3).2);refine((by rw[←HUC.out];exact Dn (fun i e=>HKI.out.lt e) v u.ptr HPV.out.pt (HBU.out u rfl):Calls _ _ _ W (vL W B' u.ptr))).mono ?_;rintro e wk ⟨ov,rfl,hov,hovn,hk⟩;have HOV:=O hov;have HOVN:=O hovn;have HON2:=O (hovn.from HLS.out);obtain⟨oc,HOCE,hoc,HOOC⟩:=nmPt hov.pt;rw[HOCE.out];clear hov hovn;replace HL:=kL HL hk;replace HKI:=O (HKI.out.keep0 hk);replace HPV:=pK HPV hk;replace HBI:=O (fun i h=>(HBI.out i h).imp (fun c=>c.keep hk id) id);replace HKP:=O (HKP.out.trans (aA.any hk));replace HDD:=O (hk.blk HDD.out id);clear hk;clear HPV
   go_wp2_with ((with_reducible show WL _ _);refine sta 27 (.tmp 8) (.tmp 108) b8 0 oc (HL.out.b 3) (by first|decide|(rw[hoc];exact Nat.le_refl _)|simp[hoc,aG]) (szP9 hoc) HOOC.out ?_)
   intro wl hk hb;rw[aI _ _ (by first|rfl|simp[hoc,aG])] at hb;replace HL:=O (HL.out.set 3 hk hb);replace HKI:=O (KI.keepT HKI.out hk (fun i e hq=>by rw[e] at hq;first|exact (HL.out.aq 0) hq|exact (HL.out.aq 1) hq|exact (HL.out.aq 2) hq|exact (HL.out.aq 3) hq|exact (HL.out.aq 4) hq|exact (HL.out.aq 5) hq|exact (HL.out.aq 6) hq));replace HBI:=O (fun i h=>(HBI.out i h).imp (fun cc=>cc.keep hk (fun e=>by rw[e] at h;first|exact (HL.out.aq 0) h|exact (HL.out.aq 1) h|exact (HL.out.aq 2) h|exact (HL.out.aq 3) h|exact (HL.out.aq 4) h|exact (HL.out.aq 5) h|exact (HL.out.aq 6) h)) id);replace HKP:=O (HKP.out.trans' hk (fun _ _ h=>h) (fun i hi e=>by first|exact .inr (.inl e)|exact .inr (.inr (.inl e))));replace HDD:=O (hk.blk HDD.out (fun e=>by have:=HD8.out;omega));replace HOV:=O (bA.keepT HOV.out hk (fun i hi e=>by have:=HOVN.out i hi;have:=HLB.out;omega));clear hk hb
   go_wp2_with ((with_reducible show WL _ _);refine sta 49 (.tmp 9) (.const (.int .i64 0)) b9 0 ([.int .i64 0]) (HL.out.b 2) (by simp) (by kernel_rfl) (one9) ?_)
   intro wm hk hb;replace hb:wm.heap[b9]?=some (.cells #[.int .i64 0] 49 (0,0)):=hb;replace HL:=O (HL.out.set 2 hk hb);replace HKI:=O (KI.keepT HKI.out hk (fun i e hq=>by rw[e] at hq;first|exact (HL.out.aq 0) hq|exact (HL.out.aq 1) hq|exact (HL.out.aq 2) hq|exact (HL.out.aq 3) hq|exact (HL.out.aq 4) hq|exact (HL.out.aq 5) hq|exact (HL.out.aq 6) hq));replace HBI:=O (fun i h=>(HBI.out i h).imp (fun cc=>cc.keep hk (fun e=>by rw[e] at h;first|exact (HL.out.aq 0) h|exact (HL.out.aq 1) h|exact (HL.out.aq 2) h|exact (HL.out.aq 3) h|exact (HL.out.aq 4) h|exact (HL.out.aq 5) h|exact (HL.out.aq 6) h)) id);replace HKP:=O (HKP.out.trans' hk (fun _ _ h=>h) (fun i hi e=>by first|exact .inr (.inl e)|exact .inr (.inr (.inl e))));replace HDD:=O (hk.blk HDD.out (fun e=>by have:=HD8.out;omega));replace HOV:=O (bA.keepT HOV.out hk (fun i hi e=>by have:=HOVN.out i hi;have:=HLB.out;omega));clear hk hb;go_wp2_with fail;have HB8:=O (HL.out.b 3);have HPF:=O (HFX.out _ ov HOV.out (.inr HON2.out) HKI.out HBI.out HKP.out HDD.out);have kd:=aA.of_grown (grownBy_putObj' wm D (.deferred none));have HP8:=O (kd.blk (HL.out.b 3) (nI HDD.out rfl ⟨_,_,HL.out.b 3⟩));have c9:(wm.putObj D (.deferred none)).cell? ⟨b9,0,none⟩=some (.int .i64 0):=aC (i:=0) (kd.blk (HL.out.b 2) (nI HDD.out rfl ⟨_,_,HL.out.b 2⟩)) rfl;have hdf:=HDD.out;rw[show gD (some u)=u.ptr from rfl,HOCE.out] at HPF;clear kd HL HKI HBI HKP;show bodyPostM _ _ _ _ _ .ret _ _;refine⟨by simp,.inl ⟨_,_,rfl,run_takeDeferred hdf,?_⟩⟩;exact⟨_,eY rfl _ _ b8 _ _ _ _ rfl HP8.out aF rfl (by rw[List.size_toArray,hoc];exact dF) ⟨b9,0,none⟩ (.int .i64 0) rfl (by go_simp),HPF.out⟩
 case stop =>
  rintro D W hDs ⟨T,B',hset,h8,h9,hki,hB',hBI,hkp⟩ hDd;have kd:=aA.of_grown (grownBy_putObj' W D (.deferred none));have no:=fun {i:Nat}(h:IsC W i)=>nI hDd rfl h
  have nB:∀i,some D=some i->¬B' i:=fun i e hb=>(hBI i hb).elim (fun h=>no h e) fun h=>by have:=h.1;injection e with e;omega
  have HP:Hid (cK w c B (.slice none 0 0) none T (.returned (.tuple #[.agg aH.toArray,.int .i64 15])) (W.putObj D (.deferred none))):=O (cK.upon (W:=W) rfl (bA.hole _ _) (hki.keepT kd nB) (.inl rfl) HBB.out hB' HLW.out HCL.out (fun i h=>(hBI i h).imp (fun c=>c.keep kd (no c)) id) HL.out.keep (hkp.trans' kd (fun _ _ h=>h) (fun i hi e=>by injection e with e;omega)) (fun i h=>h.elim .inl fun h=>.inr (by have:=HLK.out;omega)));have HP8:=O (kd.blk h8 (no ⟨_,_,h8⟩));have c9:(W.putObj D (.deferred none)).cell? ⟨b9,0,none⟩=some (.int .i64 15):=aC (i:=0) (kd.blk h9 (no ⟨_,_,h9⟩)) rfl;rw[hset];clear kd no nB hki hB' hBI hkp h8 h9 hI0 HBK;show bodyPostM _ _ _ _ _ .ret _ _;refine⟨by simp,.inl ⟨_,_,rfl,run_takeDeferred hDd,?_⟩⟩;exact⟨_,eY rfl _ _ b8 _ _ _ _ rfl HP8.out aF rfl (by rw[List.size_toArray,aG];exact dF) ⟨b9,0,none⟩ (.int .i64 15) rfl (by go_simp),HP.out⟩
theorem mS{w:World}{c:Nat}{S:Kor}{B:Nat->Prop}(hK:KI w c S B)(pv:Value)(t:Tr)(ht:Tr.Ok S 3 t)(hp:bA w B pv t.ptr)(n:Nat)(hn:n<64)(vv:Value)(bs:List UInt8)(hbl:bs.length=256)(hr:Rd w 1 vv 256 (bs.map vb))(hvb:∀i,vv.ownBlock=some i->¬B i/\i<w.heap.size):Calls Tryz.prog 46 #[.pointer (some ⟨c,0,none⟩),.agg (aE pv t.ptr).toArray,.int .i64 (n:Int),vv] w (cK w c B (.slice none 0 0) (sV S t n bs).1 (sV S t n bs).2):=by
 unfold sV
 by_cases h:t.blk 3 n=bs
 ·rw[if_pos h];exact Jc hK pv t ht hp n hn vv bs hbl hr hvb h
 ·rw[if_neg h];exact Jd hK pv t ht hp n hn vv bs hbl hr hvb h
theorem zL(w:World)(l:Nat)(hl:l≤3):Calls Tryz.prog 42 #[.int .i64 (l:Int)] w (aK w (.int .i64 ((4 ^ l:Nat):Int))):=by
 have HL:=lN w;rcases l with _|_|_|_|l
 ·go_in
  go_wp2;go_ret;exact aK.of HL.out.keep
 ·go_in
  go_wp2;go_ret;exact aK.of HL.out.keep
 ·go_in
  go_wp2;go_ret;exact aK.of HL.out.keep
 ·go_in
  go_wp2;go_ret;exact aK.of HL.out.keep
 ·omega
theorem GA{w:World}{c:Nat}{B:Nat->Prop}(pv:Value)(hp:PtV w pv zPt)(l:Nat):Calls Tryz.prog 41 #[.pointer (some ⟨c,0,none⟩),.agg (aE pv zPt).toArray,.int .i64 ((l+1:Nat):Int)] w (fG w B l .hole):=by
 obtain⟨p,hpz⟩:∃p,zPt=p:=⟨_,rfl⟩
 have HH:Hid (p.hole=true):=O (by rw[←hpz];exact iI);rw[hpz] at hp ⊢;have HPT:=O hp;obtain⟨pc,HPC,hpc,HOP⟩:=nmPt hp;rw[HPC.out];have hnz:(cE ((l+1:Nat):Int) (fun _=>.slice none 0 0) (fun _=>zPt)).length=141:=rfl;have hbn:=Aw ((l+1:Nat):Int);obtain⟨nz,hnze⟩:∃x,cE ((l+1:Nat):Int) (fun _=>.slice none 0 0) (fun _=>zPt)=x:=⟨_,rfl⟩
 have HOZ:Hid (∀u∈nz,u.oneCell'=true):=O (by rw[←hnze];exact dI (w:=w) _ fun _ _=>sU w);have HNZ:=O hnze;rw[hnze] at hnz hbn;have HBN:=O hbn;obtain⟨lv,hlv⟩:∃x,((l+1:Nat):Int)=x:=⟨_,rfl⟩
 rw[hlv] at HBN ⊢;have HL:=lN w;clear hp hnze hbn hpz hlv;have HPT0:=HPT;go_in
 go_wp2_with ((with_reducible show WL _ _);refine bxL HL 27 (.tmp 1) (pc.toArray) ?_)
 intro b4 w1 hk HL;replace HPT:=O (HPT.out.keep hk fun _ _=>id);clear hk
 go_wp2_with ((with_reducible show WL _ _);refine alL HL 98 (.agg dC.toArray) (dC.toArray) jK ?_)
 intro b6 w2 hk HL;replace HPT:=O (HPT.out.keep hk fun _ _=>id);clear hk
 go_wp2_with ((with_reducible show WL _ _);refine wpList_load_mid rfl 27 (.tmp 4) rfl b4 0 rfl pc _ (aD (HL.out.b 1)) aF rfl (szP9 hpc) ?_)
 refine((by rw[←HPC.out];exact cJ w2 pv p HPT.out:Calls _ _ _ w2 (aX w2 p.hole))).mono ?_;rintro e w3 ⟨rfl,hk⟩;replace HL:=kL HL hk;replace HPT:=O (HPT.out.keep hk fun _ _=>id);clear hk;rw[HH.out]
 go_wp2_with ((with_reducible show WL _ _);first
  | refine bld 98 #[(0,.tmp 14)] [(0,.int .i64 lv)] (.agg nz.toArray) HBN.out ?_
  | refine sta 98 (.tmp 6) (.tmp 15) b6 0 nz (HL.out.b 0) (by first|decide|(rw[hnz];exact Nat.le_refl _)|simp[hnz,bT]) (by rw[hnz];exact dG) HOZ.out ?_)
 intro w4 hk hb;rw[aI _ _ (by first|rfl|simp[hnz,bT])] at hb;replace HL:=O (HL.out.set 0 hk hb);replace HPT:=O (HPT0.out.keep HL.out.keep fun _ _=>id);clear hk hb;have HB6:=O (HL.out.b 0);have HKE:=O HL.out.keep;clear HL HPT;go_wp2_with fail;refine bodyPost_ret (bI rfl _ _ b6 _ _ _ _ rfl HB6.out Tryz.underlying98 rfl (by rw[List.size_toArray,hnz];exact dG)) rfl ?_;exact⟨fun _=>.slice none 0 0,(by rw[←HNZ.out];rfl),cF.hole _ B,fun _ _=>eN.nil w,HKE.out⟩
theorem GB{w:World}{c:Nat}{S:Kor}{B:Nat->Prop}(hK:KI w c S B)(pv:Value)(p:Pt)(hp:PtV w pv p)(l:Nat)(hl:l≤2)(k:Nat->Tr)(hg:jB S p (l+1) (cQ (l+1) (fB k)))(hk4:∀i,i<4->Tr.Ok S l (k i)):Calls Tryz.prog 41 #[.pointer (some ⟨c,0,none⟩),.agg (aE pv p).toArray,.int .i64 ((l+1:Nat):Int)] w (fG w B l (.node p k)):=by
 have HH:Hid (p.hole=false):=O hg.ne_hole;have HPT:=O hp;have HK:=O hK;have HG:=O hg;have HK4:=O hk4;have HBLT:=O (fun i (e:B i)=>hK.lt e);obtain⟨pc,HPC,hpc,HOP⟩:=nmPt hp;rw[HPC.out];have HNB:Hid (cQ (l+1) (fB k)=nb (l+1) (fun i=>(k i).ptr)):=O (Tr.Ok.nb_eq (l+1) hk4).symm;have hlv0:0≤((l+1:Nat):Int):=by omega
 have HL:=lN w;clear hp hg hk4 hK;go_in
 go_wp2_with ((with_reducible show WL _ _);refine bxL HL 27 (.tmp 1) (pc.toArray) ?_)
 intro b4 w1 hk HL;replace HPT:=O (HPT.out.keep hk fun _ _=>id);replace HK:=O (HK.out.keep0 hk);clear hk
 go_wp2_with ((with_reducible show WL _ _);refine alL HL 98 (.agg dC.toArray) (dC.toArray) jK ?_)
 intro b6 w2 hk HL;replace HPT:=O (HPT.out.keep hk fun _ _=>id);replace HK:=O (HK.out.keep0 hk);clear hk
 go_wp2_with ((with_reducible show WL _ _);refine wpList_load_mid rfl 27 (.tmp 4) rfl b4 0 rfl pc _ (aD (HL.out.b 1)) aF rfl (szP9 hpc) ?_)
 refine((by rw[←HPC.out];exact cJ w2 pv p HPT.out:Calls _ _ _ w2 (aX w2 p.hole))).mono ?_;rintro e w3 ⟨rfl,hk⟩;replace HL:=kL HL hk;replace HPT:=O (HPT.out.keep hk fun _ _=>id);replace HK:=O (HK.out.keep0 hk);clear hk;rw[HH.out]
 go_wp2_with ((with_reducible show WL _ _);refine wpList_load_mid rfl 27 (.tmp 4) rfl b4 0 rfl pc _ (aD (HL.out.b 1)) aF rfl (szP9 hpc) ?_)
 refine((by rw[←HPC.out];exact KI.get HK.out HPT.out HG.out:Calls _ _ _ w3 (fK w3 (cQ (l+1) (fB k))))).mono ?_;rintro e w4 ⟨v1,rfl,ho,hk⟩;rw[HNB.out] at ho;obtain⟨va,vc,rfl,-,-⟩:=(Rd.of_owns ho).form;have HO:=O ho;clear ho;replace HL:=kL HL hk;replace HPT:=O (HPT.out.keep hk fun _ _=>id);replace HK:=O (HK.out.keep0 hk);clear hk;go_wp2_with fail;have HSZ:=O HL.out.keep.size;have HL6:=O (HL.out.lt 0).2;refine((wI w4 (.slice va 256 vc) (l+1) (fun i=>(k i).ptr) (by omega) (by omega) (fun i hi=>(HK4.out i hi).sl) (fun i hi=>by have:=(HK4.out i hi).fit;exact this) (Rd.of_owns HO.out))).mono ?_;rintro e w5 ⟨vs,rfl,hvs,hk⟩;have HV6:=O (fun j (hj:j<4) i (hi:(vs j).ownBlock=some i) (e:i=b6)=>by have h1:=((hvs j hj).2 i hi).1;have h2:=HL6.out;omega:∀j,j<4->∀i,(vs j).ownBlock=some i->¬i=b6);have HNB2:=O (fun q (hq:q<4) i (hi:(vs q).ownBlock=some i)=>by have:=((hvs q hq).2 i hi).1;have:=HSZ.out;omega:∀q,q<4->eN w (vs q));have HNN:=O (hvs.nval (B:=B) (fun i e=>by have:=HBLT.out i e;have:=HSZ.out;omega));have hnn:=dY ((l+1:Nat):Int) vs hvs.nv;have HOF0:=dI ((l+1:Nat):Int) hvs.nv;obtain⟨nn,hnne⟩:∃x,cE ((l+1:Nat):Int) vs (fun i=>(k i).ptr)=x:=⟨_,rfl⟩
 have HOF:Hid (∀u∈nn,u.oneCell'=true):=O (by rw[←hnne];exact HOF0);have HNF:=O hnne;rw[hnne] at hnn ⊢;clear HOF0 hnne hvs;replace HL:=kL HL hk;replace HPT:=O (HPT.out.keep hk fun _ _=>id);replace HK:=O (HK.out.keep0 hk);replace HO:=O (hk.owns HO.out fun _ _=>id);clear hk;have HKR:=O HL.out.keep;have HB6:=O (HL.out.b 0);have HG6:=O (HL.out.lt 0);replace HL:=O (Loc.nil aB aB w5);have HNN0:=HNN;have HB60:=HB6;clear HPT HK HO
 go_wp2_with ((with_reducible show WL _ _);refine al 98 (.agg dC.toArray) (dC.toArray) jK ?_)
 intro b10 w6 hbs hk0 hb0_
 go_wp2_with ((with_reducible show WL _ _);refine sta 98 (.tmp 10) (.tmp 29) b10 0 nn hb0_ (by first|decide|(rw[List.size_toArray,hnn];exact Nat.le_refl _)|simp[hnn,bT]) (by rw[hnn];exact dG) HOF.out ?_)
 intro w7 hk hb;rw[aI _ _ (by first|rfl|(rw[List.size_toArray,hnn];rfl)|simp[hnn,bT])] at hb;replace hk:=tX hk0 hk (fun i hi e=>by omega);replace HL:=lW HL hbs hk hb;replace HNN:=O (cF.keep0 HNN.out hk);replace HB6:=O (hk.blk HB6.out id);clear hbs hk hb hk0 hb0_;have c1:w7.cell? ⟨b10,0,none⟩=some (.int .i64 ((l+1:Nat):Int)):=aC (i:=0) (HL.out.b 0) (by rw[←HNF.out];rfl)
 go_wp2_with ((with_reducible show WL _ _);first
  | refine wpList_load_mid rfl 98 (.tmp 10) rfl b10 0 rfl nn _ (aD (HL.out.b 0)) Tryz.underlying98 rfl (by rw[hnn];exact dG) ?_
  | refine sta 98 (.tmp 6) (.tmp 40) b6 0 nn HB6.out (by rw[List.size_toArray,bT,hnn];omega) (by rw[hnn];exact dG) HOF.out ?_)
 clear c1;intro w9 hk hb;rw[aI _ _ (by rw[List.size_toArray,bT,hnn])] at hb;have HP:Hid (fG w B l (.node p k) (.returned (.tuple #[.agg nn.toArray,.int .i64 0])) w9):=O ⟨vs,by rw[←HNF.out];rfl,fun i hi=>(HNN.out i hi).keepT hk (fun j hj e=>HV6.out i hi j hj e),HNB2.out,(HKR.out.trans HL.out.keep).trans' hk (fun _ _ h=>h) (fun i hi e=>by have:=HG6.out.1;omega)⟩;have HB9:=O hb;clear hb hk HL HNN HB6;go_wp2_with fail;refine bodyPost_ret (bI rfl _ _ b6 _ _ _ _ rfl HB9.out Tryz.underlying98 rfl (by rw[List.size_toArray,hnn];exact dG)) rfl ?_;exact HP.out
theorem Bm{w:World}{c:Nat}{S:Kor}{B:Nat->Prop}(hK:KI w c S B){l:Nat}(hl:l≤2)(pv:Value)(t:Tr)(ht:Tr.Ok S (l+1) t)(hp:PtV w pv t.ptr):Calls Tryz.prog 41 #[.pointer (some ⟨c,0,none⟩),.agg (aE pv t.ptr).toArray,.int .i64 ((l+1:Nat):Int)] w (fG w B l t):=by
 cases t with
 | hole=>exact GA pv hp l
 | leaf p b=>exact ht.elim
 | node p k=>exact GB hK pv p hp l hl k ht.1 ht.2.1
theorem oD(w:World)(x:Int):Calls Tryz.prog 35 #[.int .i64 x] w fun e w'=>∃g,e=.returned (.func (.func 68) #[] #[.pointer (some ⟨g,0,none⟩)])/\w'.heap[g]?=some (.cells #[.int .i64 x] 3 (0,0))/\w.heap.size≤g/\aA aB w w':=by
 go_in;have HL:=lN w
 go_wp2_with ((with_reducible show WL _ _);refine bxL HL 3 (.tmp 0) (#[.int .i64 x]) ?_)
 intro b1 w1 hk HL;clear hk;go_wp2;go_ret;exact⟨b1,rfl,HL.out.b 0,(HL.out.lt 0).1,HL.out.keep⟩
theorem kC{w:World}{g:Nat}{x:Int}(hg:w.heap[g]?=some (.cells #[.int .i64 x] 3 (0,0)))(pv:Value)(p:Pt)(hp:PtV w pv p):Calls Tryz.prog 68 #[.agg (aE pv p).toArray,.pointer (some ⟨g,0,none⟩)] w (aX w (decide (x<p.birth))):=by
 have hpc:=aJ (v:=pv) hp.sum;have hop:=aU hp;have h1:(aE pv p).toArray[1]?=some (.int .i64 p.birth):=rfl;obtain⟨pc,hpce⟩:∃l,aE pv p=l:=⟨_,rfl⟩
 obtain⟨bt,hbt⟩:∃l,p.birth=l:=⟨_,rfl⟩
 rw[hpce] at hpc hop h1 ⊢;rw[hbt] at h1 ⊢;have H1:=O h1;have HG:=O hg;clear hpce hbt hop h1 hg hp;have HL:=lN w;go_in
 go_wp2_with ((with_reducible show WL _ _);refine bxL HL 27 (.tmp 0) (pc.toArray) ?_)
 intro b2 w1 hk HL;replace HG:=O (hk.blk HG.out id);clear hk;have c1:w1.cell? ⟨b2,1,none⟩=some (.int .i64 bt):=aC (i:=1) (HL.out.b 0) H1.out;have c2:w1.cell? ⟨g,0,none⟩=some (.int .i64 x):=cell_of_one HG.out;go_wp2;go_ret;exact⟨rfl,HL.out.keep⟩
def dJ(v:Value)(p:Pt)(a:Int):List Value:=aE v p++[.int .i64 a]
theorem jO{v:Value}{p:Pt}{a:Int}(h:p.sum.length=32):(dJ v p a).length=36:=by unfold dJ;rw[List.length_append,aJ h];rfl
theorem jP{w:World}{v:Value}{p:Pt}{a:Int}(h:PtV w v p):∀u∈dJ v p a,u.oneCell'=true:=by
 intro u hu;rcases List.mem_append.1 hu with hu|hu
 ·exact aU h u hu
 ·rw[List.mem_singleton] at hu
  subst hu;rfl
theorem ND(v u:Value)(p:Pt)(a:Int):spl (dJ v p a).toArray 0 [u]=(dJ u p a).toArray:=rfl
theorem eI{w:World}{b:Nat}{v:Value}{p:Pt}{a:Int}{t:TypeId}{fr:Nat×Nat}(h:w.heap[b]?=some (.cells (dJ v p a).toArray t fr)):w.rangeAt b 0 (aE v p):=fun j u hj =>
 aC h (by
  rw[List.getElem?_toArray,Nat.zero_add];unfold dJ;rw[List.getElem?_append_left (List.getElem?_eq_some_iff.1 hj).1];exact hj)
def sZ(w:World)(B:Nat->Prop)(p:Pt)(e:Ending)(w':World):Prop:=∃v,e=.returned (.tuple #[.agg (aE v p).toArray,.bool true])/\bA w' B v p/\eN w v/\aA aB w w'
theorem Dx{w:World}{B:Nat->Prop}(hB:∀k,B k->k<w.heap.size)(pv:Value)(p:Pt)(hp:PtV w pv p)(hl:p.addrs.length≤65536)(at_:Int):Calls Tryz.prog 36 #[.agg (dJ pv p at_).toArray] w (sZ w B p):=by
 have HBLT:=O hB;have HLN:=O hl;have HADS:=O hp.ads;have HSUM:=O hp.sum;have HPT:=O hp;have hpc:=jO (v:=pv) (a:=at_) hp.sum;have HOP0:=jP (a:=at_) hp;obtain⟨pc,hpce⟩:∃l,dJ pv p at_=l:=⟨_,rfl⟩
 have HOP:Hid (∀u∈pc,u.oneCell'=true):=O (by rw[←hpce];exact HOP0);have HPC:=O hpce;rw[hpce] at hpc ⊢;clear HOP0 hpce;have HPS:Hid (∃r,pc=pv::r):=O ⟨_,HPC.out.symm⟩;have HL:=lN w;clear hp hl hB;have HPT0:=HPT;go_in
 go_wp2_with ((with_reducible show WL _ _);refine bxL HL 90 (.tmp 0) (pc.toArray) ?_)
 intro b1 w1 hk HL;replace HPT:=O (HPT.out.keep hk fun _ _=>id);clear hk
 go_wp2_with ((with_reducible show WL _ _);refine alL HL 27 (.agg aH.toArray) (aH.toArray) bG ?_)
 intro b2 w2 hk HL;replace HPT:=O (HPT.out.keep hk fun _ _=>id);clear hk;have c1:w2.cell? ⟨b1,0,none⟩=some (pv):=(by obtain⟨r,e⟩:=HPS.out;exact aC (i:=0) (HL.out.b 1) (by rw[e];rfl))
 go_wp2_with fail;clear c1;have HSZ:=O HL.out.keep.size;have HSL:=O (And.intro (HL.out.lt 0).2 (HL.out.lt 1).2);refine(nG w2 pv p.addrs HPT.out.rd HLN.out).mono ?_;rintro e w3 ⟨v1,rfl,ho,hk⟩;obtain⟨va,vc,rfl,-,-⟩:=(Rd.of_owns ho).form;have HPV:Hid (bA w3 B (.slice va p.addrs.length vc) p):=O ⟨⟨Rd.of_owns ho,HADS.out,HSUM.out⟩,fun i hi=>⟨fun e=>by have:=aS ho hi;have:=HBLT.out i e;have:=HSZ.out;omega,by obtain⟨cur,hc⟩:=aL ho hi;exact⟨_,_,hc⟩⟩⟩;have HNWO:Hid (eN w (.slice va p.addrs.length vc)):=O (fun i hi=>by have:=aS ho hi;have:=HSZ.out;omega);have HNB:=O (fun(i:Nat) (hi:(Value.slice va p.addrs.length vc).ownBlock=some i)=>show ¬i=b1/\¬i=b2 from⟨fun e=>by have:=aS ho hi;have:=HSL.out.2;omega,fun e=>by have:=aS ho hi;have:=HSL.out.1;omega⟩);have HB1:=O (hk.blk (HL.out.b 1) id);have HB2:=O (hk.blk (HL.out.b 0) id);have HG:=O (And.intro (HL.out.lt 1).1 (HL.out.lt 0).1);have HN12:Hid (b1≠b2):=O (fun e=>bF (i:=0) HL.out.nd rfl 1 (by decide) rfl e);have HKW:=O (HL.out.keep.trans hk);clear ho;clear hk HL HPT
 go_wp2_with ((with_reducible show WL _ _);refine sta 23 (.tmp 9) (.tmp 7) b1 0 [.slice va p.addrs.length vc] HB1.out (by rw[List.size_toArray,hpc];simp) (by kernel_rfl) (one9) ?_)
 intro w6 hk hb;rw[←HPC.out,ND] at hb;have HB16:=O (eI hb);have HB26:=O (hk.blk HB2.out HN12.out.symm);have HPV6:=O (HPV.out.keepT hk (fun i hi=>(HNB.out i hi).1));have HK6:=O (HKW.out.trans' hk (fun _ _ h=>h) (U:=aB) (fun i hi e=>by have:=HG.out.1;omega));clear hk hb HB1 HB2;have hqc:=aJ (v:=.slice va p.addrs.length vc) HSUM.out;obtain⟨qc,hqce⟩:∃l,aE (.slice va p.addrs.length vc) p=l:=⟨_,rfl⟩
 have HOQ:Hid (∀u∈qc,u.oneCell'=true):=O (by rw[←hqce];exact aU HPV.out.pt);have HQC:=O hqce;rw[hqce] at hqc HB16;clear hqce HPV
 go_wp2_with ((with_reducible show WL _ _);first
  | refine wpList_load_mid rfl 27 (.tmp 10) rfl b1 0 rfl qc _ HB16.out aF rfl (szP9 hqc) ?_
  | refine sta 27 (.tmp 2) (.tmp 11) b2 0 qc HB26.out (by rw[List.size_toArray,aG,hqc];omega) (szP9 hqc) HOQ.out ?_)
 intro w8 hk hb;rw[aI _ _ (by rw[List.size_toArray,aG,hqc])] at hb;have HP:Hid (sZ w B p (.returned (.tuple #[.agg qc.toArray,.bool true])) w8):=O ⟨_,by rw[←HQC.out],HPV6.out.keepT hk (fun i hi=>(HNB.out i hi).2),HNWO.out,HK6.out.trans' hk (fun _ _ h=>h) (fun i hi e=>by have:=HG.out.2;omega)⟩;have HB8:=O hb;clear hk hb HB16 HB26 HPV6 HK6;go_wp2_with fail;refine bodyPost_ret (bI rfl _ _ b2 _ _ _ _ rfl HB8.out aF rfl (by rw[List.size_toArray,hqc];exact dF)) rfl ?_;exact HP.out
theorem wM{w:World}{c:Nat}{S:Kor}{B:Nat->Prop}(hK:KI w c S B){g:Nat}(pv:Value)(p:Pt)(hp:PtV w pv p)(hr:p.root=true)(hg:w.heap[g]?=some (.cells (aE pv p).toArray 27 (0,0))):Calls Tryz.prog 39 #[.pointer (some ⟨c,0,none⟩),.slice (some ⟨g,0,none⟩) 1 1] w (aK w (.int .i64 0)):=by
 have HCP:=O (by have:=hK.bd.c1;omega:¬((S.cp:Nat):Int)=0);have HK:=O hK;have HPT:=O hp;have HR:=O hr;have hpc:=aJ (v:=pv) hp.sum;have HOP0:=aU hp;obtain⟨pc,hpce⟩:∃l,aE pv p=l:=⟨_,rfl⟩
 have HOP:Hid (∀u∈pc,u.oneCell'=true):=O (by rw[←hpce];exact HOP0);have HPC:=O hpce;rw[hpce] at hpc hg;have HG:=O hg;have HPT0:=HPT;have HG0:=HG;clear HOP0 hpce hg hp hr hK;have HL:=lN w;go_in;go_wp2_with fail;refine((KI.copies HK.out:Calls _ _ _ w (aK w (.int .i64 (S.cp:Int))))).mono ?_;rintro e w1 ⟨rfl,hk⟩;replace HL:=kL HL hk;replace HK:=O (KI.keep0 HK.out hk);replace HPT:=O (HPT.out.keep hk fun _ _=>id);replace HG:=O (hk.blk HG.out id);clear hk;have hcp0:=HCP.out;have d0:decide (((S.cp:Nat):Int)=0)=false:=decide_eq_false hcp0;have d1:(((S.cp:Nat):Int) == 0)=false:=by rw[beq_eq_false_iff_ne];exact hcp0
 go_wp2_with fail
 go_loopw [13] (fun i wr=>∃k:Nat,k≤1/\i=.int .i64 (k:Int)/\Hid (aA aB w wr)) (fun i _=>1-(intOf i).toNat)
 case atStart=>exact⟨0,by omega,rfl,O HL.out.keep⟩
 case round =>
 clear HL;obtain⟨k,hk,rfl,HKR⟩:=hrel
 by_cases hlt:k<1
 ·obtain rfl:k=0:=by omega
  have HL:=lN wr;have HPTR:=O (HPT0.out.keep HKR.out fun _ _=>id);have HGR:=O (HKR.out.blk HG0.out id)
  go_wp2_with ((with_reducible show WL _ _);first
   | refine wpList_load_mid rfl 27 (.tmp 15) rfl g 0 rfl pc _ (aD HGR.out) aF rfl (szP9 hpc) ?_
   | refine al 27 (.agg aH.toArray) (aH.toArray) bG ?_)
  intro b6 wl hbs hk0 hb0_
  go_wp2_with ((with_reducible show WL _ _);refine sta 27 (.tmp 6) (.tmp 16) b6 0 pc hb0_ (by first|decide|(rw[List.size_toArray,hpc];exact Nat.le_refl _)|simp[hpc,aG]) (szP9 hpc) HOP.out ?_)
  intro wm hk hb;rw[aI _ _ (by first|rfl|(rw[List.size_toArray,hpc];rfl)|simp[hpc,aG])] at hb;replace hk:=tX hk0 hk (fun i hi e=>by omega);replace HL:=lW HL hbs hk hb;replace HPTR:=O (HPTR.out.keep hk fun _ _=>id);clear hbs hk hb hk0 hb0_
  go_wp2_with ((with_reducible show WL _ _);refine wpList_load_mid rfl 27 (.tmp 6) rfl b6 0 rfl pc _ (aD (HL.out.b 0)) aF rfl (szP9 hpc) ?_)
  refine((by rw[←HPC.out];exact wJ wm pv p HPTR.out HR.out:Calls _ _ _ wm (aK wm (.int .i64 0)))).mono ?_;rintro e wn ⟨rfl,hk⟩;replace HL:=kL HL hk;replace HPTR:=O (HPTR.out.keep hk fun _ _=>id);clear hk;have HKE:=O (HKR.out.trans HL.out.keep);go_wp2
  go_roundw
  case rel=>exact⟨1,by omega,by go_num,HKE⟩
  case measure=>simp[intOf]
 ·obtain rfl:k=1:=by omega
  go_wp2;go_ret;exact⟨rfl,HKR.out⟩
abbrev nwV(g:Nat):Value:=.func (.func 68) #[] #[.pointer (some ⟨g,0,none⟩)]
abbrev owV:Value:=.func (.func 36) #[] #[]
abbrev dnV(b6 b7 b11 b4 b12:Nat):Value:=.func (.func 67) #[] #[.pointer (some ⟨b6,0,none⟩),.pointer (some ⟨b7,0,none⟩),.pointer (some ⟨b11,0,none⟩),.pointer (some ⟨b4,0,none⟩),.pointer (some ⟨b12,0,none⟩)]
structure Thr(B:Nat->Prop)(N0 c g:Nat)(x:Int)(b6 b7 b11 b4 b12:Nat)(w:World):Prop where
 cg:w.heap[g]?=some (.cells #[.int .i64 x] 3 (0,0))
 c6:w.heap[b6]?=some (.cells #[nwV g] 85 (0,0))
 c7:w.heap[b7]?=some (.cells #[owV] 87 (0,0))
 c4:w.heap[b4]?=some (.cells #[.pointer (some ⟨c,0,none⟩)] 39 (0,0))
 c12:w.heap[b12]?=some (.cells #[dnV b6 b7 b11 b4 b12] 132 (0,0))
 lt:∀i,i=g\/i=b6\/i=b7\/i=b4\/i=b12->i<N0/\i≠b11
 l11:b11<N0/\¬B b11
theorem Thr.keep{B T:Nat->Prop}{N0 c g:Nat}{x:Int}{b6 b7 b11 b4 b12:Nat}{w w':World}(h:Thr B N0 c g x b6 b7 b11 b4 b12 w)(k:aA T w w')(hT:∀i,T i->i=b11\/N0≤i):Thr B N0 c g x b6 b7 b11 b4 b12 w':=by
 have q:∀i,i=g\/i=b6\/i=b7\/i=b4\/i=b12->¬T i:=fun i hi e=>by
  obtain⟨h1,h2⟩:=h.lt i hi;exact(hT i e).elim h2 fun h3=>by omega
 exact⟨k.blk h.cg (q _ (.inl rfl)),k.blk h.c6 (q _ (.inr (.inl rfl))),k.blk h.c7 (q _ (.inr (.inr (.inl rfl)))),k.blk h.c4 (q _ (.inr (.inr (.inr (.inl rfl))))),k.blk h.c12 (q _ (.inr (.inr (.inr (.inr rfl))))),h.lt,h.l11⟩
structure jR(N0 b11:Nat)(w:World)(v:Value)(ps:List (Value×Pt)):Prop where
 cell:w.heap[b11]?=some (.cells #[v] 22 (0,0))
 row:w.ownsRow N0 27 35 v ps.length (ps.flatMap fun x=>aE x.1 x.2)
 at_:∀x∈ps,PtV w x.1 x.2/\∀i,x.1.ownBlock=some i->N0≤i/\v.ownBlock≠some i/\IsC w i
theorem jR.keep{T:Nat->Prop}{N0 b11:Nat}{w w':World}{v:Value}{ps:List (Value×Pt)}(h:jR N0 b11 w v ps)(k:aA T w w')(h11:¬T b11)(hv:∀i,v.ownBlock=some i->¬T i)(hT:∀x∈ps,∀i,x.1.ownBlock=some i->¬T i):jR N0 b11 w' v ps:=
 ⟨k.blk h.cell h11,k.owns h.row hv,fun x hx=>⟨(h.at_ x hx).1.keep k (hT x hx),fun i hi=>⟨((h.at_ x hx).2 i hi).1,((h.at_ x hx).2 i hi).2.1,IsC.keep ((h.at_ x hx).2 i hi).2.2 k (hT x hx i hi)⟩⟩⟩
theorem jR.keep0{N0 b11:Nat}{w w':World}{v:Value}{ps:List (Value×Pt)}(h:jR N0 b11 w v ps)(k:aA aB w w'):jR N0 b11 w' v ps:=h.keep k id (fun _ _=>id) fun _ _ _ _=>id
def pX(N0 b11:Nat)(x:Int)(l:Nat)(t:Tr)(a:Nat)(v:Value)(ps:List (Value×Pt))(w:World)(e:Ending)(w':World):Prop:=
 ∃v' qs,e=.returned (.int .i64 0)/\jR N0 b11 w' v' (ps++qs)/\qs.map (·.2)=(thr (bD x) l t a).map (·.1)/\(∀i,v'.ownBlock=some i->v.ownBlock=some i\/w.heap.size≤i)/\aA (fun i=>i=b11\/v.ownBlock=some i) w w'
theorem K9{x:Int}{l a:Nat}{t:Tr}(h:t.isHole=true\/decide (x<t.ptr.birth)=false):thr (bD x) l t a=[]:=by
 have e:(t.isHole || !bD x t.ptr)=true:=by
  rcases h with h|h
  ·rw[h];rfl
  ·show (t.isHole || !(decide (x<t.ptr.birth)))=true
   rw[h];simp
 cases l with
 | zero=>rw[gR,if_pos e]
 | succ l=>rw[gS,if_pos e]
theorem lT{w:World}{c:Nat}{S:Kor}{B:Nat->Prop}(hK:KI w c S B){N0 g q6 q7 q11 q4 q12:Nat}{x:Int}(hT:Thr B N0 c g x q6 q7 q11 q4 q12 w){v:Value}{ps:List (Value×Pt)}(hO:jR N0 q11 w v ps)(pv:Value)(t:Tr)(l a:Nat)(ht:Tr.Ok S l t)(hp:bA w B pv t.ptr)(hs:t.isHole=true\/decide (x<t.ptr.birth)=false):Calls Tryz.prog 67 #[.agg (dJ pv t.ptr (a:Int)).toArray,.int .i64 (l:Int),.pointer (some ⟨q6,0,none⟩),.pointer (some ⟨q7,0,none⟩),.pointer (some ⟨q11,0,none⟩),.pointer (some ⟨q4,0,none⟩),.pointer (some ⟨q12,0,none⟩)] w (pX N0 q11 x l t a v ps w):=by
 have HT:=O hT;have HO:=O hO;have HK:=O hK;have HEQ:=O (K9 (a:=a) (l:=l) hs);have HHE:=O ht.hole_eq;obtain⟨p,hpe⟩:∃p,t.ptr=p:=⟨_,rfl⟩
 rw[hpe] at hp hs HHE ⊢;have HPT:=O hp;have hpc:=aJ (v:=pv) hp.pt.sum;have HOP0:=aU hp.pt;have hlc:=jO (v:=pv) (a:=(a:Int)) hp.pt.sum;have HOL0:=jP (a:=(a:Int)) hp.pt;obtain⟨pc,hpce⟩:∃l,aE pv p=l:=⟨_,rfl⟩
 obtain⟨lc,hlce⟩:∃l,dJ pv p (a:Int)=l:=⟨_,rfl⟩
 have HOP:Hid (∀u∈pc,u.oneCell'=true):=O (by rw[←hpce];exact HOP0);have HOL:Hid (∀u∈lc,u.oneCell'=true):=O (by rw[←hlce];exact HOL0);have HPC:=O hpce;have HLC:=O hlce;rw[hpce] at hpc;rw[hlce] at hlc ⊢;have HS:=O hs;clear HOP0 HOL0 hpce hlce hp hT hO hK ht hs;have HL:=lN w;go_in
 go_wp2_with ((with_reducible show WL _ _);refine bxL HL 90 (.tmp 0) (lc.toArray) ?_)
 intro b7 w1 hk HL;replace HPT:=pK HPT hk;replace HT:=O (HT.out.keep hk fun _ e=>e.elim);replace HO:=O (HO.out.keep0 hk);clear hk
 go_wp2_with ((with_reducible show WL _ _);refine wpList_load_mid rfl 27 (.tmp 15) rfl b7 0 rfl pc _ (by have h:=HL.out.b 0;rw[←HLC.out] at h;rw[←HPC.out];exact eI h) aF rfl (szP9 hpc) ?_)
 refine((by rw[←HPC.out];exact cJ w1 pv p HPT.out.pt:Calls _ _ _ w1 (aX w1 p.hole))).mono ?_;rintro e w2 ⟨rfl,hk⟩;replace HL:=kL HL hk;replace HPT:=pK HPT hk;replace HT:=O (HT.out.keep hk fun _ e=>e.elim);replace HO:=O (HO.out.keep0 hk);clear hk;obtain⟨hb_,hhb⟩:∃b,p.hole=b:=⟨_,rfl⟩
 rw[hhb];have HHB:=O hhb;clear hhb;cases hb_ with
 | true =>
   have HP:Hid (pX N0 q11 x l t a v ps w (.returned (.int .i64 0)) w2):=O ⟨v,[],rfl,by rw[List.append_nil];exact HO.out,by rw[HEQ.out];rfl,fun i h=>.inl h,HL.out.keep.any⟩;clear HL HT HO HPT HK;go_wp2;go_ret;exact HP.out
 | false =>
   have hnw:=HS.out.resolve_left (by rw[←HHE.out,HHB.out];decide);have HNW:=O hnw;clear hnw;have c1:w2.cell? ⟨q6,0,none⟩=some (nwV g):=(cell_of_one HT.out.c6)
   go_wp2_with ((with_reducible show WL _ _);refine aM (by rfl) 27 (.tmp 20) rfl b7 0 rfl pc _ (by have h:=HL.out.b 0;rw[←HLC.out] at h;rw[←HPC.out];exact eI h) aF rfl (szP9 hpc) ?_)
   clear c1;refine((by rw[←HPC.out];exact kC HT.out.cg pv p HPT.out.pt:Calls _ _ _ w2 (aX w2 (decide (x<p.birth))))).mono ?_;rintro e w3 ⟨rfl,hk⟩;replace HL:=kL HL hk;replace HPT:=pK HPT hk;replace HT:=O (HT.out.keep hk fun _ e=>e.elim);replace HO:=O (HO.out.keep0 hk);clear hk;rw[HNW.out];have HP:Hid (pX N0 q11 x l t a v ps w (.returned (.int .i64 0)) w3):=O ⟨v,[],rfl,by rw[List.append_nil];exact HO.out,by rw[HEQ.out];rfl,fun i h=>.inl h,HL.out.keep.any⟩;clear HL HT HO HPT HK;go_wp2;go_ret;exact HP.out
theorem vP:(Tryz.prog.info? 90).map (·.size)=some 36:=by kernel_rfl
theorem jR.grow{N0 b11:Nat}{w w2 w3:World}{v v1 v2:Value}{p:Pt}{ps:List (Value×Pt)}(h:jR N0 b11 w v ps)(h11:b11<N0)(hp:PtV w v1 p)(hoff:∀i,v1.ownBlock=some i->N0≤i/\v.ownBlock≠some i/\IsC w i)
 (ho:w2.ownsRow N0 27 35 v2 (ps.length+1) ((ps.flatMap fun x=>aE x.1 x.2)++aE v1 p)) (k:aA (fun i=>v.ownBlock=some i) w w2) (hb:v2.ownBlock=v.ownBlock\/v2.ownBlock=some w.heap.size) (k2:aA (fun i=>i=b11) w2 w3) (hc:w3.heap[b11]?=some (.cells #[v2] 22 (0,0))):jR N0 b11 w3 v2 (ps++[(v1,p)]):=by
 have hall:∀x∈ps++[(v1,p)],PtV w x.1 x.2/\∀i,x.1.ownBlock=some i->N0≤i/\v.ownBlock≠some i/\IsC w i:=fun x hx=>by
  rcases List.mem_append.1 hx with hx|hx
  ·exact h.at_ x hx
  ·rw[List.mem_singleton] at hx
   subst hx;exact⟨hp,hoff⟩
 refine⟨hc,?_,fun x hx=>?_⟩
 ·have e:((ps++[(v1,p)]).flatMap fun x=>aE x.1 x.2)=(ps.flatMap fun x=>aE x.1 x.2)++aE v1 p:=by rw[List.flatMap_append];simp
  rw[e,List.length_append];exact k2.owns ho fun i hi e=>by have:=aS ho hi;omega
 ·obtain⟨h1,h2⟩:=hall x hx
  refine⟨(h1.keep k fun i hi=>(h2 i hi).2.1).keep k2 fun i hi e=>by have:=(h2 i hi).1;omega,fun i hi=>?_⟩;obtain⟨g1,g2,g3⟩:=h2 i hi;refine⟨g1,fun e=>?_,(g3.keep k g2).keep k2 fun e=>by omega⟩;rcases hb with hb|hb
  ·exact g2 (hb▸e)
  ·rw[hb] at e
   injection e with e
   have:=g3.lt;omega
theorem ML{x:Int}{a:Nat}{t:Tr}(hh:t.isHole=false)(hn:decide (x<t.ptr.birth)=true):thr (bD x) 0 t a=[(t.ptr,a)]:=by
 rw[gR,hh];exact if_neg (by show ¬(false || !(decide (x<t.ptr.birth)))=true;rw[hn];decide)
theorem DB{w:World}{c:Nat}{S:Kor}{B:Nat->Prop}(hK:KI w c S B){N0 g q6 q7 q11 q4 q12:Nat}{x:Int}(hT:Thr B N0 c g x q6 q7 q11 q4 q12 w){v:Value}{ps:List (Value×Pt)}(hO:jR N0 q11 w v ps)(hN:N0≤w.heap.size)(hps:ps.length≤1000)(pv:Value)(t:Tr)(a:Nat)(hp:bA w B pv t.ptr)(hpl:t.ptr.addrs.length≤65536)(hh:t.isHole=false)(hhp:t.ptr.hole=false)(hn:decide (x<t.ptr.birth)=true):Calls Tryz.prog 67 #[.agg (dJ pv t.ptr (a:Int)).toArray,.int .i64 0,.pointer (some ⟨q6,0,none⟩),.pointer (some ⟨q7,0,none⟩),.pointer (some ⟨q11,0,none⟩),.pointer (some ⟨q4,0,none⟩),.pointer (some ⟨q12,0,none⟩)] w (pX N0 q11 x 0 t a v ps w):=by
 have HT:=O hT;have HO:=O hO;have HBLT:=O (fun i (e:B i)=>hK.lt e);have HNN:=O hN;have HPS:=O hps;have HEQ:=O (ML (a:=a) hh hn);obtain⟨p,hpe⟩:∃p,t.ptr=p:=⟨_,rfl⟩
 have HPE:=O hpe;rw[hpe] at hp hhp hn hpl ⊢;have HPT:=O hp;have HHP:=O hhp;have HN1:=O hn;have HPL:=O hpl;have hpc:=aJ (v:=pv) hp.pt.sum;have HOP0:=aU hp.pt;have hlc:=jO (v:=pv) (a:=(a:Int)) hp.pt.sum;have HOL0:=jP (a:=(a:Int)) hp.pt;obtain⟨pc,hpce⟩:∃l,aE pv p=l:=⟨_,rfl⟩
 obtain⟨lc,hlce⟩:∃l,dJ pv p (a:Int)=l:=⟨_,rfl⟩
 have HOP:Hid (∀u∈pc,u.oneCell'=true):=O (by rw[←hpce];exact HOP0);have HOL:Hid (∀u∈lc,u.oneCell'=true):=O (by rw[←hlce];exact HOL0);have HPC:=O hpce;have HLC:=O hlce;rw[hpce] at hpc;rw[hlce] at hlc ⊢;clear HOP0 HOL0 hpce hlce hp hT hO hh hhp hn hN hps hpl hpe hK;have HL:=lN w;go_in
 go_wp2_with ((with_reducible show WL _ _);refine bxL HL 90 (.tmp 0) (lc.toArray) ?_)
 intro b7 w1 hk HL;replace HPT:=pK HPT hk;replace HT:=O (HT.out.keep hk fun _ e=>e.elim);replace HO:=O (HO.out.keep0 hk);clear hk
 go_wp2_with ((with_reducible show WL _ _);refine wpList_load_mid rfl 27 (.tmp 15) rfl b7 0 rfl pc _ (by have h:=HL.out.b 0;rw[←HLC.out] at h;rw[←HPC.out];exact eI h) aF rfl (szP9 hpc) ?_)
 refine((by rw[←HPC.out];exact cJ w1 pv p HPT.out.pt:Calls _ _ _ w1 (aX w1 p.hole))).mono ?_;rintro e w2 ⟨rfl,hk⟩;replace HL:=kL HL hk;replace HPT:=pK HPT hk;replace HT:=O (HT.out.keep hk fun _ e=>e.elim);replace HO:=O (HO.out.keep0 hk);clear hk;rw[HHP.out];have c1:w2.cell? ⟨q6,0,none⟩=some (nwV g):=(cell_of_one HT.out.c6)
 go_wp2_with ((with_reducible show WL _ _);refine aM (by rfl) 27 (.tmp 20) rfl b7 0 rfl pc _ (by have h:=HL.out.b 0;rw[←HLC.out] at h;rw[←HPC.out];exact eI h) aF rfl (szP9 hpc) ?_)
 clear c1;refine((by rw[←HPC.out];exact kC HT.out.cg pv p HPT.out.pt:Calls _ _ _ w2 (aX w2 (decide (x<p.birth))))).mono ?_;rintro e w3 ⟨rfl,hk⟩;replace HL:=kL HL hk;replace HPT:=pK HPT hk;replace HT:=O (HT.out.keep hk fun _ e=>e.elim);replace HO:=O (HO.out.keep0 hk);clear hk;rw[HN1.out];have c1:w3.cell? ⟨q7,0,none⟩=some (owV):=(cell_of_one HT.out.c7)
 go_wp2_with ((with_reducible show WL _ _);refine wpList_load_mid rfl 90 (.tmp 7) rfl b7 0 rfl lc _ (aD (HL.out.b 0)) Tryz.underlying90 rfl (by rw[hlc];exact vP) ?_)
 clear c1;have HSW:=O HL.out.keep.size;refine((by rw[←HLC.out];exact Dx (B:=B) (fun k hk=>Nat.lt_of_lt_of_le (HBLT.out k hk) HL.out.keep.size) pv p HPT.out.pt HPL.out (a:Int):Calls _ _ _ w3 (sZ w3 B p))).mono ?_;rintro e w4 ⟨v1,rfl,hpv1,hnw1,hk⟩;have HV1:Hid (PtV w4 v1 p):=O hpv1.pt;have HVO:Hid (∀i,v1.ownBlock=some i->N0≤i/\v.ownBlock≠some i/\IsC w4 i):=O (fun i hi=>⟨by have h1:=hnw1 i hi;have h2:=HNN.out;have h3:=HSW.out;omega,fun e=>by (obtain⟨cur,hc⟩:=aL HO.out.row e;have h1:=lt_of_block hc;have h2:=hnw1 i hi;omega),(hpv1.off i hi).2⟩);obtain⟨rc,HRC,hrc,HOR⟩:=nmPt hpv1.pt;rw[HRC.out];clear hpv1 hnw1;replace HL:=kL HL hk;replace HPT:=pK HPT hk;replace HT:=O (HT.out.keep hk fun _ e=>e.elim);replace HO:=O (HO.out.keep0 hk);clear hk
 go_wp2_with ((with_reducible show WL _ _);refine al 27 (.agg aH.toArray) (aH.toArray) bG ?_)
 intro b10 w5 hbs hk0 hb0_
 go_wp2_with ((with_reducible show WL _ _);refine sta 27 (.tmp 10) (.tmp 29) b10 0 rc hb0_ (by first|decide|(rw[List.size_toArray,hrc];exact Nat.le_refl _)|simp[hrc,aG]) (szP9 hrc) HOR.out ?_)
 intro w6 hk hb;rw[aI _ _ (by first|rfl|(rw[List.size_toArray,hrc];rfl)|simp[hrc,aG])] at hb;replace hk:=tX hk0 hk (fun i hi e=>by omega);replace HL:=lW HL hbs hk hb;replace HPT:=pK HPT hk;replace HT:=O (HT.out.keep hk fun _ e=>e.elim);replace HO:=O (HO.out.keep0 hk);replace HV1:=O (HV1.out.keep hk fun _ _=>id);replace HVO:=O (fun i hi=>And.intro (HVO.out i hi).1 (And.intro (HVO.out i hi).2.1 ((HVO.out i hi).2.2.keep hk id)));clear hbs hk hb hk0 hb0_;have c1:w6.cell? ⟨q11,0,none⟩=some (v):=(cell_of_one HO.out.cell)
 go_wp2_with ((with_reducible show WL _ _);first
  | refine wpList_load_mid rfl 27 (.tmp 10) rfl b10 0 rfl rc _ (aD (HL.out.b 0)) aF rfl (szP9 hrc) ?_
  | refine bsA 22 27 (.tmp 33) Tryz.underlying22 lU (by omega) rc hrc (by omega) ?_)
 clear c1;intro b34 w7 hbs hk hb;have HRN:Hid (Rd w7 35 (.slice (some ⟨b34,0,none⟩) 1 1) 1 rc):=O (eE (n:=1) (size:=35) hb (by rw[hrc]) (by unfold maxLen;omega));replace HL:=lW HL hbs hk hb;replace HPT:=pK HPT hk;replace HT:=O (HT.out.keep hk fun _ e=>e.elim);replace HO:=O (HO.out.keep0 hk);replace HV1:=O (HV1.out.keep hk fun _ _=>id);replace HVO:=O (fun i hi=>And.intro (HVO.out i hi).1 (And.intro (HVO.out i hi).2.1 ((HVO.out i hi).2.2.keep hk id)));clear hbs hk hb;have HLN:=O (show N0≤w7.heap.size from Nat.le_trans HNN.out HL.out.keep.size);have HPS2:Hid (ps.length+1≤maxLen/\(ps.length+1)*72≤140737488355328):=O (by have:=HPS.out;unfold maxLen;omega)
 go_wp2_with (at_builtin;refine aN rfl (.tmp 32) (.tmp 34) 22 rfl N0 27 (.agg aH.toArray) 35 72 Tryz.underlying22 lU rfl (by decide) v ps.length (ps.flatMap fun x=>aE x.1 x.2) rfl HO.out.row (.slice (some ⟨b34,0,none⟩) 1 1) 1 rc rfl HRN.out HOR.out HPS2.out.1 HPS2.out.2 HLN.out ?_)
 intro v2 w8 ho5 hk5 hn5 hb5;obtain⟨g2,c2,rfl,-,-⟩:=(Rd.of_owns ho5).form;have H11:=O (hk5.blk HO.out.cell fun e=>by have h1:=aS HO.out.row e;have h2:=HT.out.l11.1;omega);have HO5:=O ho5;have HK5:=O hk5;have HB5:=O hb5;have HKL:=O HL.out.keep;clear ho5 hk5 hn5 hb5 HRN
 go_wp2_with ((with_reducible show WL _ (.store 22 _ _));refine sta 22 (.tmp 4) (.tmp 35) q11 0 [.slice g2 (ps.length+1) c2] H11.out (by simp) (by kernel_rfl) (by intro u hu;rw[List.mem_singleton] at hu;subst hu;rfl) ?_)
 intro w9 hk hb;replace hb:w9.heap[q11]?=some (.cells #[.slice g2 (ps.length+1) c2] 22 (0,0)):=hb
 have HP:Hid (pX N0 q11 x 0 t a v ps w (.returned (.int .i64 0)) w9):=O (by
  refine⟨_,[(v1,p)],rfl,HO.out.grow HT.out.l11.1 HV1.out HVO.out (by rw[HRC.out];exact HO5.out) HK5.out HB5.out hk hb,by rw[HEQ.out,←HPE.out];rfl,fun i hi=>?_,?_⟩
  ·rcases HB5.out with e|e
   ·exact .inl (e▸hi)
   ·rw[e] at hi
    injection hi with hi
    have:=HKL.out.size;exact .inr (by omega)
  ·exact((HKL.out.any.trans' HK5.out (fun _ _ h=>h) (fun i _ e=>.inr e)).trans' hk (fun _ _ h=>h) (fun i _ e=>.inl e)))
 clear HL HO HT HPT hk hb HK5 HO5 H11;go_wp2;go_ret;exact HP.out
def NE(B:Nat->Prop)(S:Kor)(c N0 g q6 q7 q11 q4 q12:Nat)(x:Int)(l:Nat):Prop:=∀(w:World) (v:Value) (ps:List (Value×Pt)) (pv:Value) (t:Tr) (a:Nat),KI w c S B->Thr B N0 c g x q6 q7 q11 q4 q12 w->jR N0 q11 w v ps->N0≤w.heap.size->ps.length+(thr (bD x) l t a).length≤1000->a+4 ^ l≤64->Tr.Ok S l t->bA w B pv t.ptr->(∀i,pv.ownBlock=some i->i≠q11/\v.ownBlock≠some i) ->
 Calls Tryz.prog 67 #[.agg (dJ pv t.ptr (a:Int)).toArray,.int .i64 (l:Int),.pointer (some ⟨q6,0,none⟩),.pointer (some ⟨q7,0,none⟩),.pointer (some ⟨q11,0,none⟩),.pointer (some ⟨q4,0,none⟩),.pointer (some ⟨q12,0,none⟩)] w (pX N0 q11 x l t a v ps w)
theorem Loc.onto{S B:Nat->Prop}{w0 w w':World}{l:List (Nat×Array Value×TypeId)}(h:Loc aB B w0 w l)(k:aA S w w')(hS:∀x∈l,¬S x.1):Loc S B w0 w' l:=
 ⟨h.keep.trans' k (fun _ _ e=>e.elim) (fun _ _ e=>e),h.ge,h.nd,fun x hx=>k.blk (h.at_ x hx) (hS x hx),h.ap⟩
theorem DC{f:Pt->Bool}{l a:Nat}{t:Tr}(hh:t.isHole=false)(hf:f t.ptr=true):thr f (l+1) t a=(t.ptr,a)::(List.range 4).flatMap fun i=>thr f l (t.kid i) (a+i*4 ^ l):=by
 rw[gS,hh,hf];rfl
structure tA(w:World)(B:Nat->Prop)(S:Kor)(c N0 g q6 q7 q11 q4 q12:Nat)(x:Int)(b7 b12 l:Nat)(t:Tr)(a:Nat)(pv v:Value)(ps:List (Value×Pt))(vs:Nat->Value)(k:Nat)(wr:World)(vk:Value)(qs:List (Value×Pt)):Prop where
 ki:KI wr c S B
 th:Thr B N0 c g x q6 q7 q11 q4 q12 wr
 out:jR N0 q11 wr vk (ps++qs)
 eq:qs.map (·.2)=((t.ptr,a)::(List.range k).flatMap fun i=>thr (bD x) l (t.kid i) (a+i*4 ^ l)).map (·.1)
 old:cF wr B vs (fun i=>(t.kid i).ptr)
 off:∀q,q<4->∀i,(vs q).ownBlock=some i->i≠q11/\vk.ownBlock≠some i
 h7:wr.heap[b7]?=some (.cells (dJ pv t.ptr (a:Int)).toArray 90 (0,0))
 h12:wr.heap[b12]?=some (.cells (cE ((l+1:Nat):Int) vs (fun i=>(t.kid i).ptr)).toArray 98 (0,0))
 own:∀i,vk.ownBlock=some i->(v.ownBlock=some i\/w.heap.size≤i)/\i≠b7/\i≠b12
 ge:N0≤b7/\N0≤b12/\N0≤w.heap.size
 keep:aA (fun i=>i=q11\/v.ownBlock=some i) w wr
theorem tA.len{w:World}{B:Nat->Prop}{S:Kor}{c N0 g q6 q7 q11 q4 q12:Nat}{x:Int}{b7 b12 l:Nat}{t:Tr}{a:Nat}{pv v:Value}{ps:List (Value×Pt)}{vs:Nat->Value}{k:Nat}{wr:World}{vk:Value}{qs:List (Value×Pt)}
 (h:tA w B S c N0 g q6 q7 q11 q4 q12 x b7 b12 l t a pv v ps vs k wr vk qs) (hk:k<4) (hm:ps.length+(thr (bD x) (l+1) t a).length≤1000) (hh:t.isHole=false) (hf:bD x t.ptr=true):(ps++qs).length+(thr (bD x) l (t.kid k) (a+k*4 ^ l)).length≤1000:=by
 have e:=congrArg List.length h.eq;rw[List.length_map,List.length_map,List.length_cons] at e;rw[DC hh hf,List.length_cons] at hm
 have h1:((List.range (k+1)).flatMap fun i=>thr (bD x) l (t.kid i) (a+i*4 ^ l)).length≤((List.range 4).flatMap fun i=>thr (bD x) l (t.kid i) (a+i*4 ^ l)).length:=by
  have:∃r,(List.range 4)=List.range (k+1)++r:=by
   have:k=0\/k=1\/k=2\/k=3:=by omega
   rcases this with rfl|rfl|rfl|rfl<;>exact⟨_,rfl⟩
  obtain⟨r,e⟩:=this;rw[e,List.flatMap_append,List.length_append];omega
 rw[List.range_succ,List.flatMap_append,List.length_append] at h1;simp only[List.flatMap_cons,List.flatMap_nil,List.append_nil] at h1;rw[List.length_append];omega
theorem tA.step{w:World}{B:Nat->Prop}{S:Kor}{c N0 g q6 q7 q11 q4 q12:Nat}{x:Int}{b7 b12 l:Nat}{t:Tr}{a:Nat}{pv v:Value}{ps:List (Value×Pt)}{vs:Nat->Value}{k:Nat}{wr w1 w2:World}{vk:Value}{qs:List (Value×Pt)}{e:Ending}
 (h:tA w B S c N0 g q6 q7 q11 q4 q12 x b7 b12 l t a pv v ps vs k wr vk qs) (hB:∀i,B i->i<N0) (k1:aA aB wr w1) (hm:pX N0 q11 x l (t.kid k) (a+k*4 ^ l) vk (ps++qs) w1 e w2):e=.returned (.int .i64 0)/\aA (fun i=>i=q11\/vk.ownBlock=some i) w1 w2/\∃v' qs',tA w B S c N0 g q6 q7 q11 q4 q12 x b7 b12 l t a pv v ps vs (k+1) w2 v' qs':=by
 obtain⟨v',q2,he,ho,hq,hv,hk⟩:=hm;have hge:∀i,vk.ownBlock=some i->N0≤i:=fun i hi=>aS h.out.row hi
 have h11:=h.th.l11;have hk2:aA (fun i=>i=q11\/vk.ownBlock=some i) wr w2:=k1.trans' hk (fun _ _ h=>h.elim) (fun _ _ h=>h);have hlt:∀i,(∃q,q<4/\(vs q).ownBlock=some i)->i<wr.heap.size:=fun i ⟨q,hq,hi⟩=>((h.old q hq).off i hi).2.lt
 have h7l:=lt_of_block h.h7;have h12l:=lt_of_block h.h12;have hg:=h.ge
 have hoff:∀q,q<4->∀i,(vs q).ownBlock=some i->¬(i=q11\/vk.ownBlock=some i):=fun q hq i hi e=>by
  have:=h.off q hq i hi;exact e.elim this.1 this.2
 refine⟨he,hk,v',qs++q2,h.ki.keepT hk2 fun i hi hb=>?_,h.th.keep hk2 fun i hi=>hi.imp id (hge i),by rw[←List.append_assoc];exact ho,?_,h.old.keepT hk2 hoff,fun q hq i hi=>⟨(h.off q hq i hi).1,fun e=>?_⟩,hk2.blk h.h7 fun e=>?_,hk2.blk h.h12 fun e=>?_,fun i hi=>?_,hg,h.keep.trans' hk2 (fun _ _ h=>h) fun i hi e=>?_⟩
 ·rcases hi with rfl|hi
  ·exact h11.2 hb
  ·have:=hge i hi;have:=hB i hb;omega
 ·rw[List.map_append,h.eq,hq,←List.map_append,List.range_succ,List.flatMap_append]
  simp only[List.flatMap_cons,List.flatMap_nil,List.append_nil,List.cons_append]
 ·rcases hv i e with e|e
  ·exact(h.off q hq i hi).2 e
  ·have:=hlt i ⟨q,hq,hi⟩;have:=k1.size;omega
 ·rcases e with e|e
  ·omega
  ·exact(h.own _ e).2.1 rfl
 ·rcases e with e|e
  ·omega
  ·exact(h.own _ e).2.2 rfl
 ·rcases hv i hi with e|e
  ·exact h.own i e
  ·have:=k1.size;have:=h.keep.size
   exact⟨.inr (by omega),by omega,by omega⟩
 ·rcases e with e|e
  ·exact .inl e
  ·exact(h.own i e).1.elim .inr fun e=>absurd hi (by omega)
theorem tA.fin{w:World}{B:Nat->Prop}{S:Kor}{c N0 g q6 q7 q11 q4 q12:Nat}{x:Int}{b7 b12 l:Nat}{t:Tr}{a:Nat}{pv v:Value}{ps:List (Value×Pt)}{vs:Nat->Value}{wr w':World}{vk:Value}{qs:List (Value×Pt)}
 (h:tA w B S c N0 g q6 q7 q11 q4 q12 x b7 b12 l t a pv v ps vs 4 wr vk qs) (hh:t.isHole=false) (hf:bD x t.ptr=true) (k:aA aB wr w'):pX N0 q11 x (l+1) t a v ps w (.returned (.int .i64 0)) w':=
 ⟨vk,qs,rfl,h.out.keep0 k,by rw[DC hh hf];exact h.eq,fun i hi=>(h.own i hi).1,h.keep.trans' k (fun _ _ h=>h) (fun _ _ e=>e.elim)⟩
end
end Go.Proofs.YtiinnfhjpaeffaaGreat
