/- A part of the proof. Conditions: those told. -/
import Derived.Test.YtjkbekifgobeaaaGreatT1
import Derived.Test.YtjkbekifgobeaaaGreatT31
namespace Go.Proofs.YtjkbekifgobeaaaGreat
set_option maxHeartbeats 64000000
set_option maxRecDepth 100000
set_option linter.unusedVariables false
section
open Go.RowKit Go.Maps Go.ChangeMaps
theorem Tr.Ok.may3{S:Kor}{t:Tr}(h:Tr.Ok S 3 t):t.ptr.may=true:=by
 cases t with
 | hole=>exact oL kL
 | leaf p b=>exact h.elim
 | node p k=>exact h.1.may
theorem pI{P:Program}{ops:Array Oper}{S:World->Prop}{op:Oper}{a:Act}{v:Value}(hw:Region.wanted op (yielded ops a.tmps)=true)(t:TypeId)(ho:op.op=.build t #[])(h:∀w,(Instr.build t #[]).run P w=.ok v w):YieldsIf P ops S op v a:=
 .inl ⟨hw,fun w _=>by
  unfold execOp;simp only[ho,Sem.run_bind,Sem.run_pure];rw[show (#[]:Array (Nat×Operand)).map (fun p=>(p.1,a.eval p.2))=#[] by simp,h w];rfl⟩
theorem xZ:∀u∈aH,u.oneCell'=true:=bY zPt
theorem G3{w:World}{c:Nat}{S:Kor}{B:Nat->Prop}(hK:KI w c S B)(pv:Value)(t:Tr)(ht:Tr.Ok S 3 t)(hp:aL w B pv t.ptr)(n:Nat)(hn:n<64)(vv:Value)(bs:List UInt8)(hbl:bs.length=256)(hr:Rd w 1 vv 256 (bs.map vb))(hvb:∀i,vv.ownBlock=some i->¬B i/\i<w.heap.size)(he:t.blk 3 n=bs):Calls Tryz.prog 14 #[.pointer (some ⟨c,0,none⟩),.agg (aJ pv t.ptr).toArray,.int .i64 (n:Int),vv] w (bA w c B (.slice none 0 0) (some t) S):=by
 have HBS0:Hid ((aP n t 3).blk 0 n=bs):=H' (by rw[←wF ht];exact he);have HO3:=H' (hE (n:=n) ht 3 (by omega));have HT:=H' ht;have HN:=H' hn;have HBL:=H' hbl;have HVB:=H' hvb;have HPT:=H' hp;have HK:=H' hK;have HVV:=H' hr;have HBLT:=H' (fun i (e:B i)=>hK.lt e);have HOP0:=H' (fun i (hi:pv.ownBlock=some i)=>(hp.off i hi).2.lt);have HADL:=H' (by have:=(iB (Tr.Ok.may3 ht)).1;omega:t.ptr.addrs.length≤65536);obtain⟨va,vc,hve,-,-⟩:=hr.form;have HVE:=H' hve;rw[hve] at HVV HVB ⊢;have hn0:¬((n:Int)<0):=by omega
 have hn1:¬((64:Int)≤(n:Int)):=by omega
 obtain⟨p,hpe⟩:∃p,t.ptr=p:=⟨_,rfl⟩
 have HPE:=H' hpe;rw[hpe] at HPT hp HADL ⊢;obtain⟨pc,HPC,hpc,HOP⟩:=nmPt hp.pt;rw[HPC.out];have HL:=H' (Loc.nil aB aB w);clear he hp ht hK hpe hr hvb hbl hve;have HPT0:=HPT;have HK0:=HK;have HVV0:=HVV;go_enter Tryz.func14,Tryz.ntmps14
 go_wp2_with (first
  | ((with_reducible show WL (some 4) (.box 36 _));refine bx 36 (.tmp 0) (#[.pointer (some ⟨c,0,none⟩)]) ?_))
 intro b4 w1 hbs hk hb;replace HL:=H' (HL.out.new (fun _ h=>h.elim) hbs hk hb);replace HPT:=H' (aL.keep0 HPT.out hk);replace HK:=H' (HK.out.keep0 hk);replace HVV:=H' (HVV.out.keep hk fun _ _=>id);clear hbs hk hb
 go_wp2_with (first
  | ((with_reducible show WL (some 5) (.box 26 _));refine bx 26 (.tmp 1) (pc.toArray) ?_))
 intro b5 w2 hbs hk hb;replace HL:=H' (HL.out.new (fun _ h=>h.elim) hbs hk hb);replace HPT:=H' (aL.keep0 HPT.out hk);replace HK:=H' (HK.out.keep0 hk);replace HVV:=H' (HVV.out.keep hk fun _ _=>id);clear hbs hk hb
 go_wp2_with (first
  | ((with_reducible show WL (some 8) (.alloc 26));refine al 26 (.agg aH.toArray) (aH.toArray) aU ?_))
 intro b8 w3 hbs hk hb;replace HL:=H' (HL.out.new (fun _ h=>h.elim) hbs hk hb);replace HPT:=H' (aL.keep0 HPT.out hk);replace HK:=H' (HK.out.keep0 hk);replace HVV:=H' (HVV.out.keep hk fun _ _=>id);clear hbs hk hb
 go_wp2_with (first
  | ((with_reducible show WL (some 9) (.alloc 46));refine al 46 (.int .i64 0) (#[.int .i64 0]) kQ ?_))
 intro b9 w4 hbs hk hb;replace HL:=H' (HL.out.new (fun _ h=>h.elim) hbs hk hb);replace HPT:=H' (aL.keep0 HPT.out hk);replace HK:=H' (HK.out.keep0 hk);replace HVV:=H' (HVV.out.keep hk fun _ _=>id);clear hbs hk hb;have c1:w4.cell? ⟨b4,0,none⟩=some (.pointer (some ⟨c,0,none⟩)):=(aD (i:=0) (HL.out.b 3) rfl)
 go_wp2_with (first
  | ((with_reducible show WL (some 17) (.load 26 _));refine wpList_load_mid rfl 26 (.tmp 5) rfl b5 0 rfl pc _ (aC (HL.out.b 2)) aI rfl (by rw[hpc];exact aE) ?_))
 clear c1;refine((by rw[←HPC.out];exact lB HK.out pv p HPT.out.pt (by rw[←HPE.out];exact HT.out.root):Calls _ _ _ w4 (aM w4 (.int .i64 0)))).mono ?_;rintro e w5 ⟨rfl,hk⟩;replace HL:=H' (HL.out.keeps hk);replace HPT:=H' (aL.keep0 HPT.out hk);replace HK:=H' (HK.out.keep0 hk);replace HVV:=H' (HVV.out.keep hk fun _ _=>id);clear hk
 go_wp2_with (first
  | ((with_reducible show WL (some 10) (.alloc 46));refine al 46 (.int .i64 0) (#[.int .i64 0]) kQ ?_))
 intro b10 w6 hbs hk0 hb0_
 go_wp2_with (first
  | ((with_reducible show WL _ (.store 46 (.tmp 10) (.tmp 18)));refine sta 46 (.tmp 10) (.tmp 18) b10 0 ([.int .i64 0]) hb0_ (by first|decide|(rw[List.size_toArray,rfl];exact Nat.le_refl _)|simp[]) (by kernel_rfl) (by intro v hv;simp only[List.mem_cons,List.not_mem_nil,or_false] at hv;subst hv;rfl) ?_))
 intro w7 hk hb;replace hb:w7.heap[b10]?=some (.cells #[.int .i64 0] 46 (0,0)):=hb;replace hk:=hk0.trans' hk (U:=aB) (fun _ _ h=>h) (fun i hi e=>by omega);replace HL:=H' (HL.out.new (fun _ h=>h.elim) hbs hk hb);replace HPT:=H' (aL.keep0 HPT.out hk);replace HK:=H' (HK.out.keep0 hk);replace HVV:=H' (HVV.out.keep hk fun _ _=>id);clear hbs hk hb hk0 hb0_;have c1:w7.cell? ⟨b10,0,none⟩=some (.int .i64 0):=(aD (i:=0) (HL.out.b 0) rfl)
 have c2:w7.cell? ⟨b4,0,none⟩=some (.pointer (some ⟨c,0,none⟩)):=(aD (i:=0) (HL.out.b 4) rfl)
 go_wp2_with (first
  | ((with_reducible show WL (some 39) (.load 26 _));refine wpList_load_mid rfl 26 (.tmp 5) rfl b5 0 rfl pc _ (aC (HL.out.b 3)) aI rfl (by rw[hpc];exact aE) ?_))
 clear c1 c2;have HWB:=H' HL.out.keep.size;have HB10L:=H' (HL.out.lt 0);have HB9L:=H' (HL.out.lt 1);have HB8L:=H' (HL.out.lt 2);refine((by rw[←HPC.out,←HPE.out];exact Az HK.out pv t HT.out (by rw[HPE.out];exact HPT.out) n HN.out:Calls _ _ _ w7 (qN w7 B pv n t false))).mono ?_;rintro e w8 ⟨sv,pvf,k,pvs,vss,M,rfl,hk3,hM,hwr,hwp,hk⟩;obtain rfl:=hk3 rfl;obtain⟨sa,scap,hsv,hs3,-⟩:=(Rd.of_owns hwr.row).form;subst hsv;have HWR:=H' hwr;have HWP:=H' hwp;have HM:=H' hM;have HS3:=H' hs3;obtain⟨qc,HQC,hqc,HOQ⟩:=nmPt hwp.val.pt;rw[HQC.out];clear hwp hM hwr hs3;replace HL:=H' (HL.out.keeps hk);replace HPT:=H' (aL.keep0 HPT.out hk);replace HK:=H' (HK.out.keep0 hk);replace HVV:=H' (HVV.out.keep hk fun _ _=>id);clear hk
 go_wp2_with (first
  | ((with_reducible show WL (some 12) (.alloc 26));refine al 26 (.agg aH.toArray) (aH.toArray) aU ?_))
 intro b12 w9 hbs hk0 hb0_
 go_wp2_with (first
  | ((with_reducible show WL _ (.store 26 (.tmp 12) (.tmp 43)));refine sta 26 (.tmp 12) (.tmp 43) b12 0 qc hb0_ (by first|decide|(rw[List.size_toArray,hqc];exact Nat.le_refl _)|simp[hqc,aG]) (by rw[hqc];exact aE) HOQ.out ?_))
 intro wa hk hb;rw[aK _ _ (by first|rfl|(rw[List.size_toArray,hqc];rfl)|simp[hqc,aG])] at hb;replace hk:=hk0.trans' hk (U:=aB) (fun _ _ h=>h) (fun i hi e=>by omega);replace HL:=H' (HL.out.new (fun _ h=>h.elim) hbs hk hb);replace HPT:=H' (aL.keep0 HPT.out hk);replace HK:=H' (HK.out.keep0 hk);replace HVV:=H' (HVV.out.keep hk fun _ _=>id);replace HWR:=H' (bM.keep0 HWR.out hk);replace HWP:=H' (cO.keep0 HWP.out hk);clear hbs hk hb hk0 hb0_
 go_wp2_with (first
  | ((with_reducible show WL _ (.store 46 (.tmp 10) (.tmp 44)));refine sta 46 (.tmp 10) (.tmp 44) b10 0 ([.int .i64 0]) (HL.out.b 1) (by simp) (by kernel_rfl) (by intro v hv;simp only[List.mem_cons,List.not_mem_nil,or_false] at hv;subst hv;rfl) ?_))
 intro wb hk hb;replace hb:wb.heap[b10]?=some (.cells #[.int .i64 0] 46 (0,0)):=hb;replace HL:=H' (HL.out.set 1 hk hb);replace HPT:=H' (aL.keep0 HPT0.out HL.out.keep);replace HK:=H' (HK0.out.keep0 HL.out.keep);replace HVV:=H' (HVV0.out.keep HL.out.keep fun _ _=>id);replace HWR:=H' (bM.keepT HWR.out hk (fun i hi e=>by have:=bH HWR.out.row hi;have:=HB10L.out;omega) (fun i hi e=>by have:=HOP0.out i hi;have:=HB10L.out;omega) (fun i hi e=>by have:=HM.out;have:=HB10L.out;omega));replace HWP:=H' (cO.keepT HWP.out hk (fun i hi e=>by have:=HOP0.out i hi;have:=HB10L.out;omega) (fun i hi e=>by have:=HM.out;have:=HB10L.out;omega));clear hk hb;have HB10W:=H' (And.intro (HL.out.lt 0) (HL.out.lt 1));have c1:wb.cell? ⟨b10,0,none⟩=some (.int .i64 0):=(aD (i:=0) (HL.out.b 1) rfl)
 have c2:wb.cell? ⟨b4,0,none⟩=some (.pointer (some ⟨c,0,none⟩)):=(aD (i:=0) (HL.out.b 5) rfl)
 go_wp2_with (first
  | ((with_reducible show WL (some 51) (.load 26 _));refine wpList_load_mid rfl 26 (.tmp 12) rfl b12 0 rfl qc _ (aC (HL.out.b 0)) aI rfl (by rw[hqc];exact aE) ?_))
 clear c1 c2;have HBW:=H' HL.out.keep.size;refine((by rw[←HQC.out];exact rS HK.out pvf (aP n t 3) HO3.out HWP.out.val.pt n:Calls _ _ _ wb (eT wb ((aP n t 3).blk 0 n)))).mono ?_;rintro e wc ⟨v1,rfl,ho,hk⟩;rw[HBS0.out] at ho;obtain⟨wa,wc,rfl,-,-⟩:=(Rd.of_owns ho).form;have HO:=H' ho;have HOG:=H' (fun i (hi:(Value.slice wa 256 wc).ownBlock=some i)=>bH ho hi);clear ho;replace HL:=H' (HL.out.keeps hk);replace HPT:=H' (aL.keep0 HPT.out hk);replace HK:=H' (HK.out.keep0 hk);replace HVV:=H' (HVV.out.keep hk fun _ _=>id);replace HWR:=H' (bM.keep0 HWR.out hk);replace HWP:=H' (cO.keep0 HWP.out hk);clear hk
 go_wp2_with (first
  | ((with_reducible show WL _ (.store 46 (.tmp 10) (.tmp 54)));refine sta 46 (.tmp 10) (.tmp 54) b10 0 ([.int .i64 0]) (HL.out.b 1) (by simp) (by kernel_rfl) (by intro v hv;simp only[List.mem_cons,List.not_mem_nil,or_false] at hv;subst hv;rfl) ?_))
 intro wd hk hb;replace hb:wd.heap[b10]?=some (.cells #[.int .i64 0] 46 (0,0)):=hb;replace HL:=H' (HL.out.set 1 hk hb);replace HPT:=H' (aL.keep0 HPT0.out HL.out.keep);replace HK:=H' (HK0.out.keep0 HL.out.keep);replace HVV:=H' (HVV0.out.keep HL.out.keep fun _ _=>id);replace HWR:=H' (bM.keepT HWR.out hk (fun i hi e=>by have:=bH HWR.out.row hi;have:=HB10L.out;omega) (fun i hi e=>by have:=HOP0.out i hi;have:=HB10L.out;omega) (fun i hi e=>by have:=HM.out;have:=HB10L.out;omega));replace HWP:=H' (cO.keepT HWP.out hk (fun i hi e=>by have:=HOP0.out i hi;have:=HB10L.out;omega) (fun i hi e=>by have:=HM.out;have:=HB10L.out;omega));replace HO:=H' (hk.owns HO.out fun i hi e=>by have:=HOG.out i hi;have:=HB10L.out;have:=HBW.out;have:=HB10W.out;omega);clear hk hb;have c1:wd.cell? ⟨b10,0,none⟩=some (.int .i64 0):=(aD (i:=0) (HL.out.b 1) rfl)
 go_wp2_with fail;clear c1;refine(lM wd _ _ bs bs (by rw[HBL.out];exact Rd.of_owns HO.out) (by rw[HBL.out];exact HVV.out) true (decide_eq_true rfl)).mono ?_;rintro e we ⟨rfl,rfl⟩
 go_wp2_with (first
  | ((with_reducible show WL (some 64) (.load 26 _));refine wpList_load_mid rfl 26 (.tmp 5) rfl b5 0 rfl pc _ (aC (HL.out.b 4)) aI rfl (by rw[hpc];exact aE) ?_))
 have HLS:=H' HL.out.keep.size;have HLB:=H' (And.intro (HL.out.lt 2).2 (HL.out.lt 3).2);refine((by rw[←HPC.out];exact wD (fun i e=>HK.out.lt e) pv p HPT.out.pt HADL.out:Calls _ _ _ wd (qM wd B p))).mono ?_;rintro e wf ⟨ov,rfl,hov,hovn,hk⟩;have HOV:=H' hov;have HOVN:=H' hovn;have HON2:=H' (hovn.from HLS.out);obtain⟨oc,HOCE,hoc,HOOC⟩:=nmPt hov.pt;rw[HOCE.out];clear hov hovn;replace HL:=H' (HL.out.keeps hk);replace HPT:=H' (aL.keep0 HPT.out hk);replace HK:=H' (HK.out.keep0 hk);replace HVV:=H' (HVV.out.keep hk fun _ _=>id);replace HWR:=H' (bM.keep0 HWR.out hk);replace HWP:=H' (cO.keep0 HWP.out hk);replace HO:=H' (hk.owns HO.out fun _ _=>id);clear hk;clear HPT HVV HWR HWP HO
 go_wp2_with (first
  | ((with_reducible show WL _ (.store 26 (.tmp 8) (.tmp 65)));refine sta 26 (.tmp 8) (.tmp 65) b8 0 oc (HL.out.b 3) (by first|decide|(rw[hoc];exact Nat.le_refl _)|simp[hoc,aG]) (by rw[hoc];exact aE) HOOC.out ?_))
 intro wg hk hb;rw[aK _ _ (by first|rfl|simp[hoc,aG])] at hb;replace HL:=H' (HL.out.set 3 hk hb);replace HK:=H' (HK0.out.keep0 HL.out.keep);replace HOV:=H' (aL.keepT HOV.out hk (fun i hi e=>by have:=HOVN.out i hi;have:=HLB.out;omega));clear hk hb
 go_wp2_with (first
  | ((with_reducible show WL _ (.store 46 (.tmp 9) (.const (.int .i64 0))));refine sta 46 (.tmp 9) (.const (.int .i64 0)) b9 0 ([.int .i64 0]) (HL.out.b 2) (by simp) (by kernel_rfl) (by intro v hv;simp only[List.mem_cons,List.not_mem_nil,or_false] at hv;subst hv;rfl) ?_))
 intro wh hk hb;replace hb:wh.heap[b9]?=some (.cells #[.int .i64 0] 46 (0,0)):=hb;replace HL:=H' (HL.out.set 2 hk hb);replace HK:=H' (HK0.out.keep0 HL.out.keep);replace HOV:=H' (aL.keepT HOV.out hk (fun i hi e=>by have:=HOVN.out i hi;have:=HLB.out;omega));clear hk hb;have HB8:=H' (HL.out.b 3);have c9:wh.cell? ⟨b9,0,none⟩=some (.int .i64 0):=aD (i:=0) (HL.out.b 2) rfl;have HP:Hid (bA w c B (.slice none 0 0) (some t) S (.returned (.tuple #[.agg oc.toArray,.int .i64 0])) wh):=H' ⟨ov,B,by rw[←HOCE.out,←HPE.out];rfl,by show aL _ B ov t.ptr;rw[HPE.out];exact HOV.out,HK.out,fun _ h=>.inl h,Cl.refl _ _ _ HL.out.keep,.inr HON2.out,HL.out.keep.any⟩;clear HL HK HOV;go_wp2_with fail;refine bodyPost_ret (fB rfl _ _ b8 _ _ _ _ rfl HB8.out aI rfl (by rw[List.size_toArray,hoc];exact aE) ⟨b9,0,none⟩ (.int .i64 0) rfl (by go_simp)) rfl ?_;exact HP.out
theorem G4{w:World}{c:Nat}{S:Kor}{B:Nat->Prop}(hK:KI w c S B)(pv:Value)(t:Tr)(ht:Tr.Ok S 3 t)(hp:aL w B pv t.ptr)(n:Nat)(hn:n<64)(vv:Value)(bs:List UInt8)(hbl:bs.length=256)(hr:Rd w 1 vv 256 (bs.map vb))(hvb:∀i,vv.ownBlock=some i->¬B i/\i<w.heap.size)(he:¬t.blk 3 n=bs):Calls Tryz.prog 14 #[.pointer (some ⟨c,0,none⟩),.agg (aJ pv t.ptr).toArray,.int .i64 (n:Int),vv] w (bA w c B (.slice none 0 0) (gC 3 S t n bs).1 (gC 3 S t n bs).2):=by
 have HBS0:Hid ((aP n t 3).blk 0 n=t.blk 3 n):=H' (wF ht).symm;have HO3:=H' (hE (n:=n) ht 3 (by omega));have HNE:=H' he;have HBD:=H' hK.bd;have HBL0:Hid ((t.blk 3 n).length=256):=H' (Tr.Ok.blk_len ht n);have HT:=H' ht;have HN:=H' hn;have HBL:=H' hbl;have HVB:=H' hvb;have HPT:=H' hp;have HK:=H' hK;have HVV:=H' hr;have HBLT:=H' (fun i (e:B i)=>hK.lt e);have HOP0:=H' (fun i (hi:pv.ownBlock=some i)=>(hp.off i hi).2.lt);have HADL:=H' (by have:=(iB (Tr.Ok.may3 ht)).1;omega:t.ptr.addrs.length≤65536);obtain⟨va,vc,hve,-,-⟩:=hr.form;have HVE:=H' hve;rw[hve] at HVV HVB ⊢;have hn0:¬((n:Int)<0):=by omega
 have hn1:¬((64:Int)≤(n:Int)):=by omega
 obtain⟨p,hpe⟩:∃p,t.ptr=p:=⟨_,rfl⟩
 have HPE:=H' hpe;rw[hpe] at HPT hp HADL ⊢;obtain⟨pc,HPC,hpc,HOP⟩:=nmPt hp.pt;rw[HPC.out];have HL:=H' (Loc.nil aB aB w);clear he hp ht hK hpe hr hvb hbl hve;have HPT0:=HPT;have HK0:=HK;have HVV0:=HVV;refine callsIn_wide.1 (callsIn_of_wp_marks (F:=Fence.wide) (n:=3) Tryz.func14 rfl trivial (wpIn_wide.2 ?_));simp only[Tryz.ntmps14,List.size_toArray,List.length_cons,List.length_nil,Nat.reduceAdd,Nat.reduceSub,Array.replicate_succ,Array.replicate_zero,List.push_toArray,List.append_toArray,List.nil_append,List.cons_append]
 go_wp2_with (first
  | ((with_reducible show WL (some 4) (.box 36 _));refine bx 36 (.tmp 0) (#[.pointer (some ⟨c,0,none⟩)]) ?_))
 intro b4 w1 hbs hk hb;replace HL:=H' (HL.out.new (fun _ h=>h.elim) hbs hk hb);replace HPT:=H' (aL.keep0 HPT.out hk);replace HK:=H' (HK.out.keep0 hk);replace HVV:=H' (HVV.out.keep hk fun _ _=>id);clear hbs hk hb
 go_wp2_with (first
  | ((with_reducible show WL (some 5) (.box 26 _));refine bx 26 (.tmp 1) (pc.toArray) ?_))
 intro b5 w2 hbs hk hb;replace HL:=H' (HL.out.new (fun _ h=>h.elim) hbs hk hb);replace HPT:=H' (aL.keep0 HPT.out hk);replace HK:=H' (HK.out.keep0 hk);replace HVV:=H' (HVV.out.keep hk fun _ _=>id);clear hbs hk hb
 go_wp2_with (first
  | ((with_reducible show WL (some 8) (.alloc 26));refine al 26 (.agg aH.toArray) (aH.toArray) aU ?_))
 intro b8 w3 hbs hk hb;replace HL:=H' (HL.out.new (fun _ h=>h.elim) hbs hk hb);replace HPT:=H' (aL.keep0 HPT.out hk);replace HK:=H' (HK.out.keep0 hk);replace HVV:=H' (HVV.out.keep hk fun _ _=>id);clear hbs hk hb
 go_wp2_with (first
  | ((with_reducible show WL (some 9) (.alloc 46));refine al 46 (.int .i64 0) (#[.int .i64 0]) kQ ?_))
 intro b9 w4 hbs hk hb;replace HL:=H' (HL.out.new (fun _ h=>h.elim) hbs hk hb);replace HPT:=H' (aL.keep0 HPT.out hk);replace HK:=H' (HK.out.keep0 hk);replace HVV:=H' (HVV.out.keep hk fun _ _=>id);clear hbs hk hb;have c1:w4.cell? ⟨b4,0,none⟩=some (.pointer (some ⟨c,0,none⟩)):=(aD (i:=0) (HL.out.b 3) rfl)
 go_wp2_with (first
  | ((with_reducible show WL (some 17) (.load 26 _));refine wpList_load_mid rfl 26 (.tmp 5) rfl b5 0 rfl pc _ (aC (HL.out.b 2)) aI rfl (by rw[hpc];exact aE) ?_))
 clear c1;refine((by rw[←HPC.out];exact lB HK.out pv p HPT.out.pt (by rw[←HPE.out];exact HT.out.root):Calls _ _ _ w4 (aM w4 (.int .i64 0)))).mono ?_;rintro e w5 ⟨rfl,hk⟩;replace HL:=H' (HL.out.keeps hk);replace HPT:=H' (aL.keep0 HPT.out hk);replace HK:=H' (HK.out.keep0 hk);replace HVV:=H' (HVV.out.keep hk fun _ _=>id);clear hk
 go_wp2_with (first
  | ((with_reducible show WL (some 10) (.alloc 46));refine al 46 (.int .i64 0) (#[.int .i64 0]) kQ ?_))
 intro b10 w6 hbs hk0 hb0_
 go_wp2_with (first
  | ((with_reducible show WL _ (.store 46 (.tmp 10) (.tmp 18)));refine sta 46 (.tmp 10) (.tmp 18) b10 0 ([.int .i64 0]) hb0_ (by first|decide|(rw[List.size_toArray,rfl];exact Nat.le_refl _)|simp[]) (by kernel_rfl) (by intro v hv;simp only[List.mem_cons,List.not_mem_nil,or_false] at hv;subst hv;rfl) ?_))
 intro w7 hk hb;replace hb:w7.heap[b10]?=some (.cells #[.int .i64 0] 46 (0,0)):=hb;replace hk:=hk0.trans' hk (U:=aB) (fun _ _ h=>h) (fun i hi e=>by omega);replace HL:=H' (HL.out.new (fun _ h=>h.elim) hbs hk hb);replace HPT:=H' (aL.keep0 HPT.out hk);replace HK:=H' (HK.out.keep0 hk);replace HVV:=H' (HVV.out.keep hk fun _ _=>id);clear hbs hk hb hk0 hb0_;have c1:w7.cell? ⟨b10,0,none⟩=some (.int .i64 0):=(aD (i:=0) (HL.out.b 0) rfl)
 have c2:w7.cell? ⟨b4,0,none⟩=some (.pointer (some ⟨c,0,none⟩)):=(aD (i:=0) (HL.out.b 4) rfl)
 go_wp2_with (first
  | ((with_reducible show WL (some 39) (.load 26 _));refine wpList_load_mid rfl 26 (.tmp 5) rfl b5 0 rfl pc _ (aC (HL.out.b 3)) aI rfl (by rw[hpc];exact aE) ?_))
 clear c1 c2;have HWB:=H' HL.out.keep.size;have HB10L:=H' (HL.out.lt 0);have HB9L:=H' (HL.out.lt 1);have HB8L:=H' (HL.out.lt 2);refine((by rw[←HPC.out,←HPE.out];exact Az HK.out pv t HT.out (by rw[HPE.out];exact HPT.out) n HN.out:Calls _ _ _ w7 (qN w7 B pv n t false))).mono ?_;rintro e w8 ⟨sv,pvf,k,pvs,vss,M,rfl,hk3,hM,hwr,hwp,hk⟩;obtain rfl:=hk3 rfl;obtain⟨sa,scap,hsv,hs3,-⟩:=(Rd.of_owns hwr.row).form;subst hsv;have HWR:=H' hwr;have HWP:=H' hwp;have HM:=H' hM;have HS3:=H' hs3;obtain⟨qc,HQC,hqc,HOQ⟩:=nmPt hwp.val.pt;rw[HQC.out];clear hwp hM hwr hs3;have HZ:=H' (HWR.out.zone HM.out HOP0.out);replace HL:=H' (HL.out.keeps hk);replace HPT:=H' (aL.keep0 HPT.out hk);replace HK:=H' (HK.out.keep0 hk);replace HVV:=H' (HVV.out.keep hk fun _ _=>id);clear hk
 go_wp2_with (first
  | ((with_reducible show WL (some 12) (.alloc 26));refine al 26 (.agg aH.toArray) (aH.toArray) aU ?_))
 intro b12 w9 hbs hk0 hb0_
 go_wp2_with (first
  | ((with_reducible show WL _ (.store 26 (.tmp 12) (.tmp 43)));refine sta 26 (.tmp 12) (.tmp 43) b12 0 qc hb0_ (by first|decide|(rw[List.size_toArray,hqc];exact Nat.le_refl _)|simp[hqc,aG]) (by rw[hqc];exact aE) HOQ.out ?_))
 intro wa hk hb;rw[aK _ _ (by first|rfl|(rw[List.size_toArray,hqc];rfl)|simp[hqc,aG])] at hb;replace hk:=hk0.trans' hk (U:=aB) (fun _ _ h=>h) (fun i hi e=>by omega);have HNb12:=H' (show w8.heap.size≤b12 from Nat.le_of_eq hbs);replace HL:=H' (HL.out.new (fun _ h=>h.elim) hbs hk hb);replace HPT:=H' (aL.keep0 HPT.out hk);replace HK:=H' (HK.out.keep0 hk);replace HVV:=H' (HVV.out.keep hk fun _ _=>id);replace HWR:=H' (bM.keep0 HWR.out hk);replace HWP:=H' (cO.keep0 HWP.out hk);clear hbs hk hb hk0 hb0_
 go_wp2_with (first
  | ((with_reducible show WL _ (.store 46 (.tmp 10) (.tmp 44)));refine sta 46 (.tmp 10) (.tmp 44) b10 0 ([.int .i64 0]) (HL.out.b 1) (by simp) (by kernel_rfl) (by intro v hv;simp only[List.mem_cons,List.not_mem_nil,or_false] at hv;subst hv;rfl) ?_))
 intro wb hk hb;replace hb:wb.heap[b10]?=some (.cells #[.int .i64 0] 46 (0,0)):=hb;replace HL:=H' (HL.out.set 1 hk hb);replace HPT:=H' (aL.keep0 HPT0.out HL.out.keep);replace HK:=H' (HK0.out.keep0 HL.out.keep);replace HVV:=H' (HVV0.out.keep HL.out.keep fun _ _=>id);replace HWR:=H' (bM.keepT HWR.out hk (fun i hi e=>by have:=bH HWR.out.row hi;have:=HB10L.out;omega) (fun i hi e=>by have:=HOP0.out i hi;have:=HB10L.out;omega) (fun i hi e=>by have:=HM.out;have:=HB10L.out;omega));replace HWP:=H' (cO.keepT HWP.out hk (fun i hi e=>by have:=HOP0.out i hi;have:=HB10L.out;omega) (fun i hi e=>by have:=HM.out;have:=HB10L.out;omega));clear hk hb;have HB10W:=H' (And.intro (HL.out.lt 0) (HL.out.lt 1));have c1:wb.cell? ⟨b10,0,none⟩=some (.int .i64 0):=(aD (i:=0) (HL.out.b 1) rfl)
 have c2:wb.cell? ⟨b4,0,none⟩=some (.pointer (some ⟨c,0,none⟩)):=(aD (i:=0) (HL.out.b 5) rfl)
 go_wp2_with (first
  | ((with_reducible show WL (some 51) (.load 26 _));refine wpList_load_mid rfl 26 (.tmp 12) rfl b12 0 rfl qc _ (aC (HL.out.b 0)) aI rfl (by rw[hqc];exact aE) ?_))
 clear c1 c2;have HBW:=H' HL.out.keep.size;refine((by rw[←HQC.out];exact rS HK.out pvf (aP n t 3) HO3.out HWP.out.val.pt n:Calls _ _ _ wb (eT wb ((aP n t 3).blk 0 n)))).mono ?_;rintro e wc ⟨v1,rfl,ho,hk⟩;rw[HBS0.out] at ho;obtain⟨wa,wc,rfl,-,-⟩:=(Rd.of_owns ho).form;have HO:=H' ho;have HOG:=H' (fun i (hi:(Value.slice wa 256 wc).ownBlock=some i)=>bH ho hi);clear ho;replace HL:=H' (HL.out.keeps hk);replace HPT:=H' (aL.keep0 HPT.out hk);replace HK:=H' (HK.out.keep0 hk);replace HVV:=H' (HVV.out.keep hk fun _ _=>id);replace HWR:=H' (bM.keep0 HWR.out hk);replace HWP:=H' (cO.keep0 HWP.out hk);clear hk
 go_wp2_with (first
  | ((with_reducible show WL _ (.store 46 (.tmp 10) (.tmp 54)));refine sta 46 (.tmp 10) (.tmp 54) b10 0 ([.int .i64 0]) (HL.out.b 1) (by simp) (by kernel_rfl) (by intro v hv;simp only[List.mem_cons,List.not_mem_nil,or_false] at hv;subst hv;rfl) ?_))
 intro wd hk hb;replace hb:wd.heap[b10]?=some (.cells #[.int .i64 0] 46 (0,0)):=hb;replace HL:=H' (HL.out.set 1 hk hb);replace HPT:=H' (aL.keep0 HPT0.out HL.out.keep);replace HK:=H' (HK0.out.keep0 HL.out.keep);replace HVV:=H' (HVV0.out.keep HL.out.keep fun _ _=>id);replace HWR:=H' (bM.keepT HWR.out hk (fun i hi e=>by have:=bH HWR.out.row hi;have:=HB10L.out;omega) (fun i hi e=>by have:=HOP0.out i hi;have:=HB10L.out;omega) (fun i hi e=>by have:=HM.out;have:=HB10L.out;omega));replace HWP:=H' (cO.keepT HWP.out hk (fun i hi e=>by have:=HOP0.out i hi;have:=HB10L.out;omega) (fun i hi e=>by have:=HM.out;have:=HB10L.out;omega));replace HO:=H' (hk.owns HO.out fun i hi e=>by have:=HOG.out i hi;have:=HB10L.out;have:=HBW.out;have:=HB10W.out;omega);clear hk hb;have c1:wd.cell? ⟨b10,0,none⟩=some (.int .i64 0):=(aD (i:=0) (HL.out.b 1) rfl)
 go_wp2_with fail;clear c1;refine(lM wd _ _ (t.blk 3 n) bs (by rw[HBL0.out];exact Rd.of_owns HO.out) (by rw[HBL.out];exact HVV.out) false (decide_eq_false HNE.out)).mono ?_;rintro e we ⟨rfl,rfl⟩;have c1:wd.cell? ⟨b4,0,none⟩=some (.pointer (some ⟨c,0,none⟩)):=(aD (i:=0) (HL.out.b 5) rfl)
 go_wp2_with fail;clear c1;have HLW:=H' HL.out.keep;have HLK:=H' (And.intro (HL.out.lt 0) (And.intro (HL.out.lt 1) (And.intro (HL.out.lt 2) (And.intro (HL.out.lt 3) (HL.out.lt 5)))));refine((AZ HK.out (.slice va 256 vc) bs HBL.out HVV.out (fun i hi=>(HVB.out i hi).1):Calls _ _ _ wd (bA wd c B (.slice none 0 0) (S.leaf bs).1 (S.leaf bs).2))).mono ?_;rintro e wf ⟨v0,B0,hm1,hpv,hki,hB0,hcl,hnw,hk⟩;obtain⟨er0,her0⟩:∃x,eL (S.leaf bs).1=x:=⟨_,rfl⟩
 rw[her0] at hm1;have HER0:=H' her0;subst hm1;replace hnw:eE wd v0:=hnw.elim (fun e=>by rw[e];exact eE.nil _) id;have HV0:=H' hpv;have HKI:=H' hki;have HB0:=H' hB0;have HCL:=H' hcl;have HNW:=H' hnw;have HKL:=H' hk;obtain⟨lc,HLCE,hlc,HOLC⟩:=nmPt hpv.pt;rw[HLCE.out];clear hpv hki hcl hnw her0;replace HWR:=H' (bM.toB HWR.out hk hB0 (fun i hi e=>by have:=bH HWR.out.row hi;have:=HBLT.out i e;have:=HWB.out;omega));replace HL:=H' (((HL.out.wide HBLT.out).turn hk (fun _ _ h=>h)) (fun i hi hb=>(hB0 i hb).elim id fun e=>by omega));clear hk hB0 HO HWP HVV HK HPT
 go_wp2_with (first
  | ((with_reducible show WL _ (.store 26 (.tmp 12) (.tmp 70)));refine sta 26 (.tmp 12) (.tmp 70) b12 0 lc (HL.out.b 0) (by first|decide|(rw[hlc];exact Nat.le_refl _)|simp[hlc,hqc]) (by rw[hlc];exact aE) HOLC.out ?_))
 intro wg hk hb;rw[aK _ _ (by first|rfl|simp[hlc,hqc])] at hb;replace HL:=H' (HL.out.set 0 hk hb);replace HKI:=H' (KI.keepT HKI.out hk (fun i e hq=>by rw[e] at hq;first|exact HL.out.ap _ (List.mem_of_getElem? (i:=0) rfl) hq|exact HL.out.ap _ (List.mem_of_getElem? (i:=1) rfl) hq));replace HV0:=H' (aL.keepT HV0.out hk (fun i hi e=>by have:=HNW.out i hi;have:=HLK.out;omega));replace HWR:=H' (bM.keepZ HWR.out HZ.out hk (fun i e=>by have:=HNb12.out;have:=HB10L.out;omega));replace HCL:=H' (Cl.onT HCL.out hk fun i hq e=>by rw[e] at hq;first|exact HL.out.ap _ (List.mem_of_getElem? (i:=0) rfl) hq|exact HL.out.ap _ (List.mem_of_getElem? (i:=1) rfl) hq);clear hk hb
 go_wp2_with (first
  | ((with_reducible show WL _ (.store 46 (.tmp 10) (.tmp 71)));refine sta 46 (.tmp 10) (.tmp 71) b10 0 ([.int .i64 er0]) (HL.out.b 1) (by simp) (by kernel_rfl) (by intro v hv;simp only[List.mem_cons,List.not_mem_nil,or_false] at hv;subst hv;rfl) ?_))
 intro wh hk hb;replace hb:wh.heap[b10]?=some (.cells #[.int .i64 er0] 46 (0,0)):=hb;replace HL:=H' (HL.out.set 1 hk hb);replace HKI:=H' (KI.keepT HKI.out hk (fun i e hq=>by rw[e] at hq;first|exact HL.out.ap _ (List.mem_of_getElem? (i:=0) rfl) hq|exact HL.out.ap _ (List.mem_of_getElem? (i:=1) rfl) hq));replace HV0:=H' (aL.keepT HV0.out hk (fun i hi e=>by have:=HNW.out i hi;have:=HLK.out;omega));replace HWR:=H' (bM.keepZ HWR.out HZ.out hk (fun i e=>by have:=HNb12.out;have:=HB10L.out;omega));replace HCL:=H' (Cl.onT HCL.out hk fun i hq e=>by rw[e] at hq;first|exact HL.out.ap _ (List.mem_of_getElem? (i:=0) rfl) hq|exact HL.out.ap _ (List.mem_of_getElem? (i:=1) rfl) hq);clear hk hb;go_wp2_with fail;have HB0L:=H' (fun i (e:B0 i)=>HKI.out.lt e);have HLH:=H' (And.intro (HL.out.lt 0).2 (And.intro (HL.out.lt 1).2 (And.intro (HL.out.lt 2).2 (HL.out.lt 3).2)));refine((I8 (.slice sa 3 scap) wh ⟨_,_,_,rfl⟩)).mono ?_;rintro e wi ⟨B1,rfl,hb1,hB1,hk⟩;have HB1:=H' hb1;have HB1S:=H' hB1;clear hb1 hB1;replace HL:=H' (HL.out.keeps hk);replace HKI:=H' (HKI.out.keep0 hk);replace HV0:=H' (aL.keep0 HV0.out hk);replace HWR:=H' (bM.keep0 HWR.out hk);replace HCL:=H' (Cl.onT HCL.out hk fun _ _=>id);clear hk;go_wp2_with fail;obtain⟨g,cap,cur,hsve,hcap,hgc,hstp⟩:=GW HWR.out (by omega);cases hsve
 have hgz:=(HZ.out.sv g rfl).2;have hgw:=bH HWR.out.row (k:=g) rfl;have hB1l:=lt_of_block HB1.out;have hgl:=lt_of_block hgc;have hwb:=HWB.out;have hn12:=HNb12.out;have hlk:=HLK.out;have hb10:=HB10L.out;have hb9:=HB9L.out;have hb8:=HB8L.out;have hlh:=HLH.out;have hb1s:=HB1S.out;have hlw:=HLW.out.size;have HNE2:=H' (fun q (hq:q<3) p (hp:p<4) i (hi:(vss q p).ownBlock=some i)=>(by have:=HZ.out.vss q hq p hp i hi;omega:i≠b10/\i≠b12))
 have HBK:=E2 (Res:=fun i=>B0 i\/i=b8\/i=b9\/i=b10\/i=b12\/wi.heap.size≤i) (3-1) (fun x=>dJ n t x (pvs x) (vss x)) (fun x hx=>DK HWR.out hx) hcap HB1.out hstp hgc
  (by rintro (e|e|e|e|e|e)<;>first|omega|(have:=HB0L.out _ e;omega)) (by rintro (e|e|e|e|e|e)<;>first|omega|(rcases HB0.out _ e with e|e<;>first|omega|(have:=HBLT.out _ e;omega)))
 have hI0:rT wi b8 b9 b10 b12 c S B0 n t bs 0 wi:=⟨3,v0,B0,rfl,(by have h:=HL.out.b 0;rw[←HLCE.out] at h;exact h),(by have h:=HL.out.b 1;rw[←HER0.out] at h;exact h),HV0.out,fun i hi=>by (have:=HNW.out i hi;omega),HKI.out,fun i h=>.inl h,fun i h=>(Classical.em (IsC wi i)).imp id fun h2=>⟨HKI.out.lt h,h,h2⟩,aA.refl _ _⟩
 have HBB:Hid (∀i,B0 i->B i\/w.heap.size≤i):=H' fun i h=>(HB0.out i h).imp id fun e=>by omega
 replace HL:Hid (Loc B B0 w wi [(b12,lc.toArray,26),(b10,#[.int .i64 er0],46),(b9,#[.int .i64 0],46),(b8,aH.toArray,26),(b5,pc.toArray,26),(b4,#[.pointer (some ⟨c,0,none⟩)],36)]):=HL;have HG:=H' (And.intro HB1S.out (And.intro (lt_of_block (HL.out.b 0)) (And.intro (lt_of_block (HL.out.b 1)) (And.intro (lt_of_block (HL.out.b 2)) (lt_of_block (HL.out.b 3))))));have HWS:=H' HL.out.keep.size;have HWR3:=H' (fun q (hq:q<3)=>(HWR.out.vss q hq).1);have HST3:=H' (fun q (hq:q<3)=>(HWR.out.pvs q hq).1.pt);clear hgz hgw hB1l hgl hwb hn12 hlk hb10 hb9 hb8 hlh hb1s hlw hcap hgc hstp HK0 HPT0 HVV0 HKI HV0 HWR HBW HOG HZ;refine wpIn_wide (n:=3).1 ?_;refine yV rfl (by omega) (gf:=97) rfl trivial (enters_of Tryz.func97 (by kernel_rfl) rfl) (N:=3) (encs:=Ba (fun x=>dJ n t x (pvs x) (vss x))) HBK (fun _=>rfl) (rT wi b8 b9 b10 b12 c S B0 n t bs) (Cr wi b8 b9 b10 b12 c S B0 n t bs) (fun W k=>hI0.keep0 k) (fun k W l o hl h ho hc o'=>h.put hl ho hc o') (fun W l o hl h ho hc o'=>h.put hl ho hc o') ?round ?done ?stop
 case round =>
  rintro l k W1 hk3 hI hl;obtain⟨y',v,B',hky,h12,h10,hpv,hvo,hki,hB',hBI,hkp⟩:=hI;obtain⟨y,rfl⟩:∃y,y'=y+1:=⟨y'-1,by omega⟩
  have hky2:k+y=2:=by omega
  have hy3:y<3:=by omega
  have HNV:Hid (bQ W1 B' (vss y) (fun i=>((aP n t y).kid i).ptr)):=H' fun q hq=>(HWR3.out y hy3 q hq).grow (T:=fun i=>i=b10\/i=b12) hkp (fun i hi e=>by have:=HNE2.out y hy3 q hq i hi;omega) hB'
  have HPY:=HST3.out y hy3;have HA35:=H' (aN (v:=pvs y) (HST3.out y hy3).sum);have HOA:=H' (bC (HST3.out y hy3));unfold Ba;dsimp only;rw[show 2-k=y by omega];obtain⟨⟨r,T⟩,hrT⟩:∃q,gC k S (aP n t (y+1)) n bs=q:=⟨_,rfl⟩
  rw[hrT] at h12 h10 hpv hki;dsimp only at h12 h10 hpv hki;have HRT:=H' hrT;have huc:=aN (v:=v) hpv.pt.sum;have HOU0:=bC hpv.pt;obtain⟨uc,huce⟩:∃x,aJ v (dM r)=x:=⟨_,rfl⟩
  have HOU:Hid (∀u∈uc,u.oneCell'=true):=H' (by rw[←huce];exact HOU0);have HUC:=H' huce;rw[huce] at huc h12;have HL1:=H' (Loc.round HL.out h12 h10 hB' HBB.out hkp);have HKI:=H' hki;have HPV:=H' hpv;have HBI:=H' hBI;have HB2:=H' hB';have HKP:=H' hkp;have HSW:=H' (And.intro hkp.size hl);have HVL:=H' (fun i hi=>(hpv.off i hi).2.lt);have HNL:=H' (fun q (hq:q<4) i hi=>((HNV.out q hq).off i hi).2.lt);have HX:=H' (aA.refl aB W1);obtain⟨dg,hdg⟩:∃d,n / 4 ^ (2-y) % 4=d:=⟨_,rfl⟩
  have hd4:dg<4:=by rw[←hdg];exact Nat.mod_lt _ (by decide)
  have HDG:=H' hdg
  have hsc:(dJ n t y (pvs y) (vss y)).length=177:=by
   unfold dJ;rw[List.length_append,List.length_append,HA35.out,dF _ _ (HWR3.out y hy3).nv];rfl
  have HOS0:∀u∈dJ n t y (pvs y) (vss y),u.oneCell'=true:=by
   intro u hu;rcases List.mem_append.1 hu with h|h
   ·exact HOA.out u h
   ·rcases List.mem_append.1 h with h|h
    ·exact dS _ (HWR3.out y hy3).nv u h
    ·rw[List.mem_singleton] at h;subst h;rfl
  have hS0:dJ n t y (pvs y) (vss y)=aJ (pvs y) (aP n t y).ptr++(cH ((k+1:Nat):Int) (vss y) (fun i=>((aP n t y).kid i).ptr)++[.int .i64 (dg:Int)]):=by
   unfold dJ;rw[hdg,show 3-y=k+1 by omega]
  obtain⟨sc,hsce⟩:∃x,dJ n t y (pvs y) (vss y)=x:=⟨_,rfl⟩
  rw[hsce] at hsc HOS0 hS0 ⊢;have HOS:=H' HOS0;have HSC:=H' hS0;have hd0:(0:Int)≤(dg:Int):=by omega
  have hd1:(dg:Int)<4:=by omega
  rw[Ak];simp only[List.setIfInBounds_toArray,List.set_cons_zero,List.set_cons_succ];replace HL:=HL1;clear hpv hki hBI hB' hkp h10 h12 hI0 HBK HWR3 HST3 HOS0 hS0 hsce hdg huce HOU0 HPY HL1 hrT;rcases r with _|u
  ·replace HL:Hid (Loc B B' w W1 [(b12,uc.toArray,26),(b10,#[.int .i64 15],46),(b9,#[.int .i64 0],46),(b8,aH.toArray,26),(b5,pc.toArray,26),(b4,#[.pointer (some ⟨c,0,none⟩)],36)]):=HL
   refine cP (by kernel_rfl) (fun ⟨_,_,h⟩=>h) ?_
   go_wp2_with (first
    | ((with_reducible show WL (some 15) (.alloc 125));refine al 125 (.agg eV.toArray) (eV.toArray) qO ?_))
   intro b15 wk hbs hk0 hb0_
   go_wp2_with (first
    | ((with_reducible show WL _ (.store 125 (.tmp 15) (.tmp 75)));refine sta 125 (.tmp 15) (.tmp 75) b15 0 sc hb0_ (by first|decide|(rw[List.size_toArray,hsc];exact Nat.le_refl _)|simp[hsc,eJ]) (by rw[hsc];exact jH) HOS.out ?_))
   intro wl hk hb;rw[aK _ _ (by first|rfl|(rw[List.size_toArray,hsc];rfl)|simp[hsc,eJ])] at hb;replace hk:=hk0.trans' hk (U:=aB) (fun _ _ h=>h) (fun i hi e=>by omega);have HNb15:=H' (show W1.heap.size≤b15 from Nat.le_of_eq hbs);replace HL:=H' (HL.out.new (fun k h=>HKI.out.lt h) hbs hk hb);replace HKI:=H' (HKI.out.keep0 hk);replace HPV:=H' (aL.keep0 HPV.out hk);replace HNV:=H' (bQ.keep0 HNV.out hk);replace HBI:=H' (fun i h=>(HBI.out i h).imp (fun c=>c.keep hk id) id);replace HKP:=H' (HKP.out.trans (aA.any hk));replace HX:=H' (HX.out.trans hk);clear hbs hk hb hk0 hb0_;go_wp2_with fail;refine⟨KpN.of HX.out (fun _ _ h=>h.elim),KpC.of HX.out (fun _ h=>h.elim),fun o o' hoo hoc=>?_⟩;have kd:=aA.of_grown (grownBy_putObj' wl l o');have no:=fun {i:Nat}(h:IsC wl i)=>mF hoo hoc h
   have nB:∀i,some l=some i->¬B' i:=fun i e hb=>(HBI.out i hb).elim (fun h=>no h e) fun h=>by have:=h.1;injection e with e;have:=HSW.out.2;omega
   replace HL:=H' (HL.out.put (o':=o') hoo hoc (by have:=HSW.out.2;have:=HWS.out;omega));replace HKI:=H' (HKI.out.keepT kd nB);replace HPV:=H' (HPV.out.keepT kd fun i hi=>no (HPV.out.off i hi).2);replace HNV:=H' (HNV.out.keepT kd fun q hq i hi=>no ((HNV.out q hq).off i hi).2);replace HBI:Hid (∀i,B' i->IsC (wl.putObj l o') i\/i<wi.heap.size/\B0 i/\¬IsC wi i):=H' fun i h=>(HBI.out i h).imp (fun c=>c.keep kd (no c)) id
   replace HKP:=H' (HKP.out.trans' kd (fun _ _ h=>h) (fun i hi e=>by injection e with e;have:=HSW.out.2;omega));clear HX kd no nB;generalize World.putObj wl l o'=V at HL HKI HPV HNV HBI HKP ⊢;have HLV:=HL;have HBV:=HBI;have HX:Hid (aA (fun i=>B' i\/i=b8\/i=b9\/i=b10\/i=b12\/i=b15) V V):=H' (aA.refl _ _);clear hoo hoc;refine wpIn_block ?_
   repeat refine wpIn_seq ?_
   refine cP (by kernel_rfl) (fun ⟨_,_,h⟩=>h) ?_;have c1:V.cell? ⟨b10,0,none⟩=some (.int .i64 15):=(aD (i:=0) (HL.out.b 2) rfl)
   go_wp2_with fail;clear c1;refine wpIn_cond_true rfl ?_;refine wpIn_seq ?_;replace HKP:Hid (aA (fun i=>B0 i\/i=b8\/i=b9\/i=b10\/i=b12) wi V):=H' ((aA.refl aB wi).trans' HKP.out (fun _ _ h=>h.elim) (fun i hi e=>e.elim .inl fun e=>e.elim (fun e=>.inr (.inr (.inr (.inl e)))) fun e=>.inr (.inr (.inr (.inr e)))));have HFIN:Hid (∀Wf,Wf.heap[b8]?=some (.cells aH.toArray E4 (0,0))->Wf.heap[b9]?=some (.cells #[.int .i64 15] E3 (0,0))->KI Wf c T B'->(∀i,B' i->IsC Wf i\/i<wi.heap.size/\B0 i/\¬IsC wi i)->aA (fun i=>B0 i\/i=b8\/i=b9\/i=b10\/i=b12) wi Wf->Cr wi b8 b9 b10 b12 c S B0 n t bs Wf):=H' fun Wf a1 a2 a3 a4 a5=>⟨T,B',AC (y:=y+1) (by omega) HRT.out,a1,a2,a3,HB2.out,a4,a5⟩
   go_wp2_with fail;obtain⟨S,hS0⟩:∃S:World->Prop,S=fun w'=>aA (fun k=>k=b8\/k=b9) V.drew w':=⟨_,rfl⟩
   have HSE:=H' (show ∀w',S w'->aA (fun k=>k=b8\/k=b9) V.drew w' from fun w' h=>by rw[hS0] at h;exact h);have HSI:=H' (show ∀w',aA (fun k=>k=b8\/k=b9) V.drew w'->S w' from fun w' h=>by rw[hS0];exact h);have hS:S V.drew:=by rw[hS0];exact aA.refl _ _
   have hkd:=(aA.refl aB V).drew;clear hS0;refine kU (by kernel_rfl) (by kernel_rfl) (fun ⟨_,_,h⟩=>h) (wpAny_of_held (S:=S) _ _ _ _ ?_);change wpAnyH _ _ _ _ _ _ _ _ V.drew;generalize V.drew=wm at HSE HSI hS hkd ⊢;replace HL:=H' (HL.out.keeps hkd);replace HKI:=H' (HKI.out.keep0 hkd);replace HBI:=H' (fun i h=>(HBI.out i h).imp (fun c=>c.keep hkd id) id);replace HKP:=H' (HKP.out.trans (aA.any hkd));replace HX:=H' (HX.out.trans (aA.any hkd));clear hkd;have HLs:=HL;have HKIs:=HKI;have HBIs:=HBI;have HKPs:=HKP;have HXs:=HX;refine tnd 0 (.agg aH.toArray) rfl (pI (by rfl) 26 rfl iL) hS ?_;refine tnd 1 (.int .i64 15) rfl (.inl ⟨by rfl,fun w' hw'=>by have c:World.cell? w' ⟨b10,0,none⟩=some (.int .i64 15):=aD (i:=0) ((HSE.out w' hw').blk (HLs.out.b 2) (fun e=>by rcases e with e|e<;>first|exact bK (i:=4) HLs.out.nd rfl 2 (by decide) rfl e|exact bK (i:=3) HLs.out.nd rfl 2 (by decide) rfl e)) rfl;go_simp⟩) hS ?_;refine aF (k:=2) rfl (by kernel_rfl) ?_;refine sta 26 (.tmp 8) (.tmp 78) b8 0 aH (HL.out.b 4) (by first|decide|(rw[aG];exact Nat.le_refl _)|simp[aG,aG]) (by rw[aG];exact aE) xZ ?_;intro wn hk hb;rw[aK _ _ (by first|rfl|simp[aG,aG])] at hb;have hS1:=HSI.out _ ((HSE.out _ hS).trans' hk (fun _ _ h=>h) (fun i hi e=>(.inl e)));clear hS;replace HL:=H' (HL.out.set 4 hk hb);replace HKI:=H' (KI.keepT HKI.out hk (fun i e hq=>by rw[e] at hq;first|exact HL.out.ap _ (List.mem_of_getElem? (i:=0) rfl) hq|exact HL.out.ap _ (List.mem_of_getElem? (i:=1) rfl) hq|exact HL.out.ap _ (List.mem_of_getElem? (i:=2) rfl) hq|exact HL.out.ap _ (List.mem_of_getElem? (i:=3) rfl) hq|exact HL.out.ap _ (List.mem_of_getElem? (i:=4) rfl) hq|exact HL.out.ap _ (List.mem_of_getElem? (i:=5) rfl) hq|exact HL.out.ap _ (List.mem_of_getElem? (i:=6) rfl) hq));replace HBI:=H' (fun i h=>(HBI.out i h).imp (fun cc=>cc.keep hk (fun e=>by rw[e] at h;first|exact HL.out.ap _ (List.mem_of_getElem? (i:=0) rfl) h|exact HL.out.ap _ (List.mem_of_getElem? (i:=1) rfl) h|exact HL.out.ap _ (List.mem_of_getElem? (i:=2) rfl) h|exact HL.out.ap _ (List.mem_of_getElem? (i:=3) rfl) h|exact HL.out.ap _ (List.mem_of_getElem? (i:=4) rfl) h|exact HL.out.ap _ (List.mem_of_getElem? (i:=5) rfl) h|exact HL.out.ap _ (List.mem_of_getElem? (i:=6) rfl) h)) id);replace HKP:=H' (HKP.out.trans' hk (fun _ _ h=>h) (fun i hi e=>by first|exact .inr (.inl e)|exact .inr (.inr (.inl e))|exact .inr (.inr (.inr (.inl e)))|exact .inr (.inr (.inr (.inr e)))|(have:=HNb15.out;have:=HSW.out;omega)));replace HX:=H' (HX.out.trans' hk (fun _ _ h=>h) (fun i _ e=>by first|exact .inr (.inl e)|exact .inr (.inr (.inl e))|exact .inr (.inr (.inr (.inl e)))|exact .inr (.inr (.inr (.inr (.inl e))))|exact .inr (.inr (.inr (.inr (.inr e))))));clear hk hb;refine wpList_nil ?_;refine⟨hS1,?_⟩;refine aF (k:=3) rfl (by kernel_rfl) ?_;refine sta 46 (.tmp 9) (.tmp 79) b9 0 ([.int .i64 15]) (HL.out.b 3) (by simp) (by kernel_rfl) (by intro v hv;simp only[List.mem_cons,List.not_mem_nil,or_false] at hv;subst hv;rfl) ?_;intro wo hk hb;replace hb:wo.heap[b9]?=some (.cells #[.int .i64 15] 46 (0,0)):=hb;have hS2:=HSI.out _ ((HSE.out _ hS1).trans' hk (fun _ _ h=>h) (fun i hi e=>(.inr (e))));clear hS1;replace HL:=H' (HL.out.set 3 hk hb);replace HKI:=H' (KI.keepT HKI.out hk (fun i e hq=>by rw[e] at hq;first|exact HL.out.ap _ (List.mem_of_getElem? (i:=0) rfl) hq|exact HL.out.ap _ (List.mem_of_getElem? (i:=1) rfl) hq|exact HL.out.ap _ (List.mem_of_getElem? (i:=2) rfl) hq|exact HL.out.ap _ (List.mem_of_getElem? (i:=3) rfl) hq|exact HL.out.ap _ (List.mem_of_getElem? (i:=4) rfl) hq|exact HL.out.ap _ (List.mem_of_getElem? (i:=5) rfl) hq|exact HL.out.ap _ (List.mem_of_getElem? (i:=6) rfl) hq));replace HBI:=H' (fun i h=>(HBI.out i h).imp (fun cc=>cc.keep hk (fun e=>by rw[e] at h;first|exact HL.out.ap _ (List.mem_of_getElem? (i:=0) rfl) h|exact HL.out.ap _ (List.mem_of_getElem? (i:=1) rfl) h|exact HL.out.ap _ (List.mem_of_getElem? (i:=2) rfl) h|exact HL.out.ap _ (List.mem_of_getElem? (i:=3) rfl) h|exact HL.out.ap _ (List.mem_of_getElem? (i:=4) rfl) h|exact HL.out.ap _ (List.mem_of_getElem? (i:=5) rfl) h|exact HL.out.ap _ (List.mem_of_getElem? (i:=6) rfl) h)) id);replace HKP:=H' (HKP.out.trans' hk (fun _ _ h=>h) (fun i hi e=>by first|exact .inr (.inl e)|exact .inr (.inr (.inl e))|exact .inr (.inr (.inr (.inl e)))|exact .inr (.inr (.inr (.inr e)))|(have:=HNb15.out;have:=HSW.out;omega)));replace HX:=H' (HX.out.trans' hk (fun _ _ h=>h) (fun i _ e=>by first|exact .inr (.inl e)|exact .inr (.inr (.inl e))|exact .inr (.inr (.inr (.inl e)))|exact .inr (.inr (.inr (.inr (.inl e))))|exact .inr (.inr (.inr (.inr (.inr e))))));clear hk hb;refine wpList_nil ?_;refine⟨hS2,?_⟩;refine wpAnyH_done (by kernel_rfl) ?_ _;clear hS2 HSE HSI HLs HKIs HBIs HKPs HXs;refine wpIn_ret ?_;have HSF:=HFIN.out _ (HL.out.b 4) (HL.out.b 3) HKI.out HBI.out HKP.out
   exact⟨KpN.of HX.out fun i o e hn ho=>by
    rcases e with e|e|e|e|e|e
    ·rcases HBV.out i e with⟨cs,t,h⟩|h
     ·rw[h] at ho;cases ho;rfl
     ·omega
    ·have:=HG.out;omega
    ·have:=HG.out;omega
    ·have:=HG.out;omega
    ·have:=HG.out;omega
    ·subst e;rw[HLV.out.b 0] at ho;cases ho;rfl,HSF⟩
  ·replace HL:Hid (Loc B B' w W1 [(b12,uc.toArray,26),(b10,#[.int .i64 0],46),(b9,#[.int .i64 0],46),(b8,aH.toArray,26),(b5,pc.toArray,26),(b4,#[.pointer (some ⟨c,0,none⟩)],36)]):=HL
   refine cP (by kernel_rfl) (fun ⟨_,_,h⟩=>h) ?_
   go_wp2_with (first
    | ((with_reducible show WL (some 15) (.alloc 125));refine al 125 (.agg eV.toArray) (eV.toArray) qO ?_))
   intro b15 wk hbs hk0 hb0_
   go_wp2_with (first
    | ((with_reducible show WL _ (.store 125 (.tmp 15) (.tmp 75)));refine sta 125 (.tmp 15) (.tmp 75) b15 0 sc hb0_ (by first|decide|(rw[List.size_toArray,hsc];exact Nat.le_refl _)|simp[hsc,eJ]) (by rw[hsc];exact jH) HOS.out ?_))
   intro wl hk hb;rw[aK _ _ (by first|rfl|(rw[List.size_toArray,hsc];rfl)|simp[hsc,eJ])] at hb;replace hk:=hk0.trans' hk (U:=aB) (fun _ _ h=>h) (fun i hi e=>by omega);have HNb15:=H' (show W1.heap.size≤b15 from Nat.le_of_eq hbs);replace HL:=H' (HL.out.new (fun k h=>HKI.out.lt h) hbs hk hb);replace HKI:=H' (HKI.out.keep0 hk);replace HPV:=H' (aL.keep0 HPV.out hk);replace HNV:=H' (bQ.keep0 HNV.out hk);replace HBI:=H' (fun i h=>(HBI.out i h).imp (fun c=>c.keep hk id) id);replace HKP:=H' (HKP.out.trans (aA.any hk));replace HX:=H' (HX.out.trans hk);clear hbs hk hb hk0 hb0_;go_wp2_with fail;refine⟨KpN.of HX.out (fun _ _ h=>h.elim),KpC.of HX.out (fun _ h=>h.elim),fun o o' hoo hoc=>?_⟩;have kd:=aA.of_grown (grownBy_putObj' wl l o');have no:=fun {i:Nat}(h:IsC wl i)=>mF hoo hoc h
   have nB:∀i,some l=some i->¬B' i:=fun i e hb=>(HBI.out i hb).elim (fun h=>no h e) fun h=>by have:=h.1;injection e with e;have:=HSW.out.2;omega
   replace HL:=H' (HL.out.put (o':=o') hoo hoc (by have:=HSW.out.2;have:=HWS.out;omega));replace HKI:=H' (HKI.out.keepT kd nB);replace HPV:=H' (HPV.out.keepT kd fun i hi=>no (HPV.out.off i hi).2);replace HNV:=H' (HNV.out.keepT kd fun q hq i hi=>no ((HNV.out q hq).off i hi).2);replace HBI:Hid (∀i,B' i->IsC (wl.putObj l o') i\/i<wi.heap.size/\B0 i/\¬IsC wi i):=H' fun i h=>(HBI.out i h).imp (fun c=>c.keep kd (no c)) id
   replace HKP:=H' (HKP.out.trans' kd (fun _ _ h=>h) (fun i hi e=>by injection e with e;have:=HSW.out.2;omega));clear HX kd no nB;generalize World.putObj wl l o'=V at HL HKI HPV HNV HBI HKP ⊢;have HLV:=HL;have HBV:=HBI;have HX:Hid (aA (fun i=>B' i\/i=b8\/i=b9\/i=b10\/i=b12\/i=b15) V V):=H' (aA.refl _ _);clear hoo hoc;refine wpIn_block ?_
   repeat refine wpIn_seq ?_
   refine cP (by kernel_rfl) (fun ⟨_,_,h⟩=>h) ?_;have c1:V.cell? ⟨b10,0,none⟩=some (.int .i64 0):=(aD (i:=0) (HL.out.b 2) rfl)
   go_wp2_with fail;clear c1;have HBU:=H' (DJ (t:=t) (n:=n) (k:=k) (y:=y+1) HBD.out HT.out HBL.out HNE.out (by omega) HRT.out);have HKO:=H' (hE (n:=n) HT.out y (by omega));refine wpIn_cond_false rfl ?_;refine wpIn_skip ?_;have hkc:=aN (v:=vss y dg) ((HNV.out dg hd4).pt.sum);have HOK0:=bC (HNV.out dg hd4).pt;obtain⟨kc,hkce⟩:∃x,aJ (vss y dg) ((aP n t y).kid dg).ptr=x:=⟨_,rfl⟩
   have HOKC:Hid (∀u∈kc,u.oneCell'=true):=H' (by rw[←hkce];exact HOK0);have HKC:=H' hkce;rw[hkce] at hkc;clear hkce HOK0
   have hst:gC (k+1) S (aP n t y) n bs=(T.lay (k+1) (eK (aP n t y).kid dg u)):=by
    rw[Cp S t n bs (k:=k) (y:=y) hky2,HRT.out,←HDG.out,show 2-y=k by omega]
   have HFIN:Hid (∀Wf v2 B2,Wf.heap[b12]?=some (.cells (aJ v2 (dM (T.lay (k+1) (eK (aP n t y).kid dg u)).1)).toArray E4 (0,0))->Wf.heap[b10]?=some (.cells #[.int .i64 (eL (T.lay (k+1) (eK (aP n t y).kid dg u)).1)] E3 (0,0))->aL Wf B2 v2 (dM (T.lay (k+1) (eK (aP n t y).kid dg u)).1)->(∀i,v2.ownBlock=some i->i≠b8/\i≠b9/\i≠b10/\i≠b12)->KI Wf c (T.lay (k+1) (eK (aP n t y).kid dg u)).2 B2->(∀i,B2 i->B0 i\/wi.heap.size≤i)->(∀i,B2 i->IsC Wf i\/i<wi.heap.size/\B0 i/\¬IsC wi i)->aA (fun i=>B0 i\/i=b10\/i=b12) wi Wf->rT wi b8 b9 b10 b12 c S B0 n t bs (k+1) Wf):=H' fun Wf v2 B2 a1 a2 a3 a4 a5 a6 a7 a8=>⟨y,v2,B2,by omega,by rw[hst];exact a1,by rw[hst];exact a2,by rw[hst];exact a3,a4,by rw[hst];exact a5,a6,a7,a8⟩
   clear hst
   repeat refine wpIn_seq ?_
   go_wp2_with fail;obtain⟨S,hS0⟩:∃S:World->Prop,S=fun w'=>aA aB V.drew w':=⟨_,rfl⟩
   have HSE:=H' (show ∀w',S w'->aA aB V.drew w' from fun w' h=>by rw[hS0] at h;exact h);have HSI:=H' (show ∀w',aA aB V.drew w'->S w' from fun w' h=>by rw[hS0];exact h);have hS:S V.drew:=by rw[hS0];exact aA.refl _ _
   have hkd:=(aA.refl aB V).drew;clear hS0;refine kU (by kernel_rfl) (by kernel_rfl) (fun ⟨_,_,h⟩=>h) (wpAny_of_held (S:=S) _ _ _ _ ?_);change wpAnyH _ _ _ _ _ _ _ _ V.drew;generalize V.drew=wm at HSE HSI hS hkd ⊢;replace HL:=H' (HL.out.keeps hkd);replace HKI:=H' (HKI.out.keep0 hkd);replace HPV:=H' (aL.keep0 HPV.out hkd);replace HNV:=H' (bQ.keep0 HNV.out hkd);replace HBI:=H' (fun i h=>(HBI.out i h).imp (fun c=>c.keep hkd id) id);replace HKP:=H' (HKP.out.trans (aA.any hkd));replace HX:=H' (HX.out.trans (aA.any hkd));clear hkd;have HLs:=HL;have HKIs:=HKI;have HPVs:=HPV;have HNVs:=HNV;have HBIs:=HBI;have HKPs:=HKP;have HXs:=HX;refine tnd 0 (.agg uc.toArray) rfl (yieldsIf_load_mid (by rfl) 26 (.tmp 12) rfl b12 0 rfl uc _ (fun w' h=>aC ((HSE.out w' h).blk (HLs.out.b 1) id)) aI rfl (by rw[huc];exact aE)) hS ?_;refine tnb 1 (.pointer (some ⟨b15,176,none⟩)) rfl hS ?_;refine tnd 2 (.int .i64 (dg:Int)) rfl (.inl ⟨by rfl,fun w' hw'=>by have c:World.cell? w' ⟨b15,176,none⟩=some (.int .i64 (dg:Int)):=(DL HA35.out (dF _ _ HNV.out.nv) (by have hq:=((HSE.out w' hw').blk (HLs.out.b 0) id);rw[HSC.out] at hq;exact hq));go_simp⟩) hS ?_;refine tnb 3 (.pointer (some ⟨b15,35,none⟩)) rfl hS ?_;refine tnb 4 (.pointer (some ⟨b15,36,none⟩)) rfl hS ?_;refine tnb 5 (.pointer (some ⟨b15,36+dg*35,none⟩)) rfl hS ?_;refine tnd 6 (.agg kc.toArray) rfl (yieldsIf_load_mid (by rfl) 26 (.tmp 85) rfl b15 (36+dg*35) rfl kc _ (fun w' h=>(by rw[←HKC.out];exact Kw (vs:=vss y) (ps:=(fun i=>((aP n t y).kid i).ptr)) HA35.out HNV.out.nv hd4 (by have hq:=((HSE.out w' h).blk (HLs.out.b 0) id);rw[HSC.out] at hq;exact hq))) aI rfl (by rw[hkc];exact aE)) hS ?_;refine aF (k:=7) rfl (by kernel_rfl) ?_;go_wp2_with fail;refine((by rw[←HUC.out,←HKC.out];exact nO wm v (vss y dg) u.ptr ((aP n t y).kid dg).ptr HPV.out.pt (HNV.out dg hd4).pt:Calls _ _ _ wm (bE wm (u.ptr.eqB ((aP n t y).kid dg).ptr)))).mono ?_;rintro e wn ⟨rfl,hk⟩;rw[show u.ptr.eqB ((aP n t y).kid dg).ptr=false from by have h:=HBU.out.2.2;rw[←HDG.out];exact h];have hS1:=HSI.out _ ((HSE.out _ hS).trans hk);replace HL:=H' (HL.out.keeps hk);replace HKI:=H' (HKI.out.keep0 hk);replace HPV:=H' (aL.keep0 HPV.out hk);replace HNV:=H' (bQ.keep0 HNV.out hk);replace HBI:=H' (fun i h=>(HBI.out i h).imp (fun c=>c.keep hk id) id);replace HKP:=H' (HKP.out.trans (aA.any hk));replace HX:=H' (HX.out.trans (aA.any hk));clear hS hk;go_wp2_with fail;refine⟨hS1,?_⟩;refine wpAnyH_done (by kernel_rfl) ?_ _;clear hS1 HSE HSI HLs HKIs HPVs HNVs HBIs HKPs HXs;refine wpIn_cond_false rfl ?_;refine wpIn_skip ?_;refine wpIn_seq ?_;refine cP (by kernel_rfl) (fun ⟨_,_,h⟩=>h) ?_;have c1:wn.cell? ⟨b15,176,none⟩=some (.int .i64 (dg:Int)):=(DL HA35.out (dF _ _ HNV.out.nv) (by have hq:=HL.out.b 0;rw[HSC.out] at hq;exact hq))
   go_wp2_with (first
    | ((with_reducible show WL (some 92) (.load 26 _));refine wpList_load_mid rfl 26 (.tmp 12) rfl b12 0 rfl uc _ (aC (HL.out.b 1)) aI rfl (by rw[huc];exact aE) ?_)
    | ((with_reducible show WL _ (.store 26 (.tmp 95) (.tmp 92)));refine sta 26 (.tmp 95) (.tmp 92) b15 (36+dg*35) uc (HL.out.b 0) (by rw[List.size_toArray,hsc,huc];omega) (by rw[huc];exact aE) HOU.out ?_))
   clear c1;intro wo hk hb;rw[HSC.out,←HUC.out,show dM (some u)=u.ptr from rfl,Kx (v:=v) (p:=u.ptr) HA35.out HNV.out.nv hd4 HPV.out.pt.sum,Cq] at hb;have HNU:=H' (HNV.out.upd (d:=dg) HPV.out);have hnn:=dF ((k+1:Nat):Int) (fC (vss y) dg v) HNU.out.nv;obtain⟨nn,hnne⟩:∃x,cH ((k+1:Nat):Int) (fC (vss y) dg v) (fun i=>(eK (aP n t y).kid dg u i).ptr)=x:=⟨_,rfl⟩
   have HNN:=H' hnne;rw[hnne] at hb hnn;obtain⟨sd,hsde⟩:∃x,aJ (pvs y) (aP n t y).ptr++(nn++[.int .i64 (dg:Int)])=x:=⟨_,rfl⟩
   have HSD:=H' hsde;rw[hsde] at hb
   have HNUL:Hid (∀q,q<4->∀i,(fC (vss y) dg v q).ownBlock=some i->i<W1.heap.size):=H' (fun q hq i hi=>by
    by_cases e:q=dg
    ·rw[e,lU] at hi;exact HVL.out i hi
    ·rw[lV _ _ e] at hi;exact HNL.out q hq i hi)
   clear hnne hsde;replace HL:=H' (HL.out.set 0 hk hb);replace HKI:=H' (KI.keepT HKI.out hk (fun i e hq=>by rw[e] at hq;first|exact HL.out.ap _ (List.mem_of_getElem? (i:=0) rfl) hq|exact HL.out.ap _ (List.mem_of_getElem? (i:=1) rfl) hq|exact HL.out.ap _ (List.mem_of_getElem? (i:=2) rfl) hq|exact HL.out.ap _ (List.mem_of_getElem? (i:=3) rfl) hq|exact HL.out.ap _ (List.mem_of_getElem? (i:=4) rfl) hq|exact HL.out.ap _ (List.mem_of_getElem? (i:=5) rfl) hq|exact HL.out.ap _ (List.mem_of_getElem? (i:=6) rfl) hq));replace HBI:=H' (fun i h=>(HBI.out i h).imp (fun cc=>cc.keep hk (fun e=>by rw[e] at h;first|exact HL.out.ap _ (List.mem_of_getElem? (i:=0) rfl) h|exact HL.out.ap _ (List.mem_of_getElem? (i:=1) rfl) h|exact HL.out.ap _ (List.mem_of_getElem? (i:=2) rfl) h|exact HL.out.ap _ (List.mem_of_getElem? (i:=3) rfl) h|exact HL.out.ap _ (List.mem_of_getElem? (i:=4) rfl) h|exact HL.out.ap _ (List.mem_of_getElem? (i:=5) rfl) h|exact HL.out.ap _ (List.mem_of_getElem? (i:=6) rfl) h)) id);replace HKP:=H' (HKP.out.trans' hk (fun _ _ h=>h) (fun i hi e=>by first|exact .inr (.inl e)|exact .inr (.inr e)|(have:=HNb15.out;have:=HSW.out;omega)));replace HX:=H' (HX.out.trans' hk (fun _ _ h=>h) (fun i _ e=>by first|exact .inr (.inl e)|exact .inr (.inr (.inl e))|exact .inr (.inr (.inr (.inl e)))|exact .inr (.inr (.inr (.inr (.inl e))))|exact .inr (.inr (.inr (.inr (.inr e))))));replace HNU:=H' (bQ.keepT HNU.out hk (fun q hq i hi e=>by have:=HNUL.out q hq i hi;have:=HNb15.out;omega));clear hk hb;refine wpList_nil ?_;refine cP (by kernel_rfl) (fun ⟨_,_,h⟩=>h) ?_;have c1:wo.cell? ⟨b4,0,none⟩=some (.pointer (some ⟨c,0,none⟩)):=(aD (i:=0) (HL.out.b 6) rfl)
   go_wp2_with (first
    | ((with_reducible show WL (some 99) (.load 123 _));refine wpList_load_mid rfl 123 (.tmp 98) rfl b15 35 rfl nn _ (I9 HA35.out (by have hq:=(HL.out.b 0);rw[←HSD.out] at hq;exact hq)) Tryz.underlying123 rfl (by rw[hnn];exact dZ) ?_))
   clear c1;refine((by rw[←HNN.out];exact Cn HKI.out (by omega) (eK (aP n t y).kid dg u) (Kv (fun i hi=>by have h:=HKO.out;rw[show 3-y=k+1 by omega] at h;exact h.kid hi) HBU.out.1.ext HBU.out.2.1) (fC (vss y) dg v) HNU.out:Calls _ _ _ wo (bA wo c B' (.slice none 0 0) (T.lay (k+1) (eK (aP n t y).kid dg u)).1 (T.lay (k+1) (eK (aP n t y).kid dg u)).2))).mono ?_;rintro e wp ⟨v2,B2,hm2,hpv2,hki2,hBB2,hcl2,hnw2,hk⟩;obtain⟨er2,her2⟩:∃x,eL (T.lay (k+1) (eK (aP n t y).kid dg u)).1=x:=⟨_,rfl⟩
   rw[her2] at hm2;have HER2:=H' her2;subst hm2;replace hnw2:eE wo v2:=hnw2.elim (fun e=>by rw[e];exact eE.nil _) id;have HPV2:=H' hpv2;have HKI2:=H' hki2;have HNW2:=H' hnw2;have HBB2:=H' hBB2;have HBI2:Hid (∀i,B2 i->IsC wp i\/i<wi.heap.size/\B0 i/\¬IsC wi i):=H' fun i h=>(hcl2 i h).imp id fun ⟨a1,a2⟩=>(HBI.out i a1).resolve_left a2
   have hlc2:=aN (v:=v2) hpv2.pt.sum;have HLC20:=bC hpv2.pt;obtain⟨lc2,hlce2⟩:∃x,aJ v2 (dM (T.lay (k+1) (eK (aP n t y).kid dg u)).1)=x:=⟨_,rfl⟩
   have HOLC2:Hid (∀u∈lc2,u.oneCell'=true):=H' (by rw[←hlce2];exact HLC20);have HLCE2:=H' hlce2;rw[hlce2] at hlc2 ⊢;have HSV:=H' (show wi.heap.size≤wo.heap.size from HKP.out.size);have HLQ:=H' (And.intro (HL.out.lt 1).2 (And.intro (HL.out.lt 2).2 (And.intro (HL.out.lt 3).2 (HL.out.lt 4).2)));clear hlce2 HLC20 hpv2 hki2 hcl2 hnw2 her2;replace HX:Hid (aA (fun i=>B' i\/i=b8\/i=b9\/i=b10\/i=b12\/i=b15) V wp):=H' (HX.out.trans' hk (fun _ _ h=>h) (fun i _ e=>.inl e));replace HKP:=H' (HKP.out.trans' hk (fun _ _ h=>h) (fun i hi e=>(HB2.out i e).elim .inl fun e=>by omega));replace HL:=H' (HL.out.turn hk (fun i hi e=>(HB2.out i e).elim (fun e=>(HBB.out i e).elim id fun e=>by omega) fun e=>by have:=HWS.out;omega) (fun i hi e=>(hBB2 i e).elim id fun e=>by omega));clear hk hBB2 HKI HBI HNU
   go_wp2_with (first
    | ((with_reducible show WL _ (.store 26 (.tmp 12) (.tmp 101)));refine sta 26 (.tmp 12) (.tmp 101) b12 0 lc2 (HL.out.b 1) (by first|decide|(rw[hlc2];exact Nat.le_refl _)|simp[hlc2,huc]) (by rw[hlc2];exact aE) HOLC2.out ?_))
   intro wq hk hb;rw[aK _ _ (by first|rfl|simp[hlc2,huc])] at hb;replace HL:=H' (HL.out.set 1 hk hb);replace HKI2:=H' (KI.keepT HKI2.out hk (fun i e hq=>by rw[e] at hq;first|exact HL.out.ap _ (List.mem_of_getElem? (i:=0) rfl) hq|exact HL.out.ap _ (List.mem_of_getElem? (i:=1) rfl) hq|exact HL.out.ap _ (List.mem_of_getElem? (i:=2) rfl) hq|exact HL.out.ap _ (List.mem_of_getElem? (i:=3) rfl) hq|exact HL.out.ap _ (List.mem_of_getElem? (i:=4) rfl) hq|exact HL.out.ap _ (List.mem_of_getElem? (i:=5) rfl) hq|exact HL.out.ap _ (List.mem_of_getElem? (i:=6) rfl) hq));replace HPV2:=H' (aL.keepT HPV2.out hk (fun i hi e=>by have:=HNW2.out i hi;have:=HLQ.out;omega));replace HBI2:=H' (fun i h=>(HBI2.out i h).imp (fun cc=>cc.keep hk (fun e=>by rw[e] at h;first|exact HL.out.ap _ (List.mem_of_getElem? (i:=0) rfl) h|exact HL.out.ap _ (List.mem_of_getElem? (i:=1) rfl) h|exact HL.out.ap _ (List.mem_of_getElem? (i:=2) rfl) h|exact HL.out.ap _ (List.mem_of_getElem? (i:=3) rfl) h|exact HL.out.ap _ (List.mem_of_getElem? (i:=4) rfl) h|exact HL.out.ap _ (List.mem_of_getElem? (i:=5) rfl) h|exact HL.out.ap _ (List.mem_of_getElem? (i:=6) rfl) h)) id);replace HKP:=H' (HKP.out.trans' hk (fun _ _ h=>h) (fun i hi e=>by first|exact .inr (.inl e)|exact .inr (.inr e)|(have:=HNb15.out;have:=HSW.out;omega)));replace HX:=H' (HX.out.trans' hk (fun _ _ h=>h) (fun i _ e=>by first|exact .inr (.inl e)|exact .inr (.inr (.inl e))|exact .inr (.inr (.inr (.inl e)))|exact .inr (.inr (.inr (.inr (.inl e))))|exact .inr (.inr (.inr (.inr (.inr e))))));clear hk hb
   go_wp2_with (first
    | ((with_reducible show WL _ (.store 46 (.tmp 10) (.tmp 102)));refine sta 46 (.tmp 10) (.tmp 102) b10 0 ([.int .i64 er2]) (HL.out.b 2) (by simp) (by kernel_rfl) (by intro v hv;simp only[List.mem_cons,List.not_mem_nil,or_false] at hv;subst hv;rfl) ?_))
   intro wr hk hb;replace hb:wr.heap[b10]?=some (.cells #[.int .i64 er2] 46 (0,0)):=hb;replace HL:=H' (HL.out.set 2 hk hb);replace HKI2:=H' (KI.keepT HKI2.out hk (fun i e hq=>by rw[e] at hq;first|exact HL.out.ap _ (List.mem_of_getElem? (i:=0) rfl) hq|exact HL.out.ap _ (List.mem_of_getElem? (i:=1) rfl) hq|exact HL.out.ap _ (List.mem_of_getElem? (i:=2) rfl) hq|exact HL.out.ap _ (List.mem_of_getElem? (i:=3) rfl) hq|exact HL.out.ap _ (List.mem_of_getElem? (i:=4) rfl) hq|exact HL.out.ap _ (List.mem_of_getElem? (i:=5) rfl) hq|exact HL.out.ap _ (List.mem_of_getElem? (i:=6) rfl) hq));replace HPV2:=H' (aL.keepT HPV2.out hk (fun i hi e=>by have:=HNW2.out i hi;have:=HLQ.out;omega));replace HBI2:=H' (fun i h=>(HBI2.out i h).imp (fun cc=>cc.keep hk (fun e=>by rw[e] at h;first|exact HL.out.ap _ (List.mem_of_getElem? (i:=0) rfl) h|exact HL.out.ap _ (List.mem_of_getElem? (i:=1) rfl) h|exact HL.out.ap _ (List.mem_of_getElem? (i:=2) rfl) h|exact HL.out.ap _ (List.mem_of_getElem? (i:=3) rfl) h|exact HL.out.ap _ (List.mem_of_getElem? (i:=4) rfl) h|exact HL.out.ap _ (List.mem_of_getElem? (i:=5) rfl) h|exact HL.out.ap _ (List.mem_of_getElem? (i:=6) rfl) h)) id);replace HKP:=H' (HKP.out.trans' hk (fun _ _ h=>h) (fun i hi e=>by first|exact .inr (.inl e)|exact .inr (.inr e)|(have:=HNb15.out;have:=HSW.out;omega)));replace HX:=H' (HX.out.trans' hk (fun _ _ h=>h) (fun i _ e=>by first|exact .inr (.inl e)|exact .inr (.inr (.inl e))|exact .inr (.inr (.inr (.inl e)))|exact .inr (.inr (.inr (.inr (.inl e))))|exact .inr (.inr (.inr (.inr (.inr e))))));clear hk hb;go_wp2_with fail;have HSI0:=HL.out.b 1;have HSI1:=HL.out.b 2;rw[←HLCE2.out] at HSI0;rw[←HER2.out] at HSI1;have HSN:=HFIN.out _ v2 B2 HSI0 HSI1 HPV2.out (fun i hi=>by (have:=HNW2.out i hi;have:=HLQ.out;omega)) HKI2.out (fun i h=>(HBB2.out i h).elim (HB2.out i) fun e=>.inr (by have:=HSV.out;omega)) HBI2.out HKP.out
   refine⟨KpN.of HX.out fun i o e hn ho=>by
    rcases e with e|e|e|e|e|e
    ·rcases HBV.out i e with⟨cs,t,h⟩|h
     ·rw[h] at ho;cases ho;rfl
     ·omega
    ·have:=HG.out;omega
    ·have:=HG.out;omega
    ·have:=HG.out;omega
    ·have:=HG.out;omega
    ·subst e;rw[HLV.out.b 0] at ho;cases ho;rfl,KpC.of HX.out (fun i e=>?_),HSN⟩
   rcases e with e|e|e|e|e|e
   ·exact(HB2.out i e).elim .inl fun e=>.inr (.inr (.inr (.inr (.inr e))))
   ·exact .inr (.inl e)
   ·exact .inr (.inr (.inl e))
   ·exact .inr (.inr (.inr (.inl e)))
   ·exact .inr (.inr (.inr (.inr (.inl e))))
   ·exact .inr (.inr (.inr (.inr (.inr (by have:=HNb15.out;have:=HSW.out;omega)))))
 case done =>
  rintro D W hDs ⟨y,v,B',hky,h12,h10,hpv,hvo,hki,hB',hBI,hkp⟩ hDd;obtain rfl:y=0:=by omega
  rename_i KQ hKQ;obtain⟨⟨r,T⟩,hrT⟩:∃q,gC 3 S t n bs=q:=⟨_,rfl⟩
  have e0:gC 3 S (aP n t 0) n bs=(r,T):=hrT;rw[e0] at h12 h10 hpv hki;rw[hrT] at hKQ ⊢;dsimp only at h12 h10 hpv hki hKQ ⊢;have HRT:=H' hrT;have huc:=aN (v:=v) hpv.pt.sum;have HOU0:=bC hpv.pt;obtain⟨uc,huce⟩:∃x,aJ v (dM r)=x:=⟨_,rfl⟩
  have HOU:Hid (∀u∈uc,u.oneCell'=true):=H' (by rw[←huce];exact HOU0);have HUC:=H' huce;rw[huce] at huc h12;have HL1:=H' (Loc.round HL.out h12 h10 hB' HBB.out hkp);have HKI:=H' hki;have HPV:=H' hpv;have HBI:=H' hBI;have HDD:=H' hDd;have HKP:Hid (aA (fun i=>B0 i\/i=b8\/i=b9\/i=b10\/i=b12) wi W):=H' ((aA.refl aB wi).trans' hkp (fun _ _ h=>h.elim) (fun i hi e=>e.elim .inl fun e=>e.elim (fun e=>.inr (.inr (.inr (.inl e)))) fun e=>.inr (.inr (.inr (.inr e)))));have HPVO:=H' hvo
  have HFX:Hid (∀Wf v2,aL Wf B' v2 (dM r)->v2=.slice none 0 0\/eE w v2->KI Wf c T B'->(∀i,B' i->IsC Wf i\/i<wi.heap.size/\B0 i/\¬IsC wi i)->aA (fun i=>B0 i\/i=b8\/i=b9\/i=b10\/i=b12) wi Wf->Wf.heap[D]?=some (.deferred (some []))->bA w c B (.slice none 0 0) r T (.returned (.tuple #[.agg (aJ v2 (dM r)).toArray,.int .i64 (eL r)])) (Wf.putObj D (.deferred none))):=H' fun Wf v2 a1 a2 a3 a4 a5 a6=>by
   have kd:=aA.of_grown (grownBy_putObj' Wf D (.deferred none));have no:=fun {i:Nat}(h:IsC Wf i)=>mF a6 rfl h
   have nB:∀i,some D=some i->¬B' i:=fun i e hb=>(a4 i hb).elim (fun h=>no h e) fun h=>by have:=h.1;injection e with e;omega
   exact bA.upon (W:=Wf) rfl (a1.keepT kd fun i hi=>no (a1.off i hi).2) (a3.keepT kd nB) a2 HBB.out hB' HLW.out HCL.out (fun i h=>(a4 i h).imp (fun c=>c.keep kd (no c)) id) HL.out.keep (a5.trans' kd (fun _ _ h=>h) (fun i hi e=>by injection e with e;omega)) (fun i h=>h.elim .inl fun h=>.inr (by have:=HLK.out;omega))
  replace HL:=HL1;have HD8:=H' (show b8≠D/\b9≠D from by have:=HG.out;omega)
  have HBU:Hid (∀u,r=some u->u.ptr.addrs.length≤65536):=H' fun u hu=>by
   subst hu;have h:=(DJ (t:=t) (n:=n) (k:=3) (y:=0) HBD.out HT.out HBL.out HNE.out (by omega) e0).2.1;have:=(iB (Tr.Ok.may3 h)).1;omega
  clear hpv hki hBI hB' hkp h10 h12 hI0 HBK HOU0 HL1 hrT e0 huce hvo;show KQ _ _;refine hKQ _ _ ?_;clear hKQ;rcases r with _|u
  ·replace HL:Hid (Loc B B' w W [(b12,uc.toArray,26),(b10,#[.int .i64 15],46),(b9,#[.int .i64 0],46),(b8,aH.toArray,26),(b5,pc.toArray,26),(b4,#[.pointer (some ⟨c,0,none⟩)],36)]):=HL
   have c1:W.cell? ⟨b10,0,none⟩=some (.int .i64 15):=(aD (i:=0) (HL.out.b 1) rfl)
   go_wp2_with fail;clear c1;go_wp2_with fail;obtain⟨S,hS0⟩:∃S:World->Prop,S=fun w'=>aA (fun k=>k=b8\/k=b9) W.drew w':=⟨_,rfl⟩
   have HSE:=H' (show ∀w',S w'->aA (fun k=>k=b8\/k=b9) W.drew w' from fun w' h=>by rw[hS0] at h;exact h);have HSI:=H' (show ∀w',aA (fun k=>k=b8\/k=b9) W.drew w'->S w' from fun w' h=>by rw[hS0];exact h);have hS:S W.drew:=by rw[hS0];exact aA.refl _ _
   have hkd:=(aA.refl aB W).drew;clear hS0;refine eU (S:=S) (by kernel_rfl) ?_;change wpAnyH _ _ _ _ _ _ _ _ W.drew;generalize W.drew=wk at HSE HSI hS hkd ⊢;replace HL:=H' (HL.out.keeps hkd);replace HKI:=H' (HKI.out.keep0 hkd);replace HBI:=H' (fun i h=>(HBI.out i h).imp (fun c=>c.keep hkd id) id);replace HKP:=H' (HKP.out.trans (aA.any hkd));replace HDD:=H' (hkd.blk HDD.out id);clear hkd;have HLs:=HL;have HKIs:=HKI;have HBIs:=HBI;have HKPs:=HKP;have HDDs:=HDD;refine tnd 0 (.agg aH.toArray) rfl (pI (by rfl) 26 rfl iL) hS ?_;refine tnd 1 (.int .i64 15) rfl (.inl ⟨by rfl,fun w' hw'=>by have c:World.cell? w' ⟨b10,0,none⟩=some (.int .i64 15):=aD (i:=0) ((HSE.out w' hw').blk (HLs.out.b 1) (fun e=>by rcases e with e|e<;>first|exact bK (i:=3) HLs.out.nd rfl 1 (by decide) rfl e|exact bK (i:=2) HLs.out.nd rfl 1 (by decide) rfl e)) rfl;go_simp⟩) hS ?_;refine aF (k:=2) rfl (by kernel_rfl) ?_;refine sta 26 (.tmp 8) (.tmp 105) b8 0 aH (HL.out.b 3) (by first|decide|(rw[aG];exact Nat.le_refl _)|simp[aG,aG]) (by rw[aG];exact aE) xZ ?_;intro wl hk hb;rw[aK _ _ (by first|rfl|simp[aG,aG])] at hb;have hS1:=HSI.out _ ((HSE.out _ hS).trans' hk (fun _ _ h=>h) (fun i hi e=>(.inl e)));clear hS;replace HL:=H' (HL.out.set 3 hk hb);replace HKI:=H' (KI.keepT HKI.out hk (fun i e hq=>by rw[e] at hq;first|exact HL.out.ap _ (List.mem_of_getElem? (i:=0) rfl) hq|exact HL.out.ap _ (List.mem_of_getElem? (i:=1) rfl) hq|exact HL.out.ap _ (List.mem_of_getElem? (i:=2) rfl) hq|exact HL.out.ap _ (List.mem_of_getElem? (i:=3) rfl) hq|exact HL.out.ap _ (List.mem_of_getElem? (i:=4) rfl) hq|exact HL.out.ap _ (List.mem_of_getElem? (i:=5) rfl) hq|exact HL.out.ap _ (List.mem_of_getElem? (i:=6) rfl) hq));replace HBI:=H' (fun i h=>(HBI.out i h).imp (fun cc=>cc.keep hk (fun e=>by rw[e] at h;first|exact HL.out.ap _ (List.mem_of_getElem? (i:=0) rfl) h|exact HL.out.ap _ (List.mem_of_getElem? (i:=1) rfl) h|exact HL.out.ap _ (List.mem_of_getElem? (i:=2) rfl) h|exact HL.out.ap _ (List.mem_of_getElem? (i:=3) rfl) h|exact HL.out.ap _ (List.mem_of_getElem? (i:=4) rfl) h|exact HL.out.ap _ (List.mem_of_getElem? (i:=5) rfl) h|exact HL.out.ap _ (List.mem_of_getElem? (i:=6) rfl) h)) id);replace HKP:=H' (HKP.out.trans' hk (fun _ _ h=>h) (fun i hi e=>by first|exact .inr (.inl e)|exact .inr (.inr (.inl e))));replace HDD:=H' (hk.blk HDD.out (fun e=>by have:=HD8.out;omega));clear hk hb;refine wpList_nil ?_;refine⟨hS1,?_⟩;refine aF (k:=3) rfl (by kernel_rfl) ?_;refine sta 46 (.tmp 9) (.tmp 106) b9 0 ([.int .i64 15]) (HL.out.b 2) (by simp) (by kernel_rfl) (by intro v hv;simp only[List.mem_cons,List.not_mem_nil,or_false] at hv;subst hv;rfl) ?_;intro wm hk hb;replace hb:wm.heap[b9]?=some (.cells #[.int .i64 15] 46 (0,0)):=hb;have hS2:=HSI.out _ ((HSE.out _ hS1).trans' hk (fun _ _ h=>h) (fun i hi e=>(.inr (e))));clear hS1;replace HL:=H' (HL.out.set 2 hk hb);replace HKI:=H' (KI.keepT HKI.out hk (fun i e hq=>by rw[e] at hq;first|exact HL.out.ap _ (List.mem_of_getElem? (i:=0) rfl) hq|exact HL.out.ap _ (List.mem_of_getElem? (i:=1) rfl) hq|exact HL.out.ap _ (List.mem_of_getElem? (i:=2) rfl) hq|exact HL.out.ap _ (List.mem_of_getElem? (i:=3) rfl) hq|exact HL.out.ap _ (List.mem_of_getElem? (i:=4) rfl) hq|exact HL.out.ap _ (List.mem_of_getElem? (i:=5) rfl) hq|exact HL.out.ap _ (List.mem_of_getElem? (i:=6) rfl) hq));replace HBI:=H' (fun i h=>(HBI.out i h).imp (fun cc=>cc.keep hk (fun e=>by rw[e] at h;first|exact HL.out.ap _ (List.mem_of_getElem? (i:=0) rfl) h|exact HL.out.ap _ (List.mem_of_getElem? (i:=1) rfl) h|exact HL.out.ap _ (List.mem_of_getElem? (i:=2) rfl) h|exact HL.out.ap _ (List.mem_of_getElem? (i:=3) rfl) h|exact HL.out.ap _ (List.mem_of_getElem? (i:=4) rfl) h|exact HL.out.ap _ (List.mem_of_getElem? (i:=5) rfl) h|exact HL.out.ap _ (List.mem_of_getElem? (i:=6) rfl) h)) id);replace HKP:=H' (HKP.out.trans' hk (fun _ _ h=>h) (fun i hi e=>by first|exact .inr (.inl e)|exact .inr (.inr (.inl e))));replace HDD:=H' (hk.blk HDD.out (fun e=>by have:=HD8.out;omega));clear hk hb;refine wpList_nil ?_;refine⟨hS2,?_⟩;refine wpAnyH_done (by kernel_rfl) ?_ _;clear hS2 HSE HSI HLs HKIs HBIs HKPs HDDs;refine noP ?_;go_wp2_with fail;have HB8:=H' (HL.out.b 3);have HPF:=H' (HFX.out _ (.slice none 0 0) (aL.hole _ _) (.inl rfl) HKI.out HBI.out HKP.out HDD.out);have kd:=aA.of_grown (grownBy_putObj' wm D (.deferred none));have HP8:=H' (kd.blk (HL.out.b 3) (mF HDD.out rfl ⟨_,_,HL.out.b 3⟩));have c9:(wm.putObj D (.deferred none)).cell? ⟨b9,0,none⟩=some (.int .i64 15):=aD (i:=0) (kd.blk (HL.out.b 2) (mF HDD.out rfl ⟨_,_,HL.out.b 2⟩)) rfl;have hdf:=HDD.out;clear kd HL HKI HBI HKP;show bodyPostM _ _ _ _ _ .ret _ _;refine⟨by simp,.inl ⟨_,_,rfl,run_takeDeferred hdf,?_⟩⟩;exact⟨_,fB rfl _ _ b8 _ _ _ _ rfl HP8.out aI rfl (by rw[List.size_toArray,aG];exact aE) ⟨b9,0,none⟩ (.int .i64 15) rfl (by go_simp),HPF.out⟩
  ·replace HL:Hid (Loc B B' w W [(b12,uc.toArray,26),(b10,#[.int .i64 0],46),(b9,#[.int .i64 0],46),(b8,aH.toArray,26),(b5,pc.toArray,26),(b4,#[.pointer (some ⟨c,0,none⟩)],36)]):=HL
   have c1:W.cell? ⟨b10,0,none⟩=some (.int .i64 0):=(aD (i:=0) (HL.out.b 1) rfl)
   go_wp2_with (first
    | ((with_reducible show WL (some 107) (.load 26 _));refine wpList_load_mid rfl 26 (.tmp 12) rfl b12 0 rfl uc _ (aC (HL.out.b 0)) aI rfl (by rw[huc];exact aE) ?_))
   clear c1;have HLS:=H' HL.out.keep.size;have HLB:=H' (And.intro (HL.out.lt 2).2 (HL.out.lt 3).2);refine((by rw[←HUC.out];exact wD (fun i e=>HKI.out.lt e) v u.ptr HPV.out.pt (HBU.out u rfl):Calls _ _ _ W (qM W B' u.ptr))).mono ?_;rintro e wk ⟨ov,rfl,hov,hovn,hk⟩;have HOV:=H' hov;have HOVN:=H' hovn;have HON2:=H' (hovn.from HLS.out);obtain⟨oc,HOCE,hoc,HOOC⟩:=nmPt hov.pt;rw[HOCE.out];clear hov hovn;replace HL:=H' (HL.out.keeps hk);replace HKI:=H' (HKI.out.keep0 hk);replace HPV:=H' (aL.keep0 HPV.out hk);replace HBI:=H' (fun i h=>(HBI.out i h).imp (fun c=>c.keep hk id) id);replace HKP:=H' (HKP.out.trans (aA.any hk));replace HDD:=H' (hk.blk HDD.out id);clear hk;clear HPV
   go_wp2_with (first
    | ((with_reducible show WL _ (.store 26 (.tmp 8) (.tmp 108)));refine sta 26 (.tmp 8) (.tmp 108) b8 0 oc (HL.out.b 3) (by first|decide|(rw[hoc];exact Nat.le_refl _)|simp[hoc,aG]) (by rw[hoc];exact aE) HOOC.out ?_))
   intro wl hk hb;rw[aK _ _ (by first|rfl|simp[hoc,aG])] at hb;replace HL:=H' (HL.out.set 3 hk hb);replace HKI:=H' (KI.keepT HKI.out hk (fun i e hq=>by rw[e] at hq;first|exact HL.out.ap _ (List.mem_of_getElem? (i:=0) rfl) hq|exact HL.out.ap _ (List.mem_of_getElem? (i:=1) rfl) hq|exact HL.out.ap _ (List.mem_of_getElem? (i:=2) rfl) hq|exact HL.out.ap _ (List.mem_of_getElem? (i:=3) rfl) hq|exact HL.out.ap _ (List.mem_of_getElem? (i:=4) rfl) hq|exact HL.out.ap _ (List.mem_of_getElem? (i:=5) rfl) hq|exact HL.out.ap _ (List.mem_of_getElem? (i:=6) rfl) hq));replace HBI:=H' (fun i h=>(HBI.out i h).imp (fun cc=>cc.keep hk (fun e=>by rw[e] at h;first|exact HL.out.ap _ (List.mem_of_getElem? (i:=0) rfl) h|exact HL.out.ap _ (List.mem_of_getElem? (i:=1) rfl) h|exact HL.out.ap _ (List.mem_of_getElem? (i:=2) rfl) h|exact HL.out.ap _ (List.mem_of_getElem? (i:=3) rfl) h|exact HL.out.ap _ (List.mem_of_getElem? (i:=4) rfl) h|exact HL.out.ap _ (List.mem_of_getElem? (i:=5) rfl) h|exact HL.out.ap _ (List.mem_of_getElem? (i:=6) rfl) h)) id);replace HKP:=H' (HKP.out.trans' hk (fun _ _ h=>h) (fun i hi e=>by first|exact .inr (.inl e)|exact .inr (.inr (.inl e))));replace HDD:=H' (hk.blk HDD.out (fun e=>by have:=HD8.out;omega));replace HOV:=H' (aL.keepT HOV.out hk (fun i hi e=>by have:=HOVN.out i hi;have:=HLB.out;omega));clear hk hb
   go_wp2_with (first
    | ((with_reducible show WL _ (.store 46 (.tmp 9) (.const (.int .i64 0))));refine sta 46 (.tmp 9) (.const (.int .i64 0)) b9 0 ([.int .i64 0]) (HL.out.b 2) (by simp) (by kernel_rfl) (by intro v hv;simp only[List.mem_cons,List.not_mem_nil,or_false] at hv;subst hv;rfl) ?_))
   intro wm hk hb;replace hb:wm.heap[b9]?=some (.cells #[.int .i64 0] 46 (0,0)):=hb;replace HL:=H' (HL.out.set 2 hk hb);replace HKI:=H' (KI.keepT HKI.out hk (fun i e hq=>by rw[e] at hq;first|exact HL.out.ap _ (List.mem_of_getElem? (i:=0) rfl) hq|exact HL.out.ap _ (List.mem_of_getElem? (i:=1) rfl) hq|exact HL.out.ap _ (List.mem_of_getElem? (i:=2) rfl) hq|exact HL.out.ap _ (List.mem_of_getElem? (i:=3) rfl) hq|exact HL.out.ap _ (List.mem_of_getElem? (i:=4) rfl) hq|exact HL.out.ap _ (List.mem_of_getElem? (i:=5) rfl) hq|exact HL.out.ap _ (List.mem_of_getElem? (i:=6) rfl) hq));replace HBI:=H' (fun i h=>(HBI.out i h).imp (fun cc=>cc.keep hk (fun e=>by rw[e] at h;first|exact HL.out.ap _ (List.mem_of_getElem? (i:=0) rfl) h|exact HL.out.ap _ (List.mem_of_getElem? (i:=1) rfl) h|exact HL.out.ap _ (List.mem_of_getElem? (i:=2) rfl) h|exact HL.out.ap _ (List.mem_of_getElem? (i:=3) rfl) h|exact HL.out.ap _ (List.mem_of_getElem? (i:=4) rfl) h|exact HL.out.ap _ (List.mem_of_getElem? (i:=5) rfl) h|exact HL.out.ap _ (List.mem_of_getElem? (i:=6) rfl) h)) id);replace HKP:=H' (HKP.out.trans' hk (fun _ _ h=>h) (fun i hi e=>by first|exact .inr (.inl e)|exact .inr (.inr (.inl e))));replace HDD:=H' (hk.blk HDD.out (fun e=>by have:=HD8.out;omega));replace HOV:=H' (aL.keepT HOV.out hk (fun i hi e=>by have:=HOVN.out i hi;have:=HLB.out;omega));clear hk hb;go_wp2_with fail;have HB8:=H' (HL.out.b 3);have HPF:=H' (HFX.out _ ov HOV.out (.inr HON2.out) HKI.out HBI.out HKP.out HDD.out);have kd:=aA.of_grown (grownBy_putObj' wm D (.deferred none));have HP8:=H' (kd.blk (HL.out.b 3) (mF HDD.out rfl ⟨_,_,HL.out.b 3⟩));have c9:(wm.putObj D (.deferred none)).cell? ⟨b9,0,none⟩=some (.int .i64 0):=aD (i:=0) (kd.blk (HL.out.b 2) (mF HDD.out rfl ⟨_,_,HL.out.b 2⟩)) rfl;have hdf:=HDD.out;rw[show dM (some u)=u.ptr from rfl,HOCE.out] at HPF;clear kd HL HKI HBI HKP;show bodyPostM _ _ _ _ _ .ret _ _;refine⟨by simp,.inl ⟨_,_,rfl,run_takeDeferred hdf,?_⟩⟩;exact⟨_,fB rfl _ _ b8 _ _ _ _ rfl HP8.out aI rfl (by rw[List.size_toArray,hoc];exact aE) ⟨b9,0,none⟩ (.int .i64 0) rfl (by go_simp),HPF.out⟩
 case stop =>
  rintro D W hDs ⟨T,B',hset,h8,h9,hki,hB',hBI,hkp⟩ hDd;have kd:=aA.of_grown (grownBy_putObj' W D (.deferred none));have no:=fun {i:Nat}(h:IsC W i)=>mF hDd rfl h
  have nB:∀i,some D=some i->¬B' i:=fun i e hb=>(hBI i hb).elim (fun h=>no h e) fun h=>by have:=h.1;injection e with e;omega
  have HP:Hid (bA w c B (.slice none 0 0) none T (.returned (.tuple #[.agg aH.toArray,.int .i64 15])) (W.putObj D (.deferred none))):=H' (bA.upon (W:=W) rfl (aL.hole _ _) (hki.keepT kd nB) (.inl rfl) HBB.out hB' HLW.out HCL.out (fun i h=>(hBI i h).imp (fun c=>c.keep kd (no c)) id) HL.out.keep (hkp.trans' kd (fun _ _ h=>h) (fun i hi e=>by injection e with e;omega)) (fun i h=>h.elim .inl fun h=>.inr (by have:=HLK.out;omega)));have HP8:=H' (kd.blk h8 (no ⟨_,_,h8⟩));have c9:(W.putObj D (.deferred none)).cell? ⟨b9,0,none⟩=some (.int .i64 15):=aD (i:=0) (kd.blk h9 (no ⟨_,_,h9⟩)) rfl;rw[hset];clear kd no nB hki hB' hBI hkp h8 h9 hI0 HBK;show bodyPostM _ _ _ _ _ .ret _ _;refine⟨by simp,.inl ⟨_,_,rfl,run_takeDeferred hDd,?_⟩⟩;exact⟨_,fB rfl _ _ b8 _ _ _ _ rfl HP8.out aI rfl (by rw[List.size_toArray,aG];exact aE) ⟨b9,0,none⟩ (.int .i64 15) rfl (by go_simp),HP.out⟩
theorem gP{w:World}{c:Nat}{S:Kor}{B:Nat->Prop}(hK:KI w c S B)(pv:Value)(t:Tr)(ht:Tr.Ok S 3 t)(hp:aL w B pv t.ptr)(n:Nat)(hn:n<64)(vv:Value)(bs:List UInt8)(hbl:bs.length=256)(hr:Rd w 1 vv 256 (bs.map vb))(hvb:∀i,vv.ownBlock=some i->¬B i/\i<w.heap.size):Calls Tryz.prog 14 #[.pointer (some ⟨c,0,none⟩),.agg (aJ pv t.ptr).toArray,.int .i64 (n:Int),vv] w (bA w c B (.slice none 0 0) (oU S t n bs).1 (oU S t n bs).2):=by
 unfold oU
 by_cases h:t.blk 3 n=bs
 ·rw[if_pos h];exact G3 hK pv t ht hp n hn vv bs hbl hr hvb h
 ·rw[if_neg h];exact G4 hK pv t ht hp n hn vv bs hbl hr hvb h
structure cJ(w:World)(B:Nat->Prop)(b4 b5 c:Nat):Prop where
 c:w.heap[b4]?=some (.cells #[.pointer (some ⟨c,0,none⟩)] 36 (0,0))
 y:∃T,w.heap[b5]?=some (.cells #[.func (.func 54) #[] #[.pointer (some ⟨b4,0,none⟩),.pointer (some ⟨b5,0,none⟩)]] T (0,0))
 o4:Off w B b4
 o5:Off w B b5
theorem cJ.keep{w w':World}{B B':Nat->Prop}{b4 b5 c:Nat}(h:cJ w B b4 b5 c)(k:aA B w w')(hB:∀k,B' k->B k\/w.heap.size≤k):cJ w' B' b4 b5 c:=
 ⟨k.blk h.c h.o4.1,h.y.imp fun T h2=>k.blk h2 h.o5.1,h.o4.keep k hB,h.o5.keep k hB⟩
theorem cJ.keep0{w w':World}{B:Nat->Prop}{b4 b5 c:Nat}(h:cJ w B b4 b5 c)(k:aA aB w w'):cJ w' B b4 b5 c:=h.keep k.any fun _ h=>.inl h
theorem AF{w:World}{c:Nat}{S:Kor}{B:Nat->Prop}(hK:KI w c S B){b4 b5:Nat}(pv:Value)(t:Tr)(l:Nat)(hl:l≤3)(f g:Int)(hf:-1000≤f/\f≤1000)(hg:-1000≤g/\g≤1000)(ht:Tr.Ok S l t)(hp:aL w B pv t.ptr)(hc:cJ w B b4 b5 c)(he:t.isHole=true\/min g (4 ^ l)≤max f 0):Calls Tryz.prog 54 #[.agg (aJ pv t.ptr).toArray,.int .i64 (l:Int),.int .i64 f,.int .i64 g,.pointer (some ⟨b4,0,none⟩),.pointer (some ⟨b5,0,none⟩)] w (bA w c B pv (some t) S):=by
 have HT:=H' ht;have HC:=H' hc;have HE:=H' he;have HHE:=H' ht.hole_eq;have HPT:=H' hp;have HK:=H' hK;obtain⟨p,hpe⟩:∃p,t.ptr=p:=⟨_,rfl⟩
 have HPE:=H' hpe;rw[hpe] at HPT hp HHE ⊢;obtain⟨pc,HPC,hpc,HOP⟩:=nmPt hp.pt;rw[HPC.out];have HL:=H' (Loc.nil aB aB w);obtain⟨m,hm⟩:∃m:Nat,4 ^ l=m:=⟨_,rfl⟩
 have HM:=H' hm
 have hm64:m≤64/\1≤m:=by
  have:l=0\/l=1\/l=2\/l=3:=by omega
  rcases this with rfl|rfl|rfl|rfl<;>omega
 have hll:0≤(l:Int):=by omega
 clear hp hpe hK ht hc he hm;cases hh:t.isHole with
 | true =>
   rw[hh] at HHE;clear hh HE;have HPT0:=HPT;have HK0:=HK;have HC0:=HC;go_enter Tryz.func54,Tryz.ntmps54
   go_wp2_with (first
    | ((with_reducible show WL (some 6) (.box 26 _));refine bx 26 (.tmp 0) (pc.toArray) ?_))
   intro b6 w1 hbs hk hb;replace HL:=H' (HL.out.new (fun _ h=>h.elim) hbs hk hb);replace HPT:=H' (aL.keep0 HPT.out hk);replace HK:=H' (HK.out.keep0 hk);replace HC:=H' (cJ.keep0 HC.out hk);clear hbs hk hb
   go_wp2_with (first
    | ((with_reducible show WL (some 10) (.alloc 26));refine al 26 (.agg aH.toArray) (aH.toArray) aU ?_))
   intro b10 w2 hbs hk hb;replace HL:=H' (HL.out.new (fun _ h=>h.elim) hbs hk hb);replace HPT:=H' (aL.keep0 HPT.out hk);replace HK:=H' (HK.out.keep0 hk);replace HC:=H' (cJ.keep0 HC.out hk);clear hbs hk hb;go_wp2_with fail;refine((by rw[←HM.out];exact jG w2 l hl:Calls _ _ _ w2 (aM w2 (.int .i64 (m:Int))))).mono ?_;rintro e w3 ⟨rfl,hk⟩;replace HL:=H' (HL.out.keeps hk);replace HPT:=H' (aL.keep0 HPT.out hk);replace HK:=H' (HK.out.keep0 hk);replace HC:=H' (cJ.keep0 HC.out hk);clear hk
   go_wp2_with (first
    | ((with_reducible show WL (some 27) (.load 26 _));refine wpList_load_mid rfl 26 (.tmp 6) rfl b6 0 rfl pc _ (aC (HL.out.b 1)) aI rfl (by rw[hpc];exact aE) ?_))
   refine((by rw[←HPC.out];exact cK w3 pv p HPT.out.pt:Calls _ _ _ w3 (bE w3 p.hole))).mono ?_;rintro e w4 ⟨rfl,hk⟩;replace HL:=H' (HL.out.keeps hk);replace HPT:=H' (aL.keep0 HPT.out hk);replace HK:=H' (HK.out.keep0 hk);replace HC:=H' (cJ.keep0 HC.out hk);clear hk;rw[HHE.out]
   go_wp2_with (first
    | ((with_reducible show WL (some 34) (.load 26 _));refine wpList_load_mid rfl 26 (.tmp 6) rfl b6 0 rfl pc _ (aC (HL.out.b 1)) aI rfl (by rw[hpc];exact aE) ?_)
    | ((with_reducible show WL _ (.store 26 (.tmp 10) (.tmp 34)));refine sta 26 (.tmp 10) (.tmp 34) b10 0 pc (HL.out.b 0) (by first|decide|(rw[hpc];exact Nat.le_refl _)|simp[hpc,aG]) (by rw[hpc];exact aE) HOP.out ?_))
   intro w5 hk hb;rw[aK _ _ (by first|rfl|simp[hpc,aG])] at hb;replace HL:=H' (HL.out.set 0 hk hb);replace HPT:=H' (aL.keep0 HPT0.out HL.out.keep);replace HK:=H' (HK0.out.keep0 HL.out.keep);replace HC:=H' (cJ.keep0 HC0.out HL.out.keep);clear hk hb;have HB10:=H' (HL.out.b 0);have HP:Hid (bA w c B pv (some t) S (.returned (.tuple #[.agg pc.toArray,.int .i64 0])) w5):=H' (by rw[←HPC.out,←HPE.out];exact bA.still (by rw[HPE.out];exact HPT.out) HK.out HL.out.keep);clear HL HK HC HPT;go_wp2_with fail;refine bodyPost_ret (aY rfl _ _ b10 _ _ _ _ rfl HB10.out aI rfl (by rw[List.size_toArray,hpc];exact aE)) rfl ?_;exact HP.out
 | false =>
   have he2:min g (m:Int)≤max f 0:=by rw[hh] at HE;have:=HE.out.resolve_left (by decide);rw[←HM.out];exact_mod_cast this
   have he3:decide (max f 0 ≥ min g (m:Int))=true:=decide_eq_true he2;rw[hh] at HHE;clear hh HE;have HPT0:=HPT;have HK0:=HK;have HC0:=HC;go_enter Tryz.func54,Tryz.ntmps54
   go_wp2_with (first
    | ((with_reducible show WL (some 6) (.box 26 _));refine bx 26 (.tmp 0) (pc.toArray) ?_))
   intro b6 w1 hbs hk hb;replace HL:=H' (HL.out.new (fun _ h=>h.elim) hbs hk hb);replace HPT:=H' (aL.keep0 HPT.out hk);replace HK:=H' (HK.out.keep0 hk);replace HC:=H' (cJ.keep0 HC.out hk);clear hbs hk hb
   go_wp2_with (first
    | ((with_reducible show WL (some 10) (.alloc 26));refine al 26 (.agg aH.toArray) (aH.toArray) aU ?_))
   intro b10 w2 hbs hk hb;replace HL:=H' (HL.out.new (fun _ h=>h.elim) hbs hk hb);replace HPT:=H' (aL.keep0 HPT.out hk);replace HK:=H' (HK.out.keep0 hk);replace HC:=H' (cJ.keep0 HC.out hk);clear hbs hk hb;go_wp2_with fail;refine((by rw[←HM.out];exact jG w2 l hl:Calls _ _ _ w2 (aM w2 (.int .i64 (m:Int))))).mono ?_;rintro e w3 ⟨rfl,hk⟩;replace HL:=H' (HL.out.keeps hk);replace HPT:=H' (aL.keep0 HPT.out hk);replace HK:=H' (HK.out.keep0 hk);replace HC:=H' (cJ.keep0 HC.out hk);clear hk
   go_wp2_with (first
    | ((with_reducible show WL (some 27) (.load 26 _));refine wpList_load_mid rfl 26 (.tmp 6) rfl b6 0 rfl pc _ (aC (HL.out.b 1)) aI rfl (by rw[hpc];exact aE) ?_))
   refine((by rw[←HPC.out];exact cK w3 pv p HPT.out.pt:Calls _ _ _ w3 (bE w3 p.hole))).mono ?_;rintro e w4 ⟨rfl,hk⟩;replace HL:=H' (HL.out.keeps hk);replace HPT:=H' (aL.keep0 HPT.out hk);replace HK:=H' (HK.out.keep0 hk);replace HC:=H' (cJ.keep0 HC.out hk);clear hk;rw[HHE.out]
   go_wp2_with (first
    | ((with_reducible show WL (some 34) (.load 26 _));refine wpList_load_mid rfl 26 (.tmp 6) rfl b6 0 rfl pc _ (aC (HL.out.b 1)) aI rfl (by rw[hpc];exact aE) ?_)
    | ((with_reducible show WL _ (.store 26 (.tmp 10) (.tmp 34)));refine sta 26 (.tmp 10) (.tmp 34) b10 0 pc (HL.out.b 0) (by first|decide|(rw[hpc];exact Nat.le_refl _)|simp[hpc,aG]) (by rw[hpc];exact aE) HOP.out ?_))
   intro w5 hk hb;rw[aK _ _ (by first|rfl|simp[hpc,aG])] at hb;replace HL:=H' (HL.out.set 0 hk hb);replace HPT:=H' (aL.keep0 HPT0.out HL.out.keep);replace HK:=H' (HK0.out.keep0 HL.out.keep);replace HC:=H' (cJ.keep0 HC0.out HL.out.keep);clear hk hb;have HB10:=H' (HL.out.b 0);have HP:Hid (bA w c B pv (some t) S (.returned (.tuple #[.agg pc.toArray,.int .i64 0])) w5):=H' (by rw[←HPC.out,←HPE.out];exact bA.still (by rw[HPE.out];exact HPT.out) HK.out HL.out.keep);clear HL HK HC HPT;go_wp2_with fail;refine bodyPost_ret (aY rfl _ _ b10 _ _ _ _ rfl HB10.out aI rfl (by rw[List.size_toArray,hpc];exact aE)) rfl ?_;exact HP.out
theorem AG{w:World}{c:Nat}{S:Kor}{B:Nat->Prop}(hK:KI w c S B){b4 b5:Nat}(pv:Value)(t:Tr)(l:Nat)(hl:l≤3)(f g:Int)(hf:-1000≤f/\f≤1000)(hg:-1000≤g/\g≤1000)(ht:Tr.Ok S l t)(hp:aL w B pv t.ptr)(hc:cJ w B b4 b5 c)(hh:t.isHole=false)(he:¬min g (4 ^ l)≤max f 0)(hw:min g (4 ^ l)-max f 0=4 ^ l):Calls Tryz.prog 54 #[.agg (aJ pv t.ptr).toArray,.int .i64 (l:Int),.int .i64 f,.int .i64 g,.pointer (some ⟨b4,0,none⟩),.pointer (some ⟨b5,0,none⟩)] w (bA w c B pv (some .hole) S):=by
 have HT:=H' ht;have HC:=H' hc;have HHE:=H' ht.hole_eq;rw[hh] at HHE;have HPT:=H' hp;have HK:=H' hK;obtain⟨p,hpe⟩:∃p,t.ptr=p:=⟨_,rfl⟩
 have HPE:=H' hpe;rw[hpe] at HPT hp HHE ⊢;obtain⟨pc,HPC,hpc,HOP⟩:=nmPt hp.pt;rw[HPC.out];have hzp:(aJ (.slice none 0 0) zPt).length=35:=rfl;have hzb:=iL;obtain⟨zp,hzpe⟩:∃l,aJ (.slice none 0 0) zPt=l:=⟨_,rfl⟩
 have HOZP:Hid (∀u∈zp,u.oneCell'=true):=H' (by rw[←hzpe];exact bY zPt);have HZPE:=H' hzpe;rw[hzpe] at hzp hzb;have HZB:=H' hzb;clear hzpe hzb;have HL:=H' (Loc.nil aB aB w);obtain⟨m,hm⟩:∃m:Nat,4 ^ l=m:=⟨_,rfl⟩
 have HM:=H' hm
 have hm64:m≤64/\1≤m:=by
  have:l=0\/l=1\/l=2\/l=3:=by omega
  rcases this with rfl|rfl|rfl|rfl<;>omega
 have hll:0≤(l:Int):=by omega
 have em:(4:Int) ^ l=(m:Int):=by rw[←hm];exact_mod_cast rfl
 rw[em] at he hw;have he3:decide (max f 0 ≥ min g (m:Int))=false:=decide_eq_false he;clear hp hpe hK ht hc hm em hh;have HPT0:=HPT;have HK0:=HK;have HC0:=HC;go_enter Tryz.func54,Tryz.ntmps54
 go_wp2_with (first
  | ((with_reducible show WL (some 6) (.box 26 _));refine bx 26 (.tmp 0) (pc.toArray) ?_))
 intro b6 w1 hbs hk hb;replace HL:=H' (HL.out.new (fun _ h=>h.elim) hbs hk hb);replace HPT:=H' (aL.keep0 HPT.out hk);replace HK:=H' (HK.out.keep0 hk);replace HC:=H' (cJ.keep0 HC.out hk);clear hbs hk hb
 go_wp2_with (first
  | ((with_reducible show WL (some 10) (.alloc 26));refine al 26 (.agg aH.toArray) (aH.toArray) aU ?_))
 intro b10 w2 hbs hk hb;replace HL:=H' (HL.out.new (fun _ h=>h.elim) hbs hk hb);replace HPT:=H' (aL.keep0 HPT.out hk);replace HK:=H' (HK.out.keep0 hk);replace HC:=H' (cJ.keep0 HC.out hk);clear hbs hk hb;go_wp2_with fail;refine((by rw[←HM.out];exact jG w2 l hl:Calls _ _ _ w2 (aM w2 (.int .i64 (m:Int))))).mono ?_;rintro e w3 ⟨rfl,hk⟩;replace HL:=H' (HL.out.keeps hk);replace HPT:=H' (aL.keep0 HPT.out hk);replace HK:=H' (HK.out.keep0 hk);replace HC:=H' (cJ.keep0 HC.out hk);clear hk
 go_wp2_with (first
  | ((with_reducible show WL (some 27) (.load 26 _));refine wpList_load_mid rfl 26 (.tmp 6) rfl b6 0 rfl pc _ (aC (HL.out.b 1)) aI rfl (by rw[hpc];exact aE) ?_))
 refine((by rw[←HPC.out];exact cK w3 pv p HPT.out.pt:Calls _ _ _ w3 (bE w3 p.hole))).mono ?_;rintro e w4 ⟨rfl,hk⟩;replace HL:=H' (HL.out.keeps hk);replace HPT:=H' (aL.keep0 HPT.out hk);replace HK:=H' (HK.out.keep0 hk);replace HC:=H' (cJ.keep0 HC.out hk);clear hk;rw[HHE.out];go_wp2_with fail;refine((by rw[←HM.out];exact jG w4 l hl:Calls _ _ _ w4 (aM w4 (.int .i64 (m:Int))))).mono ?_;rintro e w5 ⟨rfl,hk⟩;replace HL:=H' (HL.out.keeps hk);replace HPT:=H' (aL.keep0 HPT.out hk);replace HK:=H' (HK.out.keep0 hk);replace HC:=H' (cJ.keep0 HC.out hk);clear hk
 go_wp2_with (first
  | ((with_reducible show WL (some 42) (.build _ _));refine bld 26 #[] [] (.agg zp.toArray) HZB.out ?_)
  | ((with_reducible show WL _ (.store 26 (.tmp 10) (.tmp 42)));refine sta 26 (.tmp 10) (.tmp 42) b10 0 zp (HL.out.b 0) (by first|decide|(rw[hzp];exact Nat.le_refl _)|simp[hzp,aG]) (by rw[hzp];exact aE) HOZP.out ?_))
 intro w6 hk hb;rw[aK _ _ (by first|rfl|simp[hzp,aG])] at hb;replace HL:=H' (HL.out.set 0 hk hb);replace HPT:=H' (aL.keep0 HPT0.out HL.out.keep);replace HK:=H' (HK0.out.keep0 HL.out.keep);replace HC:=H' (cJ.keep0 HC0.out HL.out.keep);clear hk hb;have HB10:=H' (HL.out.b 0);have HP:Hid (bA w c B pv (some .hole) S (.returned (.tuple #[.agg zp.toArray,.int .i64 0])) w6):=H' (by rw[←HZPE.out];exact bA.hole HK.out HL.out.keep);clear HL HK HC HPT;go_wp2_with fail;refine bodyPost_ret (aY rfl _ _ b10 _ _ _ _ rfl HB10.out aI rfl (by rw[List.size_toArray,hzp];exact aE)) rfl ?_;exact HP.out
structure jW(w W0:World)(B:Nat->Prop)(c b4 b5 b6 b10 b12 l:Nat)(S:Kor)(t:Tr)(f g:Int)(pv:Value)(vs:Nat->Value)(k:Nat)(ch:Bool)(wr:World)(K:Nat->Tr)(T:Kor)(B':Nat->Prop)(vs':Nat->Value):Prop where
 eq:jE (cU l) (4 ^ l) S t f g k=(some (K,ch),T)
 ki:KI wr c T B'
 new:bQ wr B' vs' (fun i=>(K i).ptr)
 old:bQ wr B' vs (fun i=>(t.kid i).ptr)
 pt:aL wr B' pv t.ptr
 cl:cJ wr B' b4 b5 c
 h12:wr.heap[b12]?=some (.cells (cH ((l+1:Nat):Int) vs' (fun i=>(K i).ptr)).toArray 123 (0,0))
 h6:wr.heap[b6]?=some (.cells (aJ pv t.ptr).toArray 26 (0,0))
 h10:wr.heap[b10]?=some (.cells aH.toArray 26 (0,0))
 sub:∀i,B' i->B i\/W0.heap.size≤i
 clo:Cl w wr B B'
 off:∀q,q<4->∀i,(vs' q).ownBlock=some i->i≠b6/\i≠b10/\i≠b12
 keep:aA (fun i=>B i\/i=b12) W0 wr
theorem jW.keep0{w W0:World}{B:Nat->Prop}{c b4 b5 b6 b10 b12 l:Nat}{S:Kor}{t:Tr}{f g:Int}{pv:Value}{vs:Nat->Value}{k:Nat}{ch:Bool}{wr w':World}{K:Nat->Tr}{T:Kor}{B':Nat->Prop}{vs':Nat->Value}
 (h:jW w W0 B c b4 b5 b6 b10 b12 l S t f g pv vs k ch wr K T B' vs') (kp:aA aB wr w'):jW w W0 B c b4 b5 b6 b10 b12 l S t f g pv vs k ch w' K T B' vs':=
 ⟨h.eq,h.ki.keep0 kp,h.new.keep0 kp,h.old.keep0 kp,h.pt.keep0 kp,h.cl.keep0 kp,kp.blk h.h12 id,kp.blk h.h6 id,kp.blk h.h10 id,h.sub,h.clo.onT kp fun _ _=>id,h.off,h.keep.trans kp.any⟩
theorem jW.loc{w W0:World}{B:Nat->Prop}{c b4 b5 b6 b10 b12 l:Nat}{S:Kor}{t:Tr}{f g:Int}{pv:Value}{vs:Nat->Value}{k:Nat}{ch:Bool}{wr:World}{K:Nat->Tr}{T:Kor}{B':Nat->Prop}{vs':Nat->Value}
 (h:jW w W0 B c b4 b5 b6 b10 b12 l S t f g pv vs k ch wr K T B' vs') (kw:aA aB w W0) (hB:∀i,B i->i<w.heap.size) (g6:w.heap.size≤b6/\b6<W0.heap.size) (g10:w.heap.size≤b10/\b10<W0.heap.size) (g12:w.heap.size≤b12/\b12<W0.heap.size) (n1:b12≠b10) (n2:b12≠b6) (n3:b10≠b6) :
 Loc B B' w wr [(b12,(cH ((l+1:Nat):Int) vs' (fun i=>(K i).ptr)).toArray,123),(b10,aH.toArray,26),(b6,(aJ pv t.ptr).toArray,26)]:=by
 refine⟨kw.trans' h.keep (fun _ _ h=>h.elim) (fun i hi e=>e.elim id fun e=>by omega),fun x hx=>?_,?_,fun x hx=>?_,fun x hx hb=>?_⟩
 ·simp only[List.mem_cons,List.not_mem_nil,or_false] at hx
  rcases hx with rfl|rfl|rfl
  ·exact g12.1
  ·exact g10.1
  ·exact g6.1
 ·simp[n1,n2,n3]
 ·simp only[List.mem_cons,List.not_mem_nil,or_false] at hx
  rcases hx with rfl|rfl|rfl
  ·exact h.h12
  ·exact h.h10
  ·exact h.h6
 ·simp only[List.mem_cons,List.not_mem_nil,or_false] at hx
  have:=h.sub _ hb;rcases hx with rfl|rfl|rfl
  ·exact this.elim (fun e=>by have:=hB _ e;simp only at this;omega) (fun e=>by simp only at e;omega)
  ·exact this.elim (fun e=>by have:=hB _ e;simp only at this;omega) (fun e=>by simp only at e;omega)
  ·exact this.elim (fun e=>by have:=hB _ e;simp only at this;omega) (fun e=>by simp only at e;omega)
theorem jW.step{w W0:World}{B:Nat->Prop}{c b4 b5 b6 b10 b12 l:Nat}{S:Kor}{t:Tr}{f g:Int}{pv:Value}{vs:Nat->Value}{k:Nat}{ch:Bool}{wr:World}{K:Nat->Tr}{T:Kor}{B':Nat->Prop}{vs':Nat->Value}
 (h:jW w W0 B c b4 b5 b6 b10 b12 l S t f g pv vs k ch wr K T B' vs'){w8 w9:World}{u:Tr}{U:Kor}{B2:Nat->Prop}{v:Value}(e:cU l T (t.kid k) (f-k*4 ^ l) (g-k*4 ^ l)=(some u,U))
 (ki:KI w8 c U B2) (pt:aL w8 B2 v u.ptr) (sub:∀i,B2 i->B' i\/wr.heap.size≤i) (clo:Cl wr w8 B' B2) (kx:aA B' wr w8) (ks:aA (fun i=>i=b12) w8 w9)
 (h12:w9.heap[b12]?=some (.cells (cH ((l+1:Nat):Int) (fC vs' k v) (fC (fun i=>(K i).ptr) k u.ptr)).toArray 123 (0,0)))
 (hv:v=vs k\/eE wr v) (hvs:∀q,q<4->∀i,(vs q).ownBlock=some i->i≠b6/\i≠b10/\i≠b12) (hk:k<4) (hpv:∀i,pv.ownBlock=some i->i≠b12) (h4:b4≠b12/\b5≠b12) (hB:∀i,B i->i<w.heap.size)
 (g6:w.heap.size≤b6/\b6<W0.heap.size) (g10:w.heap.size≤b10/\b10<W0.heap.size) (g12:w.heap.size≤b12/\b12<W0.heap.size) (n1:b12≠b10) (n2:b12≠b6) :
 jW w W0 B c b4 b5 b6 b10 b12 l S t f g pv vs (k+1) (ch || !(t.kid k).ptr.eqB u.ptr) w9 (eK K k u) U B2 (fC vs' k v):=by
 have hsz:=h.keep.size;have hno:∀i,B' i->i≠b6/\i≠b10/\i≠b12:=fun i hi=>(h.sub i hi).elim (fun e=>by have:=hB i e;omega) fun e=>by omega
 have hno2:∀i,B2 i->i≠b6/\i≠b10/\i≠b12:=fun i hi=>(sub i hi).elim (hno i) fun e=>by omega
 have hvn:∀i,v.ownBlock=some i->i≠b6/\i≠b10/\i≠b12:=fun i hi=>by
  rcases hv with rfl|hv
  ·exact hvs k hk i hi
  ·have:=hv i hi;omega
 have k9:aA (fun i=>B' i\/i=b12) wr w9:=kx.trans' ks (fun _ _ h=>.inl h) (fun i _ e=>.inr e)
 refine⟨?_,ki.keepT ks fun i e hb=>(hno2 i hb).2.2 e,fun q hq=>?_,fun q hq=>(h.old q hq).grow (T:=fun i=>i=b12) k9 (fun i hi=>(hvs q hq i hi).2.2) sub,h.pt.grow (T:=fun i=>i=b12) k9 hpv sub,?_,by rw[←Cq];exact h12,
  k9.blk h.h6 (fun e=>e.elim (fun e=>(hno _ e).1 rfl) (fun e=>n2 e.symm)),k9.blk h.h10 (fun e=>e.elim (fun e=>(hno _ e).2.1 rfl) (fun e=>n1 e.symm)),fun i hi=>(sub i hi).elim (h.sub i) fun e=>.inr (by omega),
  (h.clo.trans clo).onT ks fun i hi=>(hno2 i hi).2.2,fun q hq i hi=>?_,h.keep.trans' k9 (fun _ _ h=>h) (fun i hi e=>e.elim (fun e=>(h.sub i e).imp id fun e=>by omega) .inr)⟩
 ·unfold jE
  rw[h.eq];simp only[];rw[e]
 ·show aL w9 B2 (fC vs' k v q) (eK K k u q).ptr
  by_cases e:q=k
  ·subst e;rw[lU,jO];exact pt.keepT ks fun i hi=>(hvn i hi).2.2
  ·rw[lV _ _ e,jP _ _ e];exact(h.new q hq).grow (T:=fun i=>i=b12) k9 (fun i hi=>(h.off q hq i hi).2.2) sub
 ·have o4:=h.cl.o4;have o5:=h.cl.o5
  have m:∀{i},Off wr B' i->¬(B2 i)/\i<w9.heap.size:=fun {i} o=>⟨fun e=>(sub i e).elim o.1 fun e=>by have:=o.2;omega,by have:=o.2;have:=k9.size;omega⟩
  exact⟨k9.blk h.cl.c (fun e=>e.elim o4.1 h4.1),h.cl.y.imp fun T h2=>k9.blk h2 (fun e=>e.elim o5.1 h4.2),m o4,m o5⟩
 ·by_cases e:q=k
  ·subst e;rw[lU] at hi;exact hvn i hi
  ·rw[lV _ _ e] at hi;exact h.off q hq i hi
theorem yA{cut:Kor->Tr->Int->Int->Option Tr×Kor}{W f g:Int}{S U:Kor}{t:Tr}:∀{i j:Nat},jE cut W S t f g j=(none,U)->j≤i->jE cut W S t f g i=(none,U)
 | 0,j,h,hj=>by
   obtain rfl:j=0:=by omega
   exact h
 | i+1,j,h,hj=>by
   by_cases e:j=i+1
   ·subst e;exact h
   ·unfold jE
    rw[yA (i:=i) h (by omega)]
theorem jW.fail{w W0:World}{B:Nat->Prop}{c b4 b5 b6 b10 b12 l:Nat}{S:Kor}{t:Tr}{f g:Int}{pv:Value}{vs:Nat->Value}{k:Nat}{ch:Bool}{wr:World}{K:Nat->Tr}{T:Kor}{B':Nat->Prop}{vs':Nat->Value}
 (h:jW w W0 B c b4 b5 b6 b10 b12 l S t f g pv vs k ch wr K T B' vs') (hk:k<4){U:Kor}(e:cU l T (t.kid k) (f-k*4 ^ l) (g-k*4 ^ l)=(none,U)):jE (cU l) (4 ^ l) S t f g 4=(none,U):=by
 refine yA (j:=k+1) ?_ (by omega);unfold jE;rw[h.eq];simp only[];rw[e]
theorem jW.kids{w W0:World}{B:Nat->Prop}{c b4 b5 b6 b10 b12 l:Nat}{S:Kor}{t:Tr}{f g:Int}{pv:Value}{vs:Nat->Value}{k:Nat}{ch:Bool}{wr:World}{K:Nat->Tr}{T:Kor}{B':Nat->Prop}{vs':Nat->Value}
 (h:jW w W0 B c b4 b5 b6 b10 b12 l S t f g pv vs k ch wr K T B' vs') (hl:l≤2) (hb:S.Bd) (ht:Tr.Ok S (l+1) t) (hk:k≤4):Beh S T/\∀i,i<4->Tr.Ok T l (K i):=by
 obtain⟨h1,h2⟩:=yU (C:=fun _ _ _=>True) hb ht (fun hb ht h=>tY (by omega) hb ht h) k hk h.eq;exact⟨h1,(h2 K ch rfl).1⟩
end
end Go.Proofs.YtjkbekifgobeaaaGreat
