import Derived.Test.YtiinnfhjpaeffaaGreatA1
import Derived.Test.YtiinnfhjpaeffaaGreatA29
namespace Go.Proofs.YtiinnfhjpaeffaaGreat
set_option maxHeartbeats 64000000
set_option maxRecDepth 100000
set_option linter.unusedVariables false
section
open Go.RowKit Go.Maps Go.ChangeMaps
variable{S:Kor}{t:Tr}{a c l g N0 b7 b11 b12 q6 q7 q11 q4 q12 k:Nat}{v pv vk:Value}{w w' w2 wr:World}{B T:Nat->Prop}{x:Int}{p:Pt}{ps qs:List (Value×Pt)}{vs:Nat->Value}
theorem Tr.Ok.may3(h:Tr.Ok S 3 t):t.ptr.may=true:=by
 cases t with
 | hole=>exact jM iQ
 | leaf p b=>exact h.elim
 | node p k=>exact h.1.may
theorem qR{P:Program}{ops:Array Oper}{S:World->Prop}{op:Oper}{a:Act}(d:Region.wanted op (yielded ops a.tmps)=true)(t:TypeId)(b:op.op=.build t #[])(h:∀w,(Instr.build t #[]).run P w=.ok v w):YieldsIf P ops S op v a:=
 .inl ⟨d,fun w _=>by
  unfold execOp;simp only[b,Sem.run_bind,Sem.run_pure];rw[show (#[]:Array (Nat×Operand)).map (fun p=>(p.1,a.eval p.2))=#[] by simp,h w];rfl⟩
theorem Ab:∀u∈aI,u.oneCell'=true:=cP zPt
theorem JH(hK:KI w c S B)(pv:Value)(t:Tr)(ht:Tr.Ok S 3 t)(hp:bC w B pv t.ptr)(n:Nat)(hn:n<64)(vv:Value)(bs:List UInt8)(hbl:bs.length=256)(hr:Rd w 1 vv 256 (bs.map vb))(hvb:∀i,vv.ownBlock=some i->¬B i/\i<w.heap.size)(he:t.blk 3 n=bs):Calls Tryz.prog 46 #[.pointer c,.agg (aE pv t.ptr).toArray,.int .i64 (n:Int),vv] w (cN w c B (.slice none 0 0) (some t) S):=by
 have HBS0:Hid ((aY n t 3).blk 0 n=bs):=O (by rw[←DJ ht];exact he);have HO3:=O (iZ (n:=n) ht 3 (by omega));have HT:=O ht;have HN:=O hn;have HBL:=O hbl;have HVB:=O hvb;have f:=O hp;have o:=O hK;have j:=O hr;have HBLT:=O (fun i (e:B i)=>hK.lt e);have A:=O (fun i (s:pv.ownBlock=some i)=>(hp.off i s).2.lt);have L:=O (by have:=(iK (Tr.Ok.may3 ht)).1;omega:t.ptr.addrs.length≤65536);obtain⟨va,vc,Y,-,-⟩:=hr.form;have HVE:=O Y;rw[Y] at j HVB ⊢;have hn0:¬((n:Int)<0):=by omega
 have hn1:¬((64:Int)≤(n:Int)):=by omega
 obtain⟨p,X⟩:∃p,t.ptr=p:=⟨_,rfl⟩
 have E:=O X;rw[X] at f hp L ⊢;obtain⟨pc,K,W,HOP⟩:=nmPt hp.pt;rw[K.out];have d:=lN w;clear he hp ht hK X hr hvb hbl Y;have Q:=f;have J:=o;have R:=j;go_in
 go_wp2_with ((with_reducible show WL _ _);refine bxL d 39 (.tmp 0) (#[.pointer c]) ?_)
 intro b4 w1 b d;replace f:=pK f b;replace o:=O (o.keep0 b);replace j:=O (j.keep b fun _ _=>id);clear b
 go_wp2_with ((with_reducible show WL _ _);refine bxL d 27 (.tmp 1) (pc.toArray) ?_)
 intro b5 w2 b d;replace f:=pK f b;replace o:=O (o.keep0 b);replace j:=O (j.keep b fun _ _=>id);clear b
 go_wp2_with ((with_reducible show WL _ _);refine alL d 27 (.agg aI.toArray) (aI.toArray) bK ?_)
 intro b8 w3 b d;replace f:=pK f b;replace o:=O (o.keep0 b);replace j:=O (j.keep b fun _ _=>id);clear b
 go_wp2_with ((with_reducible show WL _ _);refine alL d 49 (.int .i64 0) (#[.int .i64 0]) kF ?_)
 intro b9 w4 b d;replace f:=pK f b;replace o:=O (o.keep0 b);replace j:=O (j.keep b fun _ _=>id);clear b;have c1:w4.cell? ⟨b4,0,none⟩=some (.pointer c):=(aC (i:=0) (d.b 3) rfl)
 go_wp2_with ((with_reducible show WL _ _);refine wpList_load_mid rfl 27 (.tmp 5) rfl b5 0 rfl pc _ (aD (d.b 2)) aH rfl (szP9 W) ?_)
 clear c1;refine((by rw[←K.out];exact zT o.out pv p f.pt (by rw[←E.out];exact HT.root):Calls _ _ _ w4 (aN w4 (.int .i64 0)))).mono ?_;rintro e w5 ⟨rfl,b⟩;replace d:=kL d b;replace f:=pK f b;replace o:=O (o.keep0 b);replace j:=O (j.keep b fun _ _=>id);clear b
 go_wp2_with ((with_reducible show WL _ _);refine al 49 (.int .i64 0) (#[.int .i64 0]) kF ?_)
 intro y w6 F G z
 go_wp2_with ((with_reducible show WL _ _);refine sta 49 (.tmp 10) (.tmp 18) y 0 ([.int .i64 0]) z (by first|decide|(rw[List.size_toArray,rfl];exact Nat.le_refl _)|simp[]) (by kernel_rfl) (one9) ?_)
 intro w7 b r;replace r:w7.heap[y]?=some (.cells #[.int .i64 0] 49 (0,0)):=r;replace b:=tX G b (fun i s e=>by omega);replace d:=lW d F b r;replace f:=pK f b;replace o:=O (o.keep0 b);replace j:=O (j.keep b fun _ _=>id);clear F b r G z;have c1:w7.cell? ⟨y,0,none⟩=some (.int .i64 0):=(aC (i:=0) (d.b 0) rfl)
 have c2:w7.cell? ⟨b4,0,none⟩=some (.pointer c):=(aC (i:=0) (d.b 4) rfl)
 go_wp2_with ((with_reducible show WL _ _);refine wpList_load_mid rfl 27 (.tmp 5) rfl b5 0 rfl pc _ (aD (d.b 3)) aH rfl (szP9 W) ?_)
 clear c1 c2;have HWB:=O d.keep.size;have m:=O (d.lt 0);have HB9L:=O (d.lt 1);have HB8L:=O (d.lt 2);refine((by rw[←K.out,←E.out];exact DK o.out pv t HT.out (by rw[E.out];exact f.out) n HN.out false:Calls _ _ _ w7 (AS w7 B pv n t false))).mono ?_;rintro e w8 ⟨sv,pvf,k,pvs,vss,M,rfl,hk3,hM,hwr,Z,b⟩;obtain rfl:=hk3 rfl;obtain⟨sa,scap,hsv,hs3,-⟩:=(Rd.of_owns hwr.row).form;subst hsv;have q:=O hwr;have u:=O Z;have HM:=O hM;have HS3:=O hs3;obtain⟨qc,HQC,D,HOQ⟩:=nmPt Z.val.pt;rw[HQC.out];clear Z hM hwr hs3;replace d:=kL d b;replace f:=pK f b;replace o:=O (o.keep0 b);replace j:=O (j.keep b fun _ _=>id);clear b
 go_wp2_with ((with_reducible show WL _ _);refine al 27 (.agg aI.toArray) (aI.toArray) bK ?_)
 intro b12 w9 F G z
 go_wp2_with ((with_reducible show WL _ _);refine sta 27 (.tmp 12) (.tmp 43) b12 0 qc z (by first|decide|(rw[List.size_toArray,D];exact Nat.le_refl _)|simp[D,aG]) (szP9 D) HOQ.out ?_)
 intro wa b r;rw[aK _ _ (by first|rfl|(rw[List.size_toArray,D];rfl)|simp[D,aG])] at r;replace b:=tX G b (fun i s e=>by omega);replace d:=lW d F b r;replace f:=pK f b;replace o:=O (o.keep0 b);replace j:=O (j.keep b fun _ _=>id);replace q:=O (cK.keep0 q.out b);replace u:=O (eS.keep0 u.out b);clear F b r G z
 go_wp2_with ((with_reducible show WL _ _);refine sta 49 (.tmp 10) (.tmp 44) y 0 ([.int .i64 0]) (d.b 1) (by simp) (by kernel_rfl) (one9) ?_)
 intro wb b r;replace r:wb.heap[y]?=some (.cells #[.int .i64 0] 49 (0,0)):=r;replace d:=O (d.set 1 b r);replace f:=O (bC.keep0 Q.out d.keep);replace o:=O (J.keep0 d.keep);replace j:=O (R.keep d.keep fun _ _=>id);replace q:=O (cK.keepT q.out b (fun i s e=>by have:=aU q.row s;have:=m.out;omega) (fun i s e=>by have:=A.out i s;have:=m.out;omega) (fun i s e=>by have:=HM.out;have:=m.out;omega));replace u:=O (eS.keepT u.out b (fun i s e=>by have:=A.out i s;have:=m.out;omega) (fun i s e=>by have:=HM.out;have:=m.out;omega));clear b r;have U:=O (And.intro (d.lt 0) (d.lt 1));have c1:wb.cell? ⟨y,0,none⟩=some (.int .i64 0):=(aC (i:=0) (d.b 1) rfl)
 have c2:wb.cell? ⟨b4,0,none⟩=some (.pointer c):=(aC (i:=0) (d.b 5) rfl)
 go_wp2_with ((with_reducible show WL _ _);refine wpList_load_mid rfl 27 (.tmp 12) rfl b12 0 rfl qc _ (aD (d.b 0)) aH rfl (szP9 D) ?_)
 clear c1 c2;have HBW:=O d.keep.size;refine((by rw[←HQC.out];exact zV o.out pvf (aY n t 3) HO3.out u.val.pt n:Calls _ _ _ wb (fQ wb ((aY n t 3).blk 0 n)))).mono ?_;rintro e wc ⟨v1,rfl,ho,b⟩;rw[HBS0.out] at ho;obtain⟨wa,wc,rfl,-,-⟩:=(Rd.of_owns ho).form;have HO:=O ho;have HOG:=O (fun i (s:(Value.slice wa 256 wc).ownBlock=some i)=>aU ho s);clear ho;replace d:=kL d b;replace f:=pK f b;replace o:=O (o.keep0 b);replace j:=O (j.keep b fun _ _=>id);replace q:=O (cK.keep0 q.out b);replace u:=O (eS.keep0 u.out b);clear b
 go_wp2_with ((with_reducible show WL _ _);refine sta 49 (.tmp 10) (.tmp 54) y 0 ([.int .i64 0]) (d.b 1) (by simp) (by kernel_rfl) (one9) ?_)
 intro wd b r;replace r:wd.heap[y]?=some (.cells #[.int .i64 0] 49 (0,0)):=r;replace d:=O (d.set 1 b r);replace f:=O (bC.keep0 Q.out d.keep);replace o:=O (J.keep0 d.keep);replace j:=O (R.keep d.keep fun _ _=>id);replace q:=O (cK.keepT q.out b (fun i s e=>by have:=aU q.row s;have:=m.out;omega) (fun i s e=>by have:=A.out i s;have:=m.out;omega) (fun i s e=>by have:=HM.out;have:=m.out;omega));replace u:=O (eS.keepT u.out b (fun i s e=>by have:=A.out i s;have:=m.out;omega) (fun i s e=>by have:=HM.out;have:=m.out;omega));replace HO:=O (b.owns HO.out fun i s e=>by have:=HOG.out i s;have:=m.out;have:=HBW.out;have:=U.out;omega);clear b r;have c1:wd.cell? ⟨y,0,none⟩=some (.int .i64 0):=(aC (i:=0) (d.b 1) rfl)
 go_wp2_with fail;clear c1;refine(mL wd _ _ bs bs (by rw[HBL.out];exact Rd.of_owns HO.out) (by rw[HBL.out];exact j.out) true (decide_eq_true rfl)).mono ?_;rintro e we ⟨rfl,rfl⟩
 go_wp2_with ((with_reducible show WL _ _);refine wpList_load_mid rfl 27 (.tmp 5) rfl b5 0 rfl pc _ (aD (d.b 4)) aH rfl (szP9 W) ?_)
 have HLS:=O d.keep.size;have HLB:=O (And.intro (d.lt 2).2 (d.lt 3).2);refine((by rw[←K.out];exact DI (fun i e=>o.lt e) pv p f.pt L.out:Calls _ _ _ wd (vX wd B p))).mono ?_;rintro e wf ⟨ov,rfl,V,I,b⟩;have C:=O V;have P:=O I;have HON2:=O (I.from HLS.out);obtain⟨oc,N,H,HOOC⟩:=nmPt V.pt;rw[N.out];clear V I;replace d:=kL d b;replace f:=pK f b;replace o:=O (o.keep0 b);replace j:=O (j.keep b fun _ _=>id);replace q:=O (cK.keep0 q.out b);replace u:=O (eS.keep0 u.out b);replace HO:=O (b.owns HO.out fun _ _=>id);clear b;clear f j q u HO
 go_wp2_with ((with_reducible show WL _ _);refine sta 27 (.tmp 8) (.tmp 65) b8 0 oc (d.b 3) (by first|decide|(rw[H];exact Nat.le_refl _)|simp[H,aG]) (szP9 H) HOOC.out ?_)
 intro wg b r;rw[aK _ _ (by first|rfl|simp[H,aG])] at r;replace d:=O (d.set 3 b r);replace o:=O (J.keep0 d.keep);replace C:=O (bC.keepT C.out b (fun i s e=>by have:=P.out i s;have:=HLB.out;omega));clear b r
 go_wp2_with ((with_reducible show WL _ _);refine sta 49 (.tmp 9) (.const (.int .i64 0)) b9 0 ([.int .i64 0]) (d.b 2) (by simp) (by kernel_rfl) (one9) ?_)
 intro wh b r;replace r:wh.heap[b9]?=some (.cells #[.int .i64 0] 49 (0,0)):=r;replace d:=O (d.set 2 b r);replace o:=O (J.keep0 d.keep);replace C:=O (bC.keepT C.out b (fun i s e=>by have:=P.out i s;have:=HLB.out;omega));clear b r;have HB8:=O (d.b 3);have c9:wh.cell? ⟨b9,0,none⟩=some (.int .i64 0):=aC (i:=0) (d.b 2) rfl;have HP:Hid (cN w c B (.slice none 0 0) (some t) S (.returned (.tuple #[.agg oc.toArray,.int .i64 0])) wh):=O ⟨ov,B,by rw[←N.out,←E.out];rfl,by show bC _ B ov t.ptr;rw[E.out];exact C.out,o.out,fun _ h=>.inl h,Cl.refl _ _ _ d.keep,.inr HON2.out,d.keep.any⟩;clear d o C;go_wp2_with fail;refine bodyPost_ret (fD rfl _ _ b8 _ _ _ _ rfl HB8.out aH rfl (by rw[List.size_toArray,H];exact dM) ⟨b9,0,none⟩ (.int .i64 0) rfl (by go_simp)) rfl ?_;exact HP.out
theorem JI(hK:KI w c S B)(pv:Value)(t:Tr)(ht:Tr.Ok S 3 t)(hp:bC w B pv t.ptr)(n:Nat)(hn:n<64)(vv:Value)(bs:List UInt8)(hbl:bs.length=256)(hr:Rd w 1 vv 256 (bs.map vb))(hvb:∀i,vv.ownBlock=some i->¬B i/\i<w.heap.size)(he:¬t.blk 3 n=bs):Calls Tryz.prog 46 #[.pointer (some ⟨c,0,none⟩),.agg (aE pv t.ptr).toArray,.int .i64 (n:Int),vv] w (cN w c B (.slice none 0 0) (eI 3 S t n bs).1 (eI 3 S t n bs).2):=by
 have HBS0:Hid ((aY n t 3).blk 0 n=t.blk 3 n):=O (DJ ht).symm;have HO3:=O (iZ (n:=n) ht 3 (by omega));have HNE:=O he;have HBD:=O hK.bd;have HBL0:Hid ((t.blk 3 n).length=256):=O (Tr.Ok.blk_len ht n);have HT:=O ht;have HN:=O hn;have HBL:=O hbl;have HVB:=O hvb;have J:=O hp;have HK:=O hK;have L:=O hr;have HBLT:=O (fun i (e:B i)=>hK.lt e);have HOP0:=O (fun i (A:pv.ownBlock=some i)=>(hp.off i A).2.lt);have HADL:=O (by have:=(iK (Tr.Ok.may3 ht)).1;omega:t.ptr.addrs.length≤65536);obtain⟨va,vc,hve,-,-⟩:=hr.form;have HVE:=O hve;rw[hve] at L HVB ⊢;have hn0:¬((n:Int)<0):=by omega
 have hn1:¬((64:Int)≤(n:Int)):=by omega
 obtain⟨p,hpe⟩:∃p,t.ptr=p:=⟨_,rfl⟩
 have HPE:=O hpe;rw[hpe] at J hp HADL ⊢;obtain⟨pc,HPC,hpc,HOP⟩:=nmPt hp.pt;rw[HPC.out];have b:=lN w;clear he hp ht hK hpe hr hvb hbl hve;have HPT0:=J;have HK0:=HK;have HVV0:=L;refine callsIn_wide.1 (callsIn_of_wp_marks (F:=Fence.wide) (n:=3) Tryz.func46 rfl trivial (wpIn_wide.2 ?_));simp only[Tryz.ntmps46,List.size_toArray,List.length_cons,List.length_nil,Nat.reduceAdd,Nat.reduceSub,Array.replicate_succ,Array.replicate_zero,List.push_toArray,List.append_toArray,List.nil_append,List.cons_append]
 go_wp2_with ((with_reducible show WL _ _);refine bxL b 39 (.tmp 0) (#[.pointer (some ⟨c,0,none⟩)]) ?_)
 intro b4 w1 f b;replace J:=pK J f;replace HK:=O (HK.keep0 f);replace L:=O (L.keep f fun _ _=>id);clear f
 go_wp2_with ((with_reducible show WL _ _);refine bxL b 27 (.tmp 1) (pc.toArray) ?_)
 intro b5 w2 f b;replace J:=pK J f;replace HK:=O (HK.keep0 f);replace L:=O (L.keep f fun _ _=>id);clear f
 go_wp2_with ((with_reducible show WL _ _);refine alL b 27 (.agg aI.toArray) (aI.toArray) bK ?_)
 intro b8 w3 f b;replace J:=pK J f;replace HK:=O (HK.keep0 f);replace L:=O (L.keep f fun _ _=>id);clear f
 go_wp2_with ((with_reducible show WL _ _);refine alL b 49 (.int .i64 0) (#[.int .i64 0]) kF ?_)
 intro U w4 f b;replace J:=pK J f;replace HK:=O (HK.keep0 f);replace L:=O (L.keep f fun _ _=>id);clear f;have c1:w4.cell? ⟨b4,0,none⟩=some (.pointer (some ⟨c,0,none⟩)):=(aC (i:=0) (b.b 3) rfl)
 go_wp2_with ((with_reducible show WL _ _);refine wpList_load_mid rfl 27 (.tmp 5) rfl b5 0 rfl pc _ (aD (b.b 2)) aH rfl (szP9 hpc) ?_)
 clear c1;refine((by rw[←HPC.out];exact zT HK.out pv p J.pt (by rw[←HPE.out];exact HT.root):Calls _ _ _ w4 (aN w4 (.int .i64 0)))).mono ?_;rintro e w5 ⟨rfl,f⟩;replace b:=kL b f;replace J:=pK J f;replace HK:=O (HK.keep0 f);replace L:=O (L.keep f fun _ _=>id);clear f
 go_wp2_with ((with_reducible show WL _ _);refine al 49 (.int .i64 0) (#[.int .i64 0]) kF ?_)
 intro E w6 hbs hk0 hb0_
 go_wp2_with ((with_reducible show WL _ _);refine sta 49 (.tmp 10) (.tmp 18) E 0 ([.int .i64 0]) hb0_ (by first|decide|(rw[List.size_toArray,rfl];exact Nat.le_refl _)|simp[]) (by kernel_rfl) (one9) ?_)
 intro w7 f C;replace C:w7.heap[E]?=some (.cells #[.int .i64 0] 49 (0,0)):=C;replace f:=tX hk0 f (fun i A e=>by omega);replace b:=lW b hbs f C;replace J:=pK J f;replace HK:=O (HK.keep0 f);replace L:=O (L.keep f fun _ _=>id);clear hbs f C hk0 hb0_;have c1:w7.cell? ⟨E,0,none⟩=some (.int .i64 0):=(aC (i:=0) (b.b 0) rfl)
 have c2:w7.cell? ⟨b4,0,none⟩=some (.pointer (some ⟨c,0,none⟩)):=(aC (i:=0) (b.b 4) rfl)
 go_wp2_with ((with_reducible show WL _ _);refine wpList_load_mid rfl 27 (.tmp 5) rfl b5 0 rfl pc _ (aD (b.b 3)) aH rfl (szP9 hpc) ?_)
 clear c1 c2;have HWB:=O b.keep.size;have G:=O (b.lt 0);have HB9L:=O (b.lt 1);have HB8L:=O (b.lt 2);refine((by rw[←HPC.out,←HPE.out];exact DK HK.out pv t HT.out (by rw[HPE.out];exact J.out) n HN.out false:Calls _ _ _ w7 (AS w7 B pv n t false))).mono ?_;rintro e w8 ⟨sv,pvf,k,pvs,vss,M,rfl,hk3,hM,hwr,hwp,f⟩;obtain rfl:=hk3 rfl;obtain⟨sa,scap,hsv,hs3,-⟩:=(Rd.of_owns hwr.row).form;subst hsv;have I:=O hwr;have HWP:=O hwp;have HM:=O hM;have HS3:=O hs3;obtain⟨qc,HQC,hqc,HOQ⟩:=nmPt hwp.val.pt;rw[HQC.out];clear hwp hM hwr hs3;have HZ:=O (I.zone HM.out HOP0.out);replace b:=kL b f;replace J:=pK J f;replace HK:=O (HK.keep0 f);replace L:=O (L.keep f fun _ _=>id);clear f
 go_wp2_with ((with_reducible show WL _ _);refine al 27 (.agg aI.toArray) (aI.toArray) bK ?_)
 intro b12 w9 hbs hk0 hb0_
 go_wp2_with ((with_reducible show WL _ _);refine sta 27 (.tmp 12) (.tmp 43) b12 0 qc hb0_ (by first|decide|(rw[List.size_toArray,hqc];exact Nat.le_refl _)|simp[hqc,aG]) (szP9 hqc) HOQ.out ?_)
 intro wa f C;rw[aK _ _ (by first|rfl|(rw[List.size_toArray,hqc];rfl)|simp[hqc,aG])] at C;replace f:=tX hk0 f (fun i A e=>by omega);have HNb12:=O (show w8.heap.size≤b12 from Nat.le_of_eq hbs);replace b:=lW b hbs f C;replace J:=pK J f;replace HK:=O (HK.keep0 f);replace L:=O (L.keep f fun _ _=>id);replace I:=O (cK.keep0 I.out f);replace HWP:=O (eS.keep0 HWP.out f);clear hbs f C hk0 hb0_
 go_wp2_with ((with_reducible show WL _ _);refine sta 49 (.tmp 10) (.tmp 44) E 0 ([.int .i64 0]) (b.b 1) (by simp) (by kernel_rfl) (one9) ?_)
 intro wb f C;replace C:wb.heap[E]?=some (.cells #[.int .i64 0] 49 (0,0)):=C;replace b:=O (b.set 1 f C);replace J:=O (bC.keep0 HPT0.out b.keep);replace HK:=O (HK0.keep0 b.keep);replace L:=O (HVV0.keep b.keep fun _ _=>id);replace I:=O (cK.keepT I.out f (fun i A e=>by have:=aU I.row A;have:=G.out;omega) (fun i A e=>by have:=HOP0.out i A;have:=G.out;omega) (fun i A e=>by have:=HM.out;have:=G.out;omega));replace HWP:=O (eS.keepT HWP.out f (fun i A e=>by have:=HOP0.out i A;have:=G.out;omega) (fun i A e=>by have:=HM.out;have:=G.out;omega));clear f C;have HB10W:=O (And.intro (b.lt 0) (b.lt 1));have c1:wb.cell? ⟨E,0,none⟩=some (.int .i64 0):=(aC (i:=0) (b.b 1) rfl)
 have c2:wb.cell? ⟨b4,0,none⟩=some (.pointer (some ⟨c,0,none⟩)):=(aC (i:=0) (b.b 5) rfl)
 go_wp2_with ((with_reducible show WL _ _);refine wpList_load_mid rfl 27 (.tmp 12) rfl b12 0 rfl qc _ (aD (b.b 0)) aH rfl (szP9 hqc) ?_)
 clear c1 c2;have HBW:=O b.keep.size;refine((by rw[←HQC.out];exact zV HK.out pvf (aY n t 3) HO3.out HWP.val.pt n:Calls _ _ _ wb (fQ wb ((aY n t 3).blk 0 n)))).mono ?_;rintro e wc ⟨v1,rfl,ho,f⟩;rw[HBS0.out] at ho;obtain⟨wa,wc,rfl,-,-⟩:=(Rd.of_owns ho).form;have HO:=O ho;have HOG:=O (fun i (A:(Value.slice wa 256 wc).ownBlock=some i)=>aU ho A);clear ho;replace b:=kL b f;replace J:=pK J f;replace HK:=O (HK.keep0 f);replace L:=O (L.keep f fun _ _=>id);replace I:=O (cK.keep0 I.out f);replace HWP:=O (eS.keep0 HWP.out f);clear f
 go_wp2_with ((with_reducible show WL _ _);refine sta 49 (.tmp 10) (.tmp 54) E 0 ([.int .i64 0]) (b.b 1) (by simp) (by kernel_rfl) (one9) ?_)
 intro wd f C;replace C:wd.heap[E]?=some (.cells #[.int .i64 0] 49 (0,0)):=C;replace b:=O (b.set 1 f C);replace J:=O (bC.keep0 HPT0.out b.keep);replace HK:=O (HK0.keep0 b.keep);replace L:=O (HVV0.keep b.keep fun _ _=>id);replace I:=O (cK.keepT I.out f (fun i A e=>by have:=aU I.row A;have:=G.out;omega) (fun i A e=>by have:=HOP0.out i A;have:=G.out;omega) (fun i A e=>by have:=HM.out;have:=G.out;omega));replace HWP:=O (eS.keepT HWP.out f (fun i A e=>by have:=HOP0.out i A;have:=G.out;omega) (fun i A e=>by have:=HM.out;have:=G.out;omega));replace HO:=O (f.owns HO.out fun i A e=>by have:=HOG.out i A;have:=G.out;have:=HBW.out;have:=HB10W.out;omega);clear f C;have c1:wd.cell? ⟨E,0,none⟩=some (.int .i64 0):=(aC (i:=0) (b.b 1) rfl)
 go_wp2_with fail;clear c1;refine(mL wd _ _ (t.blk 3 n) bs (by rw[HBL0.out];exact Rd.of_owns HO.out) (by rw[HBL.out];exact L.out) false (decide_eq_false HNE.out)).mono ?_;rintro e we ⟨rfl,rfl⟩;have c1:wd.cell? ⟨b4,0,none⟩=some (.pointer (some ⟨c,0,none⟩)):=(aC (i:=0) (b.b 5) rfl)
 go_wp2_with fail;clear c1;have HLW:=O b.keep;have HLK:=O (And.intro (b.lt 0) (And.intro (b.lt 1) (And.intro (b.lt 2) (And.intro (b.lt 3) (b.lt 5)))));refine((Ce HK.out (.slice va 256 vc) bs HBL.out L.out (fun i A=>(HVB.out i A).1):Calls _ _ _ wd (cN wd c B (.slice none 0 0) (S.leaf bs).1 (S.leaf bs).2))).mono ?_;rintro e wf ⟨v0,B0,hm1,X,hki,hB0,hcl,hnw,f⟩;obtain⟨er0,her0⟩:∃x,lE (S.leaf bs).1=x:=⟨_,rfl⟩
 rw[her0] at hm1;have HER0:=O her0;subst hm1;replace hnw:eR wd v0:=hnw.elim (fun e=>by rw[e];exact eR.nil _) id;have HV0:=O X;have m:=O hki;have HB0:=O hB0;have HCL:=O hcl;have HNW:=O hnw;have HKL:=O f;obtain⟨lc,HLCE,hlc,HOLC⟩:=nmPt X.pt;rw[HLCE.out];clear X hki hcl hnw her0;replace I:=O (cK.toB I.out f hB0 (fun i A e=>by have:=aU I.row A;have:=HBLT.out i e;have:=HWB.out;omega));replace b:=O (((b.wide HBLT.out).turn f (fun _ _ h=>h)) (fun i A C=>(hB0 i C).elim id fun e=>by omega));clear f hB0 HO HWP L HK J
 go_wp2_with ((with_reducible show WL _ _);refine sta 27 (.tmp 12) (.tmp 70) b12 0 lc (b.b 0) (by first|decide|(rw[hlc];exact Nat.le_refl _)|simp[hlc,hqc]) (szP9 hlc) HOLC.out ?_)
 intro wg f C;rw[aK _ _ (by first|rfl|simp[hlc,hqc])] at C;replace b:=O (b.set 0 f C);replace m:=O (KI.keepT m.out f (fun i e j=>by rw[e] at j;first|exact (b.aq 0) j|exact (b.aq 1) j));replace HV0:=O (bC.keepT HV0.out f (fun i A e=>by have:=HNW.out i A;have:=HLK.out;omega));replace I:=O (cK.keepZ I.out HZ.out f (fun i e=>by have:=HNb12.out;have:=G.out;omega));replace HCL:=O (Cl.onT HCL.out f fun i j e=>by rw[e] at j;first|exact (b.aq 0) j|exact (b.aq 1) j);clear f C
 go_wp2_with ((with_reducible show WL _ _);refine sta 49 (.tmp 10) (.tmp 71) E 0 ([.int .i64 er0]) (b.b 1) (by simp) (by kernel_rfl) (one9) ?_)
 intro wh f C;replace C:wh.heap[E]?=some (.cells #[.int .i64 er0] 49 (0,0)):=C;replace b:=O (b.set 1 f C);replace m:=O (KI.keepT m.out f (fun i e j=>by rw[e] at j;first|exact (b.aq 0) j|exact (b.aq 1) j));replace HV0:=O (bC.keepT HV0.out f (fun i A e=>by have:=HNW.out i A;have:=HLK.out;omega));replace I:=O (cK.keepZ I.out HZ.out f (fun i e=>by have:=HNb12.out;have:=G.out;omega));replace HCL:=O (Cl.onT HCL.out f fun i j e=>by rw[e] at j;first|exact (b.aq 0) j|exact (b.aq 1) j);clear f C;go_wp2_with fail;have HB0L:=O (fun i (e:B0 i)=>m.lt e);have HLH:=O (And.intro (b.lt 0).2 (And.intro (b.lt 1).2 (And.intro (b.lt 2).2 (b.lt 3).2)));refine((Lp (.slice sa 3 scap) wh ⟨_,_,_,rfl⟩)).mono ?_;rintro e wi ⟨B1,rfl,hb1,hB1,f⟩;have HB1:=O hb1;have HB1S:=O hB1;clear hb1 hB1;replace b:=kL b f;replace m:=O (m.keep0 f);replace HV0:=pK HV0 f;replace I:=O (cK.keep0 I.out f);replace HCL:=O (Cl.onT HCL.out f fun _ _=>id);clear f;go_wp2_with fail;obtain⟨g,cap,cur,hsve,hcap,hgc,hstp⟩:=JA I.out (by omega);cases hsve
 have hgz:=(HZ.sv g rfl).2;have hgw:=aU I.row (k:=g) rfl;have hB1l:=lt_of_block HB1.out;have hgl:=lt_of_block hgc;have hwb:=HWB.out;have hn12:=HNb12.out;have hlk:=HLK.out;have hb10:=G.out;have hb9:=HB9L.out;have hb8:=HB8L.out;have hlh:=HLH.out;have hb1s:=HB1S.out;have hlw:=HLW.size;have HNE2:=O (fun q (j:q<3) p (hp:p<4) i (A:(vss q p).ownBlock=some i)=>(by have:=HZ.vss q j p hp i A;omega:i≠E/\i≠b12))
 have HBK:=GU (Res:=fun i=>B0 i\/i=b8\/i=U\/i=E\/i=b12\/wi.heap.size≤i) (3-1) (fun x=>eW n t x (pvs x) (vss x)) (fun x hx=>Fp I.out hx) hcap HB1.out hstp hgc
  (by rintro (e|e|e|e|e|e)<;>first|omega|(have:=HB0L.out _ e;omega)) (by rintro (e|e|e|e|e|e)<;>first|omega|(rcases HB0.out _ e with e|e<;>first|omega|(have:=HBLT.out _ e;omega)))
 have hI0:tC wi b8 U E b12 c S B0 n t bs 0 wi:=⟨3,v0,B0,rfl,(by have h:=b.b 0;rw[←HLCE.out] at h;exact h),(by have h:=b.b 1;rw[←HER0.out] at h;exact h),HV0.out,fun i A=>by (have:=HNW.out i A;omega),m.out,fun i h=>.inl h,fun i h=>(Classical.em (IsC wi i)).imp id fun h2=>⟨m.lt h,h,h2⟩,aA.refl _ _⟩
 have HBB:Hid (∀i,B0 i->B i\/w.heap.size≤i):=O fun i h=>(HB0.out i h).imp id fun e=>by omega
 replace b:Hid (Loc B B0 w wi [(b12,lc.toArray,27),(E,#[.int .i64 er0],49),(U,#[.int .i64 0],49),(b8,aI.toArray,27),(b5,pc.toArray,27),(b4,#[.pointer (some ⟨c,0,none⟩)],39)]):=b;have HG:=O (And.intro HB1S.out (And.intro (lt_of_block (b.b 0)) (And.intro (lt_of_block (b.b 1)) (And.intro (lt_of_block (b.b 2)) (lt_of_block (b.b 3))))));have HWS:=O b.keep.size;have HWR3:=O (fun q (j:q<3)=>(I.vss q j).1);have HST3:=O (fun q (j:q<3)=>(I.pvs q j).1.pt);clear hgz hgw hB1l hgl hwb hn12 hlk hb10 hb9 hb8 hlh hb1s hlw hcap hgc hstp HK0 HPT0 HVV0 m HV0 I HBW HOG HZ;refine wpIn_wide (n:=3).1 ?_;refine AI rfl (by omega) (gf:=126) rfl trivial (enters_of Tryz.func126 (by kernel_rfl) rfl) (N:=3) (encs:=Cu (fun x=>eW n t x (pvs x) (vss x))) HBK (fun _=>rfl) (tC wi b8 U E b12 c S B0 n t bs) (DM wi b8 U E b12 c S B0 n t bs) (fun W k=>hI0.keep0 k) (fun k W l o hl h ho hc o'=>h.put hl ho hc o') (fun W l o hl h ho hc o'=>h.put hl ho hc o') ?round ?done ?stop
 case round =>
  rintro l k W1 hk3 hI hl;obtain⟨y',v,B',hky,h12,h10,X,hvo,hki,hB',hBI,hkp⟩:=hI;obtain⟨y,rfl⟩:∃y,y'=y+1:=⟨y'-1,by omega⟩
  have hky2:k+y=2:=by omega
  have hy3:y<3:=by omega
  have H:Hid (cI W1 B' (vss y) (fun i=>((aY n t y).kid i).ptr)):=O fun q j=>(HWR3.out y hy3 q j).grow (T:=fun i=>i=E\/i=b12) hkp (fun i A e=>by have:=HNE2.out y hy3 q j i A;omega) hB'
  have HPY:=HST3.out y hy3;have HA35:=O (aJ (v:=pvs y) (HST3.out y hy3).sum);have HOA:=O (aT (HST3.out y hy3));unfold Cu;dsimp only;rw[show 2-k=y by omega];obtain⟨⟨r,T⟩,hrT⟩:∃q,eI k S (aY n t (y+1)) n bs=q:=⟨_,rfl⟩
  rw[hrT] at h12 h10 X hki;dsimp only at h12 h10 X hki;have HRT:=O hrT;have huc:=aJ (v:=v) X.pt.sum;have HOU0:=aT X.pt;obtain⟨uc,huce⟩:∃x,aE v (gJ r)=x:=⟨_,rfl⟩
  have HOU:Hid (∀u∈uc,u.oneCell'=true):=O (by rw[←huce];exact HOU0);have HUC:=O huce;rw[huce] at huc h12;have HL1:=O (Loc.round b.out h12 h10 hB' HBB.out hkp);have m:=O hki;have K:=O X;have z:=O hBI;have HB2:=O hB';have s:=O hkp;have HSW:=O (And.intro hkp.size hl);have HVL:=O (fun i A=>(X.off i A).2.lt);have HNL:=O (fun q (j:q<4) i A=>((H.out q j).off i A).2.lt);have HX:=O (aA.refl aB W1);obtain⟨R,hdg⟩:∃d,n / 4 ^ (2-y) % 4=d:=⟨_,rfl⟩
  have hd4:R<4:=by rw[←hdg];exact Nat.mod_lt _ (by decide)
  have HDG:=O hdg
  have hsc:(eW n t y (pvs y) (vss y)).length=177:=by
   unfold eW;rw[List.length_append,List.length_append,HA35.out,eE _ _ (HWR3.out y hy3).nv];rfl
  have HOS0:∀u∈eW n t y (pvs y) (vss y),u.oneCell'=true:=by
   intro u hu;rcases List.mem_append.1 hu with h|h
   ·exact HOA.out u h
   ·rcases List.mem_append.1 h with h|h
    ·exact dQ _ (HWR3.out y hy3).nv u h
    ·rw[List.mem_singleton] at h;subst h;rfl
  have hS0:eW n t y (pvs y) (vss y)=aE (pvs y) (aY n t y).ptr++(cH ((k+1:Nat):Int) (vss y) (fun i=>((aY n t y).kid i).ptr)++[.int .i64 (R:Int)]):=by
   unfold eW;rw[hdg,show 3-y=k+1 by omega]
  obtain⟨sc,hsce⟩:∃x,eW n t y (pvs y) (vss y)=x:=⟨_,rfl⟩
  rw[hsce] at hsc HOS0 hS0 ⊢;have HOS:=O HOS0;have HSC:=O hS0;have hd0:(0:Int)≤(R:Int):=by omega
  have hd1:(R:Int)<4:=by omega
  rw[Bv];simp only[List.setIfInBounds_toArray,List.set_cons_zero,List.set_cons_succ];replace b:=HL1;clear X hki hBI hB' hkp h10 h12 hI0 HBK HWR3 HST3 HOS0 hS0 hsce hdg huce HOU0 HPY HL1 hrT;rcases r with _|u
  ·replace b:Hid (Loc B B' w W1 [(b12,uc.toArray,27),(E,#[.int .i64 15],49),(U,#[.int .i64 0],49),(b8,aI.toArray,27),(b5,pc.toArray,27),(b4,#[.pointer (some ⟨c,0,none⟩)],39)]):=b
   refine cU (by kernel_rfl) (fun ⟨_,_,h⟩=>h) ?_
   go_wp2_with ((with_reducible show WL _ _);refine al 166 (.agg iV.toArray) (iV.toArray) zU ?_)
   intro b15 wk hbs hk0 hb0_
   go_wp2_with ((with_reducible show WL _ _);refine sta 166 (.tmp 15) (.tmp 75) b15 0 sc hb0_ (by first|decide|(rw[List.size_toArray,hsc];exact Nat.le_refl _)|simp[hsc,gT]) (by rw[hsc];exact rV) HOS.out ?_)
   intro wl f C;rw[aK _ _ (by first|rfl|(rw[List.size_toArray,hsc];rfl)|simp[hsc,gT])] at C;replace f:=tX hk0 f (fun i A e=>by omega);have Y:=O (show W1.heap.size≤b15 from Nat.le_of_eq hbs);replace b:=O (b.new (fun k h=>m.lt h) hbs f C);replace m:=O (m.keep0 f);replace K:=pK K f;replace H:=O (cI.keep0 H.out f);replace z:=O (fun i h=>(z.out i h).imp (fun c=>c.keep f id) id);replace s:=O (s.trans (aA.any f));replace HX:=O (HX.trans f);clear hbs f C hk0 hb0_;go_wp2_with fail;refine⟨KpN.of HX.out (fun _ _ h=>h.elim),KpC.of HX.out (fun _ h=>h.elim),fun o o' hoo hoc=>?_⟩;have kd:=aA.of_grown (grownBy_putObj' wl l o');have no:=fun {i:Nat}(h:IsC wl i)=>nJ hoo hoc h
   have nB:∀i,some l=some i->¬B' i:=fun i e C=>(z.out i C).elim (fun h=>no h e) fun h=>by have:=h.1;injection e with e;have:=HSW.2;omega
   replace b:=O (b.put (o':=o') hoo hoc (by have:=HSW.2;have:=HWS.out;omega));replace m:=O (m.keepT kd nB);replace K:=O (K.keepT kd fun i A=>no (K.off i A).2);replace H:=O (H.keepT kd fun q j i A=>no ((H.out q j).off i A).2);replace z:Hid (∀i,B' i->IsC (wl.putObj l o') i\/i<wi.heap.size/\B0 i/\¬IsC wi i):=O fun i h=>(z.out i h).imp (fun c=>c.keep kd (no c)) id
   replace s:=O (s.trans' kd (fun _ _ h=>h) (fun i A e=>by injection e with e;have:=HSW.2;omega));clear HX kd no nB;generalize World.putObj wl l o'=V at b m K H z s ⊢;have HLV:=b;have HBV:=z;have HX:Hid (aA (fun i=>B' i\/i=b8\/i=U\/i=E\/i=b12\/i=b15) V V):=O (aA.refl _ _);clear hoo hoc;refine wpIn_block ?_
   repeat refine wpIn_seq ?_
   refine cU (by kernel_rfl) (fun ⟨_,_,h⟩=>h) ?_;have c1:V.cell? ⟨E,0,none⟩=some (.int .i64 15):=(aC (i:=0) (b.b 2) rfl)
   go_wp2_with fail;clear c1;refine wpIn_cond_true rfl ?_;refine wpIn_seq ?_;replace s:Hid (aA (fun i=>B0 i\/i=b8\/i=U\/i=E\/i=b12) wi V):=O ((aA.refl aB wi).trans' s.out (fun _ _ h=>h.elim) (fun i A e=>e.elim .inl fun e=>e.elim (fun e=>.inr (.inr (.inr (.inl e)))) fun e=>.inr (.inr (.inr (.inr e)))));have HFIN:Hid (∀Wf,Wf.heap[b8]?=some (.cells aI.toArray GW (0,0))->Wf.heap[U]?=some (.cells #[.int .i64 15] GV (0,0))->KI Wf c T B'->(∀i,B' i->IsC Wf i\/i<wi.heap.size/\B0 i/\¬IsC wi i)->aA (fun i=>B0 i\/i=b8\/i=U\/i=E\/i=b12) wi Wf->DM wi b8 U E b12 c S B0 n t bs Wf):=O fun Wf a1 a2 a3 a4 a5=>⟨T,B',BF (y:=y+1) (by omega) HRT.out,a1,a2,a3,HB2.out,a4,a5⟩
   go_wp2_with fail;obtain⟨S,hS0⟩:∃S:World->Prop,S=fun w'=>aA (fun k=>k=b8\/k=U) V.drew w':=⟨_,rfl⟩
   have Z:=O (show ∀w',S w'->aA (fun k=>k=b8\/k=U) V.drew w' from fun w' h=>by rw[hS0] at h;exact h);have HSI:=O (show ∀w',aA (fun k=>k=b8\/k=U) V.drew w'->S w' from fun w' h=>by rw[hS0];exact h);have hS:S V.drew:=by rw[hS0];exact aA.refl _ _
   have P:=(aA.refl aB V).drew;clear hS0;refine lO (by kernel_rfl) (by kernel_rfl) (fun ⟨_,_,h⟩=>h) (wpAny_of_held (S:=S) _ _ _ _ ?_);change wpAnyH _ _ _ _ _ _ _ _ V.drew;generalize V.drew=wm at Z HSI hS P ⊢;replace b:=kL b P;replace m:=O (m.keep0 P);replace z:=O (fun i h=>(z.out i h).imp (fun c=>c.keep P id) id);replace s:=O (s.trans (aA.any P));replace HX:=O (HX.trans (aA.any P));clear P;have HLs:=b;have HKIs:=m;have HBIs:=z;have HKPs:=s;have HXs:=HX;refine tnd 0 (.agg aI.toArray) rfl (qR (by rfl) 27 rfl pZ) hS ?_;refine tnd 1 (.int .i64 15) rfl (.inl ⟨by rfl,fun w' hw'=>by have c:World.cell? w' ⟨E,0,none⟩=some (.int .i64 15):=aC (i:=0) ((Z.out w' hw').blk (HLs.b 2) (fun e=>by rcases e with e|e<;>first|exact bJ (i:=4) HLs.nd rfl 2 (by decide) rfl e|exact bJ (i:=3) HLs.nd rfl 2 (by decide) rfl e)) rfl;go_simp⟩) hS ?_;refine wA9 2 ?_;refine sta 27 (.tmp 8) (.tmp 78) b8 0 aI (b.b 4) (by first|decide|(rw[aG];exact Nat.le_refl _)|simp[aG,aG]) (szP9 aG) Ab ?_;intro wn f C;rw[aK _ _ (by first|rfl|simp[aG,aG])] at C;have hS1:=HSI.out _ ((Z.out _ hS).trans' f (fun _ _ h=>h) (fun i A e=>(.inl e)));clear hS;replace b:=O (b.set 4 f C);replace m:=O (KI.keepT m.out f (fun i e j=>by rw[e] at j;first|exact (b.aq 0) j|exact (b.aq 1) j|exact (b.aq 2) j|exact (b.aq 3) j|exact (b.aq 4) j|exact (b.aq 5) j|exact (b.aq 6) j));replace z:=O (fun i h=>(z.out i h).imp (fun cc=>cc.keep f (fun e=>by rw[e] at h;first|exact (b.aq 0) h|exact (b.aq 1) h|exact (b.aq 2) h|exact (b.aq 3) h|exact (b.aq 4) h|exact (b.aq 5) h|exact (b.aq 6) h)) id);replace s:=O (s.trans' f (fun _ _ h=>h) (fun i A e=>by first|exact .inr (.inl e)|exact .inr (.inr (.inl e))|exact .inr (.inr (.inr (.inl e)))|exact .inr (.inr (.inr (.inr e)))|(have:=Y.out;have:=HSW.out;omega)));replace HX:=O (HX.trans' f (fun _ _ h=>h) (fun i _ e=>by first|exact .inr (.inl e)|exact .inr (.inr (.inl e))|exact .inr (.inr (.inr (.inl e)))|exact .inr (.inr (.inr (.inr (.inl e))))|exact .inr (.inr (.inr (.inr (.inr e))))));clear f C;refine wpList_nil ?_;refine⟨hS1,?_⟩;refine wA9 3 ?_;refine sta 49 (.tmp 9) (.tmp 79) U 0 ([.int .i64 15]) (b.b 3) (by simp) (by kernel_rfl) (one9) ?_;intro wo f C;replace C:wo.heap[U]?=some (.cells #[.int .i64 15] 49 (0,0)):=C;have hS2:=HSI.out _ ((Z.out _ hS1).trans' f (fun _ _ h=>h) (fun i A e=>(.inr (e))));clear hS1;replace b:=O (b.set 3 f C);replace m:=O (KI.keepT m.out f (fun i e j=>by rw[e] at j;first|exact (b.aq 0) j|exact (b.aq 1) j|exact (b.aq 2) j|exact (b.aq 3) j|exact (b.aq 4) j|exact (b.aq 5) j|exact (b.aq 6) j));replace z:=O (fun i h=>(z.out i h).imp (fun cc=>cc.keep f (fun e=>by rw[e] at h;first|exact (b.aq 0) h|exact (b.aq 1) h|exact (b.aq 2) h|exact (b.aq 3) h|exact (b.aq 4) h|exact (b.aq 5) h|exact (b.aq 6) h)) id);replace s:=O (s.trans' f (fun _ _ h=>h) (fun i A e=>by first|exact .inr (.inl e)|exact .inr (.inr (.inl e))|exact .inr (.inr (.inr (.inl e)))|exact .inr (.inr (.inr (.inr e)))|(have:=Y.out;have:=HSW.out;omega)));replace HX:=O (HX.trans' f (fun _ _ h=>h) (fun i _ e=>by first|exact .inr (.inl e)|exact .inr (.inr (.inl e))|exact .inr (.inr (.inr (.inl e)))|exact .inr (.inr (.inr (.inr (.inl e))))|exact .inr (.inr (.inr (.inr (.inr e))))));clear f C;refine wpList_nil ?_;refine⟨hS2,?_⟩;refine wpAnyH_done (by kernel_rfl) ?_ _;clear hS2 Z HSI HLs HKIs HBIs HKPs HXs;refine wpIn_ret ?_;have HSF:=HFIN.out _ (b.b 4) (b.b 3) m.out z.out s.out
   exact⟨KpN.of HX.out fun i o e hn ho=>by
    rcases e with e|e|e|e|e|e
    ·rcases HBV.out i e with⟨cs,t,h⟩|h
     ·rw[h] at ho;cases ho;rfl
     ·omega
    ·have:=HG.out;omega
    ·have:=HG.out;omega
    ·have:=HG.out;omega
    ·have:=HG.out;omega
    ·subst e;rw[HLV.b 0] at ho;cases ho;rfl,HSF⟩
  ·replace b:Hid (Loc B B' w W1 [(b12,uc.toArray,27),(E,#[.int .i64 0],49),(U,#[.int .i64 0],49),(b8,aI.toArray,27),(b5,pc.toArray,27),(b4,#[.pointer (some ⟨c,0,none⟩)],39)]):=b
   refine cU (by kernel_rfl) (fun ⟨_,_,h⟩=>h) ?_
   go_wp2_with ((with_reducible show WL _ _);refine al 166 (.agg iV.toArray) (iV.toArray) zU ?_)
   intro b15 wk hbs hk0 hb0_
   go_wp2_with ((with_reducible show WL _ _);refine sta 166 (.tmp 15) (.tmp 75) b15 0 sc hb0_ (by first|decide|(rw[List.size_toArray,hsc];exact Nat.le_refl _)|simp[hsc,gT]) (by rw[hsc];exact rV) HOS.out ?_)
   intro wl f C;rw[aK _ _ (by first|rfl|(rw[List.size_toArray,hsc];rfl)|simp[hsc,gT])] at C;replace f:=tX hk0 f (fun i A e=>by omega);have Y:=O (show W1.heap.size≤b15 from Nat.le_of_eq hbs);replace b:=O (b.new (fun k h=>m.lt h) hbs f C);replace m:=O (m.keep0 f);replace K:=pK K f;replace H:=O (cI.keep0 H.out f);replace z:=O (fun i h=>(z.out i h).imp (fun c=>c.keep f id) id);replace s:=O (s.trans (aA.any f));replace HX:=O (HX.trans f);clear hbs f C hk0 hb0_;go_wp2_with fail;refine⟨KpN.of HX.out (fun _ _ h=>h.elim),KpC.of HX.out (fun _ h=>h.elim),fun o o' hoo hoc=>?_⟩;have kd:=aA.of_grown (grownBy_putObj' wl l o');have no:=fun {i:Nat}(h:IsC wl i)=>nJ hoo hoc h
   have nB:∀i,some l=some i->¬B' i:=fun i e C=>(z.out i C).elim (fun h=>no h e) fun h=>by have:=h.1;injection e with e;have:=HSW.2;omega
   replace b:=O (b.put (o':=o') hoo hoc (by have:=HSW.2;have:=HWS.out;omega));replace m:=O (m.keepT kd nB);replace K:=O (K.keepT kd fun i A=>no (K.off i A).2);replace H:=O (H.keepT kd fun q j i A=>no ((H.out q j).off i A).2);replace z:Hid (∀i,B' i->IsC (wl.putObj l o') i\/i<wi.heap.size/\B0 i/\¬IsC wi i):=O fun i h=>(z.out i h).imp (fun c=>c.keep kd (no c)) id
   replace s:=O (s.trans' kd (fun _ _ h=>h) (fun i A e=>by injection e with e;have:=HSW.2;omega));clear HX kd no nB;generalize World.putObj wl l o'=V at b m K H z s ⊢;have HLV:=b;have HBV:=z;have HX:Hid (aA (fun i=>B' i\/i=b8\/i=U\/i=E\/i=b12\/i=b15) V V):=O (aA.refl _ _);clear hoo hoc;refine wpIn_block ?_
   repeat refine wpIn_seq ?_
   refine cU (by kernel_rfl) (fun ⟨_,_,h⟩=>h) ?_;have c1:V.cell? ⟨E,0,none⟩=some (.int .i64 0):=(aC (i:=0) (b.b 2) rfl)
   go_wp2_with fail;clear c1;have HBU:=O (Fo (t:=t) (n:=n) (k:=k) (y:=y+1) HBD.out HT.out HBL.out HNE.out (by omega) HRT.out);have HKO:=O (iZ (n:=n) HT.out y (by omega));refine wpIn_cond_false rfl ?_;refine wpIn_skip ?_;have hkc:=aJ (v:=vss y R) ((H.out R hd4).pt.sum);have HOK0:=aT (H.out R hd4).pt;obtain⟨kc,hkce⟩:∃x,aE (vss y R) ((aY n t y).kid R).ptr=x:=⟨_,rfl⟩
   have HOKC:Hid (∀u∈kc,u.oneCell'=true):=O (by rw[←hkce];exact HOK0);have HKC:=O hkce;rw[hkce] at hkc;clear hkce HOK0
   have hst:eI (k+1) S (aY n t y) n bs=(T.lay (k+1) (fC (aY n t y).kid R u)):=by
    rw[DL S t n bs (k:=k) (y:=y) hky2,HRT.out,←HDG.out,show 2-y=k by omega]
   have HFIN:Hid (∀Wf v2 B2,Wf.heap[b12]?=some (.cells (aE v2 (gJ (T.lay (k+1) (fC (aY n t y).kid R u)).1)).toArray GW (0,0))->Wf.heap[E]?=some (.cells #[.int .i64 (lE (T.lay (k+1) (fC (aY n t y).kid R u)).1)] GV (0,0))->bC Wf B2 v2 (gJ (T.lay (k+1) (fC (aY n t y).kid R u)).1)->(∀i,v2.ownBlock=some i->i≠b8/\i≠U/\i≠E/\i≠b12)->KI Wf c (T.lay (k+1) (fC (aY n t y).kid R u)).2 B2->(∀i,B2 i->B0 i\/wi.heap.size≤i)->(∀i,B2 i->IsC Wf i\/i<wi.heap.size/\B0 i/\¬IsC wi i)->aA (fun i=>B0 i\/i=E\/i=b12) wi Wf->tC wi b8 U E b12 c S B0 n t bs (k+1) Wf):=O fun Wf v2 B2 a1 a2 a3 a4 a5 a6 a7 a8=>⟨y,v2,B2,by omega,by rw[hst];exact a1,by rw[hst];exact a2,by rw[hst];exact a3,a4,by rw[hst];exact a5,a6,a7,a8⟩
   clear hst
   repeat refine wpIn_seq ?_
   go_wp2_with fail;obtain⟨S,hS0⟩:∃S:World->Prop,S=fun w'=>aA aB V.drew w':=⟨_,rfl⟩
   have Z:=O (show ∀w',S w'->aA aB V.drew w' from fun w' h=>by rw[hS0] at h;exact h);have HSI:=O (show ∀w',aA aB V.drew w'->S w' from fun w' h=>by rw[hS0];exact h);have hS:S V.drew:=by rw[hS0];exact aA.refl _ _
   have P:=(aA.refl aB V).drew;clear hS0;refine lO (by kernel_rfl) (by kernel_rfl) (fun ⟨_,_,h⟩=>h) (wpAny_of_held (S:=S) _ _ _ _ ?_);change wpAnyH _ _ _ _ _ _ _ _ V.drew;generalize V.drew=wm at Z HSI hS P ⊢;replace b:=kL b P;replace m:=O (m.keep0 P);replace K:=pK K P;replace H:=O (cI.keep0 H.out P);replace z:=O (fun i h=>(z.out i h).imp (fun c=>c.keep P id) id);replace s:=O (s.trans (aA.any P));replace HX:=O (HX.trans (aA.any P));clear P;have HLs:=b;have HKIs:=m;have HPVs:=K;have HNVs:=H;have HBIs:=z;have HKPs:=s;have HXs:=HX;refine tnd 0 (.agg uc.toArray) rfl (yieldsIf_load_mid (by rfl) 27 (.tmp 12) rfl b12 0 rfl uc _ (fun w' h=>aD ((Z.out w' h).blk (HLs.b 1) id)) aH rfl (szP9 huc)) hS ?_;refine tnb 1 (.pointer (some ⟨b15,176,none⟩)) rfl hS ?_;refine tnd 2 (.int .i64 (R:Int)) rfl (.inl ⟨by rfl,fun w' hw'=>by have c:World.cell? w' ⟨b15,176,none⟩=some (.int .i64 (R:Int)):=(Fq HA35.out (eE _ _ H.nv) (by have j:=((Z.out w' hw').blk (HLs.b 0) id);rw[HSC.out] at j;exact j));go_simp⟩) hS ?_;refine tnb 3 (.pointer (some ⟨b15,35,none⟩)) rfl hS ?_;refine tnb 4 (.pointer (some ⟨b15,36,none⟩)) rfl hS ?_;refine tnb 5 (.pointer (some ⟨b15,36+R*35,none⟩)) rfl hS ?_;refine tnd 6 (.agg kc.toArray) rfl (yieldsIf_load_mid (by rfl) 27 (.tmp 85) rfl b15 (36+R*35) rfl kc _ (fun w' h=>(by rw[←HKC.out];exact M0 (vs:=vss y) (ps:=(fun i=>((aY n t y).kid i).ptr)) HA35.out H.nv hd4 (by have j:=((Z.out w' h).blk (HLs.b 0) id);rw[HSC.out] at j;exact j))) aH rfl (szP9 hkc)) hS ?_;refine wA9 7 ?_;go_wp2_with fail;refine((by rw[←HUC.out,←HKC.out];exact Gj wm v (vss y R) u.ptr ((aY n t y).kid R).ptr K.pt (H.out R hd4).pt:Calls _ _ _ wm (aX wm (u.ptr.eqB ((aY n t y).kid R).ptr)))).mono ?_;rintro e wn ⟨rfl,f⟩;rw[show u.ptr.eqB ((aY n t y).kid R).ptr=false from by have h:=HBU.2.2;rw[←HDG.out];exact h];have hS1:=HSI.out _ ((Z.out _ hS).trans f);replace b:=kL b f;replace m:=O (m.keep0 f);replace K:=pK K f;replace H:=O (cI.keep0 H.out f);replace z:=O (fun i h=>(z.out i h).imp (fun c=>c.keep f id) id);replace s:=O (s.trans (aA.any f));replace HX:=O (HX.trans (aA.any f));clear hS f;go_wp2_with fail;refine⟨hS1,?_⟩;refine wpAnyH_done (by kernel_rfl) ?_ _;clear hS1 Z HSI HLs HKIs HPVs HNVs HBIs HKPs HXs;refine wpIn_cond_false rfl ?_;refine wpIn_skip ?_;refine wpIn_seq ?_;refine cU (by kernel_rfl) (fun ⟨_,_,h⟩=>h) ?_;have c1:wn.cell? ⟨b15,176,none⟩=some (.int .i64 (R:Int)):=(Fq HA35.out (eE _ _ H.nv) (by have j:=b.b 0;rw[HSC.out] at j;exact j))
   go_wp2_with ((with_reducible show WL _ _);first
    | refine wpList_load_mid rfl 27 (.tmp 12) rfl b12 0 rfl uc _ (aD (b.b 1)) aH rfl (szP9 huc) ?_
    | refine sta 27 (.tmp 95) (.tmp 92) b15 (36+R*35) uc (b.b 0) (by rw[List.size_toArray,hsc,huc];omega) (szP9 huc) HOU.out ?_)
   clear c1;intro wo f C;rw[HSC.out,←HUC.out,show gJ (some u)=u.ptr from rfl,M4 (v:=v) (p:=u.ptr) HA35.out H.nv hd4 K.pt.sum,Lq] at C;have HNU:=O (H.upd (d:=R) K.out);have hnn:=eE ((k+1:Nat):Int) (gY (vss y) R v) HNU.nv;obtain⟨nn,hnne⟩:∃x,cH ((k+1:Nat):Int) (gY (vss y) R v) (fun i=>(fC (aY n t y).kid R u i).ptr)=x:=⟨_,rfl⟩
   have HNN:=O hnne;rw[hnne] at C hnn;obtain⟨sd,hsde⟩:∃x,aE (pvs y) (aY n t y).ptr++(nn++[.int .i64 (R:Int)])=x:=⟨_,rfl⟩
   have HSD:=O hsde;rw[hsde] at C
   have HNUL:Hid (∀q,q<4->∀i,(gY (vss y) R v q).ownBlock=some i->i<W1.heap.size):=O (fun q j i A=>by
    by_cases e:q=R
    ·rw[e,rS] at A;exact HVL.out i A
    ·rw[rT _ _ e] at A;exact HNL.out q j i A)
   clear hnne hsde;replace b:=O (b.set 0 f C);replace m:=O (KI.keepT m.out f (fun i e j=>by rw[e] at j;first|exact (b.aq 0) j|exact (b.aq 1) j|exact (b.aq 2) j|exact (b.aq 3) j|exact (b.aq 4) j|exact (b.aq 5) j|exact (b.aq 6) j));replace z:=O (fun i h=>(z.out i h).imp (fun cc=>cc.keep f (fun e=>by rw[e] at h;first|exact (b.aq 0) h|exact (b.aq 1) h|exact (b.aq 2) h|exact (b.aq 3) h|exact (b.aq 4) h|exact (b.aq 5) h|exact (b.aq 6) h)) id);replace s:=O (s.trans' f (fun _ _ h=>h) (fun i A e=>by first|exact .inr (.inl e)|exact .inr (.inr e)|(have:=Y.out;have:=HSW.out;omega)));replace HX:=O (HX.trans' f (fun _ _ h=>h) (fun i _ e=>by first|exact .inr (.inl e)|exact .inr (.inr (.inl e))|exact .inr (.inr (.inr (.inl e)))|exact .inr (.inr (.inr (.inr (.inl e))))|exact .inr (.inr (.inr (.inr (.inr e))))));replace HNU:=O (cI.keepT HNU.out f (fun q j i A e=>by have:=HNUL.out q j i A;have:=Y.out;omega));clear f C;refine wpList_nil ?_;refine cU (by kernel_rfl) (fun ⟨_,_,h⟩=>h) ?_;have c1:wo.cell? ⟨b4,0,none⟩=some (.pointer (some ⟨c,0,none⟩)):=(aC (i:=0) (b.b 6) rfl)
   go_wp2_with ((with_reducible show WL _ _);refine wpList_load_mid rfl 98 (.tmp 98) rfl b15 35 rfl nn _ (Lr HA35.out (by have j:=(b.b 0);rw[←HSD.out] at j;exact j)) Tryz.underlying98 rfl (by rw[hnn];exact dN) ?_)
   clear c1;refine((by rw[←HNN.out];exact Ln m.out (by omega) (fC (aY n t y).kid R u) (MZ (fun i A=>by have h:=HKO.out;rw[show 3-y=k+1 by omega] at h;exact h.kid A) HBU.1.ext HBU.2.1) (gY (vss y) R v) HNU.out:Calls _ _ _ wo (cN wo c B' (.slice none 0 0) (T.lay (k+1) (fC (aY n t y).kid R u)).1 (T.lay (k+1) (fC (aY n t y).kid R u)).2))).mono ?_;rintro e wp ⟨v2,B2,hm2,hpv2,hki2,hBB2,hcl2,hnw2,f⟩;obtain⟨er2,her2⟩:∃x,lE (T.lay (k+1) (fC (aY n t y).kid R u)).1=x:=⟨_,rfl⟩
   rw[her2] at hm2;have HER2:=O her2;subst hm2;replace hnw2:eR wo v2:=hnw2.elim (fun e=>by rw[e];exact eR.nil _) id;have HPV2:=O hpv2;have HKI2:=O hki2;have HNW2:=O hnw2;have HBB2:=O hBB2;have HBI2:Hid (∀i,B2 i->IsC wp i\/i<wi.heap.size/\B0 i/\¬IsC wi i):=O fun i h=>(hcl2 i h).imp id fun ⟨a1,a2⟩=>(z.out i a1).resolve_left a2
   have hlc2:=aJ (v:=v2) hpv2.pt.sum;have HLC20:=aT hpv2.pt;obtain⟨lc2,hlce2⟩:∃x,aE v2 (gJ (T.lay (k+1) (fC (aY n t y).kid R u)).1)=x:=⟨_,rfl⟩
   have HOLC2:Hid (∀u∈lc2,u.oneCell'=true):=O (by rw[←hlce2];exact HLC20);have HLCE2:=O hlce2;rw[hlce2] at hlc2 ⊢;have HSV:=O (show wi.heap.size≤wo.heap.size from s.size);have HLQ:=O (And.intro (b.lt 1).2 (And.intro (b.lt 2).2 (And.intro (b.lt 3).2 (b.lt 4).2)));clear hlce2 HLC20 hpv2 hki2 hcl2 hnw2 her2;replace HX:Hid (aA (fun i=>B' i\/i=b8\/i=U\/i=E\/i=b12\/i=b15) V wp):=O (HX.trans' f (fun _ _ h=>h) (fun i _ e=>.inl e));replace s:=O (s.trans' f (fun _ _ h=>h) (fun i A e=>(HB2.out i e).elim .inl fun e=>by omega));replace b:=O (b.turn f (fun i A e=>(HB2.out i e).elim (fun e=>(HBB.out i e).elim id fun e=>by omega) fun e=>by have:=HWS.out;omega) (fun i A e=>(hBB2 i e).elim id fun e=>by omega));clear f hBB2 m z HNU
   go_wp2_with ((with_reducible show WL _ _);refine sta 27 (.tmp 12) (.tmp 101) b12 0 lc2 (b.b 1) (by first|decide|(rw[hlc2];exact Nat.le_refl _)|simp[hlc2,huc]) (szP9 hlc2) HOLC2.out ?_)
   intro wq f C;rw[aK _ _ (by first|rfl|simp[hlc2,huc])] at C;replace b:=O (b.set 1 f C);replace HKI2:=O (KI.keepT HKI2.out f (fun i e j=>by rw[e] at j;first|exact (b.aq 0) j|exact (b.aq 1) j|exact (b.aq 2) j|exact (b.aq 3) j|exact (b.aq 4) j|exact (b.aq 5) j|exact (b.aq 6) j));replace HPV2:=O (bC.keepT HPV2.out f (fun i A e=>by have:=HNW2.out i A;have:=HLQ.out;omega));replace HBI2:=O (fun i h=>(HBI2.out i h).imp (fun cc=>cc.keep f (fun e=>by rw[e] at h;first|exact (b.aq 0) h|exact (b.aq 1) h|exact (b.aq 2) h|exact (b.aq 3) h|exact (b.aq 4) h|exact (b.aq 5) h|exact (b.aq 6) h)) id);replace s:=O (s.trans' f (fun _ _ h=>h) (fun i A e=>by first|exact .inr (.inl e)|exact .inr (.inr e)|(have:=Y.out;have:=HSW.out;omega)));replace HX:=O (HX.trans' f (fun _ _ h=>h) (fun i _ e=>by first|exact .inr (.inl e)|exact .inr (.inr (.inl e))|exact .inr (.inr (.inr (.inl e)))|exact .inr (.inr (.inr (.inr (.inl e))))|exact .inr (.inr (.inr (.inr (.inr e))))));clear f C
   go_wp2_with ((with_reducible show WL _ _);refine sta 49 (.tmp 10) (.tmp 102) E 0 ([.int .i64 er2]) (b.b 2) (by simp) (by kernel_rfl) (one9) ?_)
   intro wr f C;replace C:wr.heap[E]?=some (.cells #[.int .i64 er2] 49 (0,0)):=C;replace b:=O (b.set 2 f C);replace HKI2:=O (KI.keepT HKI2.out f (fun i e j=>by rw[e] at j;first|exact (b.aq 0) j|exact (b.aq 1) j|exact (b.aq 2) j|exact (b.aq 3) j|exact (b.aq 4) j|exact (b.aq 5) j|exact (b.aq 6) j));replace HPV2:=O (bC.keepT HPV2.out f (fun i A e=>by have:=HNW2.out i A;have:=HLQ.out;omega));replace HBI2:=O (fun i h=>(HBI2.out i h).imp (fun cc=>cc.keep f (fun e=>by rw[e] at h;first|exact (b.aq 0) h|exact (b.aq 1) h|exact (b.aq 2) h|exact (b.aq 3) h|exact (b.aq 4) h|exact (b.aq 5) h|exact (b.aq 6) h)) id);replace s:=O (s.trans' f (fun _ _ h=>h) (fun i A e=>by first|exact .inr (.inl e)|exact .inr (.inr e)|(have:=Y.out;have:=HSW.out;omega)));replace HX:=O (HX.trans' f (fun _ _ h=>h) (fun i _ e=>by first|exact .inr (.inl e)|exact .inr (.inr (.inl e))|exact .inr (.inr (.inr (.inl e)))|exact .inr (.inr (.inr (.inr (.inl e))))|exact .inr (.inr (.inr (.inr (.inr e))))));clear f C;go_wp2_with fail;have HSI0:=b.b 1;have HSI1:=b.b 2;rw[←HLCE2.out] at HSI0;rw[←HER2.out] at HSI1;have HSN:=HFIN.out _ v2 B2 HSI0 HSI1 HPV2.out (fun i A=>by (have:=HNW2.out i A;have:=HLQ.out;omega)) HKI2.out (fun i h=>(HBB2.out i h).elim (HB2.out i) fun e=>.inr (by have:=HSV.out;omega)) HBI2.out s.out
   refine⟨KpN.of HX.out fun i o e hn ho=>by
    rcases e with e|e|e|e|e|e
    ·rcases HBV.out i e with⟨cs,t,h⟩|h
     ·rw[h] at ho;cases ho;rfl
     ·omega
    ·have:=HG.out;omega
    ·have:=HG.out;omega
    ·have:=HG.out;omega
    ·have:=HG.out;omega
    ·subst e;rw[HLV.b 0] at ho;cases ho;rfl,KpC.of HX.out (fun i e=>?_),HSN⟩
   rcases e with e|e|e|e|e|e
   ·exact(HB2.out i e).elim .inl fun e=>.inr (.inr (.inr (.inr (.inr e))))
   ·exact .inr (.inl e)
   ·exact .inr (.inr (.inl e))
   ·exact .inr (.inr (.inr (.inl e)))
   ·exact .inr (.inr (.inr (.inr (.inl e))))
   ·exact .inr (.inr (.inr (.inr (.inr (by have:=Y.out;have:=HSW.out;omega)))))
 case done =>
  rintro D W hDs ⟨y,v,B',hky,h12,h10,X,hvo,hki,hB',hBI,hkp⟩ hDd;obtain rfl:y=0:=by omega
  rename_i KQ hKQ;obtain⟨⟨r,T⟩,hrT⟩:∃q,eI 3 S t n bs=q:=⟨_,rfl⟩
  have e0:eI 3 S (aY n t 0) n bs=(r,T):=hrT;rw[e0] at h12 h10 X hki;rw[hrT] at hKQ ⊢;dsimp only at h12 h10 X hki hKQ ⊢;have HRT:=O hrT;have huc:=aJ (v:=v) X.pt.sum;have HOU0:=aT X.pt;obtain⟨uc,huce⟩:∃x,aE v (gJ r)=x:=⟨_,rfl⟩
  have HOU:Hid (∀u∈uc,u.oneCell'=true):=O (by rw[←huce];exact HOU0);have HUC:=O huce;rw[huce] at huc h12;have HL1:=O (Loc.round b.out h12 h10 hB' HBB.out hkp);have m:=O hki;have K:=O X;have z:=O hBI;have Q:=O hDd;have s:Hid (aA (fun i=>B0 i\/i=b8\/i=U\/i=E\/i=b12) wi W):=O ((aA.refl aB wi).trans' hkp (fun _ _ h=>h.elim) (fun i A e=>e.elim .inl fun e=>e.elim (fun e=>.inr (.inr (.inr (.inl e)))) fun e=>.inr (.inr (.inr (.inr e)))));have HPVO:=O hvo
  have HFX:Hid (∀Wf v2,bC Wf B' v2 (gJ r)->v2=.slice none 0 0\/eR w v2->KI Wf c T B'->(∀i,B' i->IsC Wf i\/i<wi.heap.size/\B0 i/\¬IsC wi i)->aA (fun i=>B0 i\/i=b8\/i=U\/i=E\/i=b12) wi Wf->Wf.heap[D]?=some (.deferred (some []))->cN w c B (.slice none 0 0) r T (.returned (.tuple #[.agg (aE v2 (gJ r)).toArray,.int .i64 (lE r)])) (Wf.putObj D (.deferred none))):=O fun Wf v2 a1 a2 a3 a4 a5 a6=>by
   have kd:=aA.of_grown (grownBy_putObj' Wf D (.deferred none));have no:=fun {i:Nat}(h:IsC Wf i)=>nJ a6 rfl h
   have nB:∀i,some D=some i->¬B' i:=fun i e C=>(a4 i C).elim (fun h=>no h e) fun h=>by have:=h.1;injection e with e;omega
   exact cN.upon (W:=Wf) rfl (a1.keepT kd fun i A=>no (a1.off i A).2) (a3.keepT kd nB) a2 HBB.out hB' HLW.out HCL.out (fun i h=>(a4 i h).imp (fun c=>c.keep kd (no c)) id) b.keep (a5.trans' kd (fun _ _ h=>h) (fun i A e=>by injection e with e;omega)) (fun i h=>h.elim .inl fun h=>.inr (by have:=HLK.out;omega))
  replace b:=HL1;have HD8:=O (show b8≠D/\U≠D from by have:=HG.out;omega)
  have HBU:Hid (∀u,r=some u->u.ptr.addrs.length≤65536):=O fun u hu=>by
   subst hu;have h:=(Fo (t:=t) (n:=n) (k:=3) (y:=0) HBD.out HT.out HBL.out HNE.out (by omega) e0).2.1;have:=(iK (Tr.Ok.may3 h)).1;omega
  clear X hki hBI hB' hkp h10 h12 hI0 HBK HOU0 HL1 hrT e0 huce hvo;show KQ _ _;refine hKQ _ _ ?_;clear hKQ;rcases r with _|u
  ·replace b:Hid (Loc B B' w W [(b12,uc.toArray,27),(E,#[.int .i64 15],49),(U,#[.int .i64 0],49),(b8,aI.toArray,27),(b5,pc.toArray,27),(b4,#[.pointer (some ⟨c,0,none⟩)],39)]):=b
   have c1:W.cell? ⟨E,0,none⟩=some (.int .i64 15):=(aC (i:=0) (b.b 1) rfl)
   go_wp2_with fail;clear c1;go_wp2_with fail;refine dwB (fun k=>k=b8\/k=U) (by kernel_rfl) ?_;intro wk S Z HSI hS P;replace b:=kL b P;replace m:=O (m.keep0 P);replace z:=O (fun i h=>(z.out i h).imp (fun c=>c.keep P id) id);replace s:=O (s.trans (aA.any P));replace Q:=O (P.blk Q.out id);clear P;have HLs:=b;have HKIs:=m;have HBIs:=z;have HKPs:=s;have HDDs:=Q;refine tnd 0 (.agg aI.toArray) rfl (qR (by rfl) 27 rfl pZ) hS ?_;refine tnd 1 (.int .i64 15) rfl (.inl ⟨by rfl,fun w' hw'=>by have c:World.cell? w' ⟨E,0,none⟩=some (.int .i64 15):=aC (i:=0) ((Z.out w' hw').blk (HLs.b 1) (fun e=>by rcases e with e|e<;>first|exact bJ (i:=3) HLs.nd rfl 1 (by decide) rfl e|exact bJ (i:=2) HLs.nd rfl 1 (by decide) rfl e)) rfl;go_simp⟩) hS ?_;refine wA9 2 ?_;refine sta 27 (.tmp 8) (.tmp 105) b8 0 aI (b.b 3) (by first|decide|(rw[aG];exact Nat.le_refl _)|simp[aG,aG]) (szP9 aG) Ab ?_;intro wl f C;rw[aK _ _ (by first|rfl|simp[aG,aG])] at C;have hS1:=HSI.out _ ((Z.out _ hS).trans' f (fun _ _ h=>h) (fun i A e=>(.inl e)));clear hS;replace b:=O (b.set 3 f C);replace m:=O (KI.keepT m.out f (fun i e j=>by rw[e] at j;first|exact (b.aq 0) j|exact (b.aq 1) j|exact (b.aq 2) j|exact (b.aq 3) j|exact (b.aq 4) j|exact (b.aq 5) j|exact (b.aq 6) j));replace z:=O (fun i h=>(z.out i h).imp (fun cc=>cc.keep f (fun e=>by rw[e] at h;first|exact (b.aq 0) h|exact (b.aq 1) h|exact (b.aq 2) h|exact (b.aq 3) h|exact (b.aq 4) h|exact (b.aq 5) h|exact (b.aq 6) h)) id);replace s:=O (s.trans' f (fun _ _ h=>h) (fun i A e=>by first|exact .inr (.inl e)|exact .inr (.inr (.inl e))));replace Q:=O (f.blk Q.out (fun e=>by have:=HD8.out;omega));clear f C;refine wpList_nil ?_;refine⟨hS1,?_⟩;refine wA9 3 ?_;refine sta 49 (.tmp 9) (.tmp 106) U 0 ([.int .i64 15]) (b.b 2) (by simp) (by kernel_rfl) (one9) ?_;intro wm f C;replace C:wm.heap[U]?=some (.cells #[.int .i64 15] 49 (0,0)):=C;have hS2:=HSI.out _ ((Z.out _ hS1).trans' f (fun _ _ h=>h) (fun i A e=>(.inr (e))));clear hS1;replace b:=O (b.set 2 f C);replace m:=O (KI.keepT m.out f (fun i e j=>by rw[e] at j;first|exact (b.aq 0) j|exact (b.aq 1) j|exact (b.aq 2) j|exact (b.aq 3) j|exact (b.aq 4) j|exact (b.aq 5) j|exact (b.aq 6) j));replace z:=O (fun i h=>(z.out i h).imp (fun cc=>cc.keep f (fun e=>by rw[e] at h;first|exact (b.aq 0) h|exact (b.aq 1) h|exact (b.aq 2) h|exact (b.aq 3) h|exact (b.aq 4) h|exact (b.aq 5) h|exact (b.aq 6) h)) id);replace s:=O (s.trans' f (fun _ _ h=>h) (fun i A e=>by first|exact .inr (.inl e)|exact .inr (.inr (.inl e))));replace Q:=O (f.blk Q.out (fun e=>by have:=HD8.out;omega));clear f C;refine wpList_nil ?_;refine⟨hS2,?_⟩;refine wpAnyH_done (by kernel_rfl) ?_ _;clear hS2 Z HSI HLs HKIs HBIs HKPs HDDs;refine noP ?_;go_wp2_with fail;have HB8:=O (b.b 3);have HPF:=O (HFX.out _ (.slice none 0 0) (bC.hole _ _) (.inl rfl) m.out z.out s.out Q.out);have kd:=aA.of_grown (grownBy_putObj' wm D (.deferred none));have HP8:=O (kd.blk (b.b 3) (nJ Q.out rfl ⟨_,_,b.b 3⟩));have c9:(wm.putObj D (.deferred none)).cell? ⟨U,0,none⟩=some (.int .i64 15):=aC (i:=0) (kd.blk (b.b 2) (nJ Q.out rfl ⟨_,_,b.b 2⟩)) rfl;have hdf:=Q.out;clear kd b m z s;show bodyPostM _ _ _ _ _ .ret _ _;refine⟨by simp,.inl ⟨_,_,rfl,run_takeDeferred hdf,?_⟩⟩;exact⟨_,fD rfl _ _ b8 _ _ _ _ rfl HP8.out aH rfl (by rw[List.size_toArray,aG];exact dM) ⟨U,0,none⟩ (.int .i64 15) rfl (by go_simp),HPF.out⟩
  ·replace b:Hid (Loc B B' w W [(b12,uc.toArray,27),(E,#[.int .i64 0],49),(U,#[.int .i64 0],49),(b8,aI.toArray,27),(b5,pc.toArray,27),(b4,#[.pointer (some ⟨c,0,none⟩)],39)]):=b
   have c1:W.cell? ⟨E,0,none⟩=some (.int .i64 0):=(aC (i:=0) (b.b 1) rfl)
   go_wp2_with ((with_reducible show WL _ _);refine wpList_load_mid rfl 27 (.tmp 12) rfl b12 0 rfl uc _ (aD (b.b 0)) aH rfl (szP9 huc) ?_)
   clear c1;have HLS:=O b.keep.size;have HLB:=O (And.intro (b.lt 2).2 (b.lt 3).2);refine((by rw[←HUC.out];exact DI (fun i e=>m.lt e) v u.ptr K.pt (HBU.out u rfl):Calls _ _ _ W (vX W B' u.ptr))).mono ?_;rintro e wk ⟨ov,rfl,hov,hovn,f⟩;have HOV:=O hov;have HOVN:=O hovn;have HON2:=O (hovn.from HLS.out);obtain⟨oc,HOCE,hoc,HOOC⟩:=nmPt hov.pt;rw[HOCE.out];clear hov hovn;replace b:=kL b f;replace m:=O (m.keep0 f);replace K:=pK K f;replace z:=O (fun i h=>(z.out i h).imp (fun c=>c.keep f id) id);replace s:=O (s.trans (aA.any f));replace Q:=O (f.blk Q.out id);clear f;clear K
   go_wp2_with ((with_reducible show WL _ _);refine sta 27 (.tmp 8) (.tmp 108) b8 0 oc (b.b 3) (by first|decide|(rw[hoc];exact Nat.le_refl _)|simp[hoc,aG]) (szP9 hoc) HOOC.out ?_)
   intro wl f C;rw[aK _ _ (by first|rfl|simp[hoc,aG])] at C;replace b:=O (b.set 3 f C);replace m:=O (KI.keepT m.out f (fun i e j=>by rw[e] at j;first|exact (b.aq 0) j|exact (b.aq 1) j|exact (b.aq 2) j|exact (b.aq 3) j|exact (b.aq 4) j|exact (b.aq 5) j|exact (b.aq 6) j));replace z:=O (fun i h=>(z.out i h).imp (fun cc=>cc.keep f (fun e=>by rw[e] at h;first|exact (b.aq 0) h|exact (b.aq 1) h|exact (b.aq 2) h|exact (b.aq 3) h|exact (b.aq 4) h|exact (b.aq 5) h|exact (b.aq 6) h)) id);replace s:=O (s.trans' f (fun _ _ h=>h) (fun i A e=>by first|exact .inr (.inl e)|exact .inr (.inr (.inl e))));replace Q:=O (f.blk Q.out (fun e=>by have:=HD8.out;omega));replace HOV:=O (bC.keepT HOV.out f (fun i A e=>by have:=HOVN.out i A;have:=HLB.out;omega));clear f C
   go_wp2_with ((with_reducible show WL _ _);refine sta 49 (.tmp 9) (.const (.int .i64 0)) U 0 ([.int .i64 0]) (b.b 2) (by simp) (by kernel_rfl) (one9) ?_)
   intro wm f C;replace C:wm.heap[U]?=some (.cells #[.int .i64 0] 49 (0,0)):=C;replace b:=O (b.set 2 f C);replace m:=O (KI.keepT m.out f (fun i e j=>by rw[e] at j;first|exact (b.aq 0) j|exact (b.aq 1) j|exact (b.aq 2) j|exact (b.aq 3) j|exact (b.aq 4) j|exact (b.aq 5) j|exact (b.aq 6) j));replace z:=O (fun i h=>(z.out i h).imp (fun cc=>cc.keep f (fun e=>by rw[e] at h;first|exact (b.aq 0) h|exact (b.aq 1) h|exact (b.aq 2) h|exact (b.aq 3) h|exact (b.aq 4) h|exact (b.aq 5) h|exact (b.aq 6) h)) id);replace s:=O (s.trans' f (fun _ _ h=>h) (fun i A e=>by first|exact .inr (.inl e)|exact .inr (.inr (.inl e))));replace Q:=O (f.blk Q.out (fun e=>by have:=HD8.out;omega));replace HOV:=O (bC.keepT HOV.out f (fun i A e=>by have:=HOVN.out i A;have:=HLB.out;omega));clear f C;go_wp2_with fail;have HB8:=O (b.b 3);have HPF:=O (HFX.out _ ov HOV.out (.inr HON2.out) m.out z.out s.out Q.out);have kd:=aA.of_grown (grownBy_putObj' wm D (.deferred none));have HP8:=O (kd.blk (b.b 3) (nJ Q.out rfl ⟨_,_,b.b 3⟩));have c9:(wm.putObj D (.deferred none)).cell? ⟨U,0,none⟩=some (.int .i64 0):=aC (i:=0) (kd.blk (b.b 2) (nJ Q.out rfl ⟨_,_,b.b 2⟩)) rfl;have hdf:=Q.out;rw[show gJ (some u)=u.ptr from rfl,HOCE.out] at HPF;clear kd b m z s;show bodyPostM _ _ _ _ _ .ret _ _;refine⟨by simp,.inl ⟨_,_,rfl,run_takeDeferred hdf,?_⟩⟩;exact⟨_,fD rfl _ _ b8 _ _ _ _ rfl HP8.out aH rfl (by rw[List.size_toArray,hoc];exact dM) ⟨U,0,none⟩ (.int .i64 0) rfl (by go_simp),HPF.out⟩
 case stop =>
  rintro D W hDs ⟨T,B',hset,h8,h9,hki,hB',hBI,hkp⟩ hDd;have kd:=aA.of_grown (grownBy_putObj' W D (.deferred none));have no:=fun {i:Nat}(h:IsC W i)=>nJ hDd rfl h
  have nB:∀i,some D=some i->¬B' i:=fun i e C=>(hBI i C).elim (fun h=>no h e) fun h=>by have:=h.1;injection e with e;omega
  have HP:Hid (cN w c B (.slice none 0 0) none T (.returned (.tuple #[.agg aI.toArray,.int .i64 15])) (W.putObj D (.deferred none))):=O (cN.upon (W:=W) rfl (bC.hole _ _) (hki.keepT kd nB) (.inl rfl) HBB.out hB' HLW.out HCL.out (fun i h=>(hBI i h).imp (fun c=>c.keep kd (no c)) id) b.keep (hkp.trans' kd (fun _ _ h=>h) (fun i A e=>by injection e with e;omega)) (fun i h=>h.elim .inl fun h=>.inr (by have:=HLK.out;omega)));have HP8:=O (kd.blk h8 (no ⟨_,_,h8⟩));have c9:(W.putObj D (.deferred none)).cell? ⟨U,0,none⟩=some (.int .i64 15):=aC (i:=0) (kd.blk h9 (no ⟨_,_,h9⟩)) rfl;rw[hset];clear kd no nB hki hB' hBI hkp h8 h9 hI0 HBK;show bodyPostM _ _ _ _ _ .ret _ _;refine⟨by simp,.inl ⟨_,_,rfl,run_takeDeferred hDd,?_⟩⟩;exact⟨_,fD rfl _ _ b8 _ _ _ _ rfl HP8.out aH rfl (by rw[List.size_toArray,aG];exact dM) ⟨U,0,none⟩ (.int .i64 15) rfl (by go_simp),HP.out⟩
theorem mT(e:KI w c S B)(pv:Value)(t:Tr)(o:Tr.Ok S 3 t)(j:bC w B pv t.ptr)(n:Nat)(f:n<64)(vv:Value)(bs:List UInt8)(b:bs.length=256)(m:Rd w 1 vv 256 (bs.map vb))(d:∀i,vv.ownBlock=some i->¬B i/\i<w.heap.size):Calls Tryz.prog 46 #[.pointer c,.agg (aE pv t.ptr).toArray,.int .i64 (n:Int),vv] w (cN w c B (.slice none 0 0) (tB S t n bs).1 (tB S t n bs).2):=by
 unfold tB
 by_cases h:t.blk 3 n=bs
 ·rw[if_pos h];exact JH e pv t o j n f vv bs b m d h
 ·rw[if_neg h];exact JI e pv t o j n f vv bs b m d h
theorem Ac(w:World)(l:Nat)(d:l≤3):Calls Tryz.prog 42 #[.int .i64 (l:Int)] w (aN w (.int .i64 ((4 ^ l:Nat):Int))):=by
 have b:=lN w;rcases l with _|_|_|_|l
 ·go_in
  go_wp2;go_ret;exact aN.of b.keep
 ·go_in
  go_wp2;go_ret;exact aN.of b.keep
 ·go_in
  go_wp2;go_ret;exact aN.of b.keep
 ·go_in
  go_wp2;go_ret;exact aN.of b.keep
 ·omega
theorem G6(pv:Value)(s:PtV w pv zPt)(l:Nat):Calls Tryz.prog 41 #[.pointer c,.agg (aE pv zPt).toArray,.int .i64 ((l+1:Nat):Int)] w (fN w B l .hole):=by
 obtain⟨p,m⟩:∃p,zPt=p:=⟨_,rfl⟩
 have I:Hid (p.hole=true):=O (by rw[←m];exact iQ);rw[m] at s ⊢;have b:=O s;obtain⟨H,o,E,J⟩:=nmPt s;rw[o.out];have h:(cH ((l+1:Nat):Int) (fun _=>.slice none 0 0) (fun _=>zPt)).length=141:=rfl;have j:=AN ((l+1:Nat):Int);obtain⟨F,f⟩:∃x,cH ((l+1:Nat):Int) (fun _=>.slice none 0 0) (fun _=>zPt)=x:=⟨_,rfl⟩
 have C:Hid (∀u∈F,u.oneCell'=true):=O (by rw[←f];exact dQ (w:=w) _ fun _ _=>tA w);have A:=O f;rw[f] at h j;have n:=O j;obtain⟨lv,r⟩:∃x,((l+1:Nat):Int)=x:=⟨_,rfl⟩
 rw[r] at n ⊢;have d:=lN w;clear s f j m r;have q:=b;go_in
 go_wp2_with ((with_reducible show WL _ _);refine bxL d 27 (.tmp 1) (H.toArray) ?_)
 intro K L i d;replace b:=O (b.keep i fun _ _=>id);clear i
 go_wp2_with ((with_reducible show WL _ _);refine alL d 98 (.agg dI.toArray) (dI.toArray) jO ?_)
 intro G w2 i d;replace b:=O (b.keep i fun _ _=>id);clear i
 go_wp2_with ((with_reducible show WL _ _);refine wpList_load_mid rfl 27 (.tmp 4) rfl K 0 rfl H _ (aD (d.b 1)) aH rfl (szP9 E) ?_)
 refine((by rw[←o.out];exact cL w2 pv p b.out:Calls _ _ _ w2 (aX w2 p.hole))).mono ?_;rintro e M ⟨rfl,i⟩;replace d:=kL d i;replace b:=O (b.keep i fun _ _=>id);clear i;rw[I.out]
 go_wp2_with ((with_reducible show WL _ _);first
  | refine bld 98 #[(0,.tmp 14)] [(0,.int .i64 lv)] (.agg F.toArray) n.out ?_
  | refine sta 98 (.tmp 6) (.tmp 15) G 0 F (d.b 0) (by first|decide|(rw[h];exact Nat.le_refl _)|simp[h,bX]) (by rw[h];exact dN) C.out ?_)
 intro N i D;rw[aK _ _ (by first|rfl|simp[h,bX])] at D;replace d:=O (d.set 0 i D);replace b:=O (q.keep d.keep fun _ _=>id);clear i D;have y:=O (d.b 0);have z:=O d.keep;clear d b;go_wp2_with fail;refine bodyPost_ret (bN rfl _ _ G _ _ _ _ rfl y.out Tryz.underlying98 rfl (by rw[List.size_toArray,h];exact dN)) rfl ?_;exact⟨fun _=>.slice none 0 0,(by rw[←A.out];rfl),cI.hole _ B,fun _ _=>eR.nil w,z.out⟩
theorem G7(hK:KI w c S B)(pv:Value)(p:Pt)(hp:PtV w pv p)(l:Nat)(hl:l≤2)(k:Nat->Tr)(hg:jG S p (l+1) (cW (l+1) (fI k)))(G:∀i,i<4->Tr.Ok S l (k i)):Calls Tryz.prog 41 #[.pointer c,.agg (aE pv p).toArray,.int .i64 ((l+1:Nat):Int)] w (fN w B l (.node p k)):=by
 have HH:Hid (p.hole=false):=O hg.ne_hole;have d:=O hp;have r:=O hK;have HG:=O hg;have I:=O G;have H:=O (fun i (e:B i)=>hK.lt e);obtain⟨pc,D,Q,HOP⟩:=nmPt hp;rw[D.out];have HNB:Hid (cW (l+1) (fI k)=nb (l+1) (fun i=>(k i).ptr)):=O (Tr.Ok.nb_eq (l+1) G).symm;have hlv0:0≤((l+1:Nat):Int):=by omega
 have f:=lN w;clear hp hg G hK;go_in
 go_wp2_with ((with_reducible show WL _ _);refine bxL f 27 (.tmp 1) (pc.toArray) ?_)
 intro b4 w1 b f;replace d:=O (d.keep b fun _ _=>id);replace r:=O (r.keep0 b);clear b
 go_wp2_with ((with_reducible show WL _ _);refine alL f 98 (.agg dI.toArray) (dI.toArray) jO ?_)
 intro V w2 b f;replace d:=O (d.keep b fun _ _=>id);replace r:=O (r.keep0 b);clear b
 go_wp2_with ((with_reducible show WL _ _);refine wpList_load_mid rfl 27 (.tmp 4) rfl b4 0 rfl pc _ (aD (f.b 1)) aH rfl (szP9 Q) ?_)
 refine((by rw[←D.out];exact cL w2 pv p d.out:Calls _ _ _ w2 (aX w2 p.hole))).mono ?_;rintro e w3 ⟨rfl,b⟩;replace f:=kL f b;replace d:=O (d.keep b fun _ _=>id);replace r:=O (r.keep0 b);clear b;rw[HH.out]
 go_wp2_with ((with_reducible show WL _ _);refine wpList_load_mid rfl 27 (.tmp 4) rfl b4 0 rfl pc _ (aD (f.b 1)) aH rfl (szP9 Q) ?_)
 refine((by rw[←D.out];exact KI.get r.out d.out HG.out:Calls _ _ _ w3 (fQ w3 (cW (l+1) (fI k))))).mono ?_;rintro e w4 ⟨v1,rfl,W,b⟩;rw[HNB.out] at W;obtain⟨va,vc,rfl,-,-⟩:=(Rd.of_owns W).form;have U:=O W;clear W;replace f:=kL f b;replace d:=O (d.keep b fun _ _=>id);replace r:=O (r.keep0 b);clear b;go_wp2_with fail;have M:=O f.keep.size;have HL6:=O (f.lt 0).2;refine((wT w4 (.slice va 256 vc) (l+1) (fun i=>(k i).ptr) (by omega) (by omega) (fun i s=>(I.out i s).sl) (fun i s=>by have:=(I.out i s).fit;exact this) (Rd.of_owns U.out))).mono ?_;rintro e w5 ⟨vs,rfl,o,b⟩;have HV6:=O (fun j (hj:j<4) i (s:(vs j).ownBlock=some i) (e:i=V)=>by have h1:=((o j hj).2 i s).1;have h2:=HL6.out;omega:∀j,j<4->∀i,(vs j).ownBlock=some i->¬i=V);have J:=O (fun q (hq:q<4) i (s:(vs q).ownBlock=some i)=>by have:=((o q hq).2 i s).1;have:=M.out;omega:∀q,q<4->eR w (vs q));have z:=O (o.nval (B:=B) (fun i e=>by have:=H.out i e;have:=M.out;omega));have m:=eE ((l+1:Nat):Int) vs o.nv;have A:=dQ ((l+1:Nat):Int) o.nv;obtain⟨R,n⟩:∃x,cH ((l+1:Nat):Int) vs (fun i=>(k i).ptr)=x:=⟨_,rfl⟩
 have L:Hid (∀u∈R,u.oneCell'=true):=O (by rw[←n];exact A);have K:=O n;rw[n] at m ⊢;clear A n o;replace f:=kL f b;replace d:=O (d.keep b fun _ _=>id);replace r:=O (r.keep0 b);replace U:=O (b.owns U.out fun _ _=>id);clear b;have Z:=O f.keep;have y:=O (f.b 0);have Y:=O (f.lt 0);replace f:=O (Loc.nil aB aB w5);have HNN0:=z;have HB60:=y;clear d r U
 go_wp2_with ((with_reducible show WL _ _);refine al 98 (.agg dI.toArray) (dI.toArray) jO ?_)
 intro E w6 N P C
 go_wp2_with ((with_reducible show WL _ _);refine sta 98 (.tmp 10) (.tmp 29) E 0 R C (by first|decide|(rw[List.size_toArray,m];exact Nat.le_refl _)|simp[m,bX]) (by rw[m];exact dN) L.out ?_)
 intro w7 b F;rw[aK _ _ (by first|rfl|(rw[List.size_toArray,m];rfl)|simp[m,bX])] at F;replace b:=tX P b (fun i s e=>by omega);replace f:=lW f N b F;replace z:=O (cI.keep0 z.out b);replace y:=O (b.blk y.out id);clear N b F P C;have c1:w7.cell? ⟨E,0,none⟩=some (.int .i64 ((l+1:Nat):Int)):=aC (i:=0) (f.b 0) (by rw[←K.out];rfl)
 go_wp2_with ((with_reducible show WL _ _);first
  | refine wpList_load_mid rfl 98 (.tmp 10) rfl E 0 rfl R _ (aD (f.b 0)) Tryz.underlying98 rfl (by rw[m];exact dN) ?_
  | refine sta 98 (.tmp 6) (.tmp 40) V 0 R y.out (by rw[List.size_toArray,bX,m];omega) (by rw[m];exact dN) L.out ?_)
 clear c1;intro w9 b F;rw[aK _ _ (by rw[List.size_toArray,bX,m])] at F;have HP:Hid (fN w B l (.node p k) (.returned (.tuple #[.agg R.toArray,.int .i64 0])) w9):=O ⟨vs,by rw[←K.out];rfl,fun i s=>(z.out i s).keepT b (fun j hj e=>HV6.out i s j hj e),J.out,(Z.trans f.keep).trans' b (fun _ _ h=>h) (fun i s e=>by have:=Y.1;omega)⟩;have X:=O F;clear F b f z y;go_wp2_with fail;refine bodyPost_ret (bN rfl _ _ V _ _ _ _ rfl X.out Tryz.underlying98 rfl (by rw[List.size_toArray,m];exact dN)) rfl ?_;exact HP.out
theorem BI(f:KI w c S B)(h:l≤2)(pv:Value)(t:Tr)(d:Tr.Ok S (l+1) t)(e:PtV w pv t.ptr):Calls Tryz.prog 41 #[.pointer c,.agg (aE pv t.ptr).toArray,.int .i64 ((l+1:Nat):Int)] w (fN w B l t):=by
 cases t with
 | hole=>exact G6 pv e l
 | leaf p b=>exact d.elim
 | node p k=>exact G7 f pv p e l h k d.1 d.2.1
theorem BJ(w:World)(x:Int):Calls Tryz.prog 35 #[.int .i64 x] w fun e w'=>∃g,e=.returned (.func (.func 68) #[] #[.pointer (some ⟨g,0,none⟩)])/\w'.heap[g]?=some (.cells #[.int .i64 x] 3 (0,0))/\w.heap.size≤g/\aA aB w w':=by
 go_in;have b:=lN w
 go_wp2_with ((with_reducible show WL _ _);refine bxL b 3 (.tmp 0) (#[.int .i64 x]) ?_)
 intro b1 f d b;clear d;go_wp2;go_ret;exact⟨b1,rfl,b.b 0,(b.lt 0).1,b.keep⟩
theorem kI(o:w.heap[g]?=some (.cells #[.int .i64 x] 3 (0,0)))(pv:Value)(p:Pt)(m:PtV w pv p):Calls Tryz.prog 68 #[.agg (aE pv p).toArray,.pointer g] w (aX w (decide (x<p.birth))):=by
 have n:=aJ (v:=pv) m.sum;have e:=aT m;have h:(aE pv p).toArray[1]?=some (.int .i64 p.birth):=rfl;obtain⟨z,b⟩:∃l,aE pv p=l:=⟨_,rfl⟩
 obtain⟨y,d⟩:∃l,p.birth=l:=⟨_,rfl⟩
 rw[b] at n e h ⊢;rw[d] at h ⊢;have s:=O h;have j:=O o;clear b d e h o m;have f:=lN w;go_in
 go_wp2_with ((with_reducible show WL _ _);refine bxL f 27 (.tmp 0) (z.toArray) ?_)
 intro u r q f;replace j:=O (q.blk j.out id);clear q;have c1:r.cell? ⟨u,1,none⟩=some (.int .i64 y):=aC (i:=1) (f.b 0) s.out;have c2:r.cell? ⟨g,0,none⟩=some (.int .i64 x):=cell_of_one j.out;go_wp2;go_ret;exact⟨rfl,f.keep⟩
def dR(v:Value)(p:Pt)(a:Int):List Value:=aE v p++[.int .i64 a]
theorem jS{a:Int}(h:p.sum.length=32):(dR v p a).length=36:=by unfold dR;rw[List.length_append,aJ h];rfl
theorem jT{a:Int}(h:PtV w v p):∀u∈dR v p a,u.oneCell'=true:=by
 intro u b;rcases List.mem_append.1 b with b|b
 ·exact aT h u b
 ·rw[List.mem_singleton] at b
  subst b;rfl
theorem N3(v u:Value)(p:Pt)(a:Int):spl (dR v p a).toArray 0 [u]=(dR u p a).toArray:=rfl
theorem eM{b:Nat}{a:Int}{t:TypeId}{e:Nat×Nat}(h:w.heap[b]?=some (.cells (dR v p a).toArray t e)):w.rangeAt b 0 (aE v p):=fun j u d =>
 aC h (by
  rw[List.getElem?_toArray,Nat.zero_add];unfold dR;rw[List.getElem?_append_left (List.getElem?_eq_some_iff.1 d).1];exact d)
def tF(w:World)(B:Nat->Prop)(p:Pt)(e:Ending)(w':World):Prop:=∃v,e=.returned (.tuple #[.agg (aE v p).toArray,.bool true])/\bC w' B v p/\eR w v/\aA aB w w'
theorem DS(hB:∀k,B k->k<w.heap.size)(pv:Value)(p:Pt)(F:PtV w pv p)(hl:p.addrs.length≤65536)(at_:Int):Calls Tryz.prog 36 #[.agg (dR pv p at_).toArray] w (tF w B p):=by
 have L:=O hB;have HLN:=O hl;have I:=O F.ads;have A:=O F.sum;have f:=O F;have X:=jS (v:=pv) (a:=at_) F.sum;have y:=jT (a:=at_) F;obtain⟨pc,j⟩:∃l,dR pv p at_=l:=⟨_,rfl⟩
 have HOP:Hid (∀u∈pc,u.oneCell'=true):=O (by rw[←j];exact y);have R:=O j;rw[j] at X ⊢;clear y j;have HPS:Hid (∃r,pc=pv::r):=O ⟨_,R.symm⟩;have d:=lN w;clear F hl hB;have HPT0:=f;go_in
 go_wp2_with ((with_reducible show WL _ _);refine bxL d 90 (.tmp 0) (pc.toArray) ?_)
 intro b1 w1 b d;replace f:=O (f.keep b fun _ _=>id);clear b
 go_wp2_with ((with_reducible show WL _ _);refine alL d 27 (.agg aI.toArray) (aI.toArray) bK ?_)
 intro Y w2 b d;replace f:=O (f.keep b fun _ _=>id);clear b;have c1:w2.cell? ⟨b1,0,none⟩=some (pv):=(by obtain⟨r,e⟩:=HPS.out;exact aC (i:=0) (d.b 1) (by rw[e];rfl))
 go_wp2_with fail;clear c1;have W:=O d.keep.size;have V:=O (And.intro (d.lt 0).2 (d.lt 1).2);refine(nH w2 pv p.addrs f.rd HLN.out).mono ?_;rintro e w3 ⟨v1,rfl,C,b⟩;obtain⟨G,H,rfl,-,-⟩:=(Rd.of_owns C).form;have D:Hid (bC w3 B (.slice G p.addrs.length H) p):=O ⟨⟨Rd.of_owns C,I.out,A.out⟩,fun i n=>⟨fun e=>by have:=aU C n;have:=L.out i e;have:=W.out;omega,by obtain⟨cur,hc⟩:=aO C n;exact⟨_,_,hc⟩⟩⟩;have Q:Hid (eR w (.slice G p.addrs.length H)):=O (fun i n=>by have:=aU C n;have:=W.out;omega);have P:=O (fun(i:Nat) (n:(Value.slice G p.addrs.length H).ownBlock=some i)=>show ¬i=b1/\¬i=Y from⟨fun e=>by have:=aU C n;have:=V.2;omega,fun e=>by have:=aU C n;have:=V.1;omega⟩);have J:=O (b.blk (d.b 1) id);have K:=O (b.blk (d.b 0) id);have HG:=O (And.intro (d.lt 1).1 (d.lt 0).1);have N:Hid (b1≠Y):=O (fun e=>bJ (i:=0) d.nd rfl 1 (by decide) rfl e);have HKW:=O (d.keep.trans b);clear C;clear b d f
 go_wp2_with ((with_reducible show WL _ _);refine sta 23 (.tmp 9) (.tmp 7) b1 0 [.slice G p.addrs.length H] J.out (by rw[List.size_toArray,X];simp) (by kernel_rfl) (one9) ?_)
 intro w6 b E;rw[←R.out,N3] at E;have q:=O (eM E);have s:=O (b.blk K.out N.symm);have z:=O (D.keepT b (fun i n=>(P.out i n).1));have M:=O (HKW.trans' b (fun _ _ h=>h) (U:=aB) (fun i n e=>by have:=HG.1;omega));clear b E J K;have o:=aJ (v:=.slice G p.addrs.length H) A.out;obtain⟨Z,m⟩:∃l,aE (.slice G p.addrs.length H) p=l:=⟨_,rfl⟩
 have HOQ:Hid (∀u∈Z,u.oneCell'=true):=O (by rw[←m];exact aT D.pt);have HQC:=O m;rw[m] at o q;clear m D
 go_wp2_with ((with_reducible show WL _ _);first
  | refine wpList_load_mid rfl 27 (.tmp 10) rfl b1 0 rfl Z _ q.out aH rfl (szP9 o) ?_
  | refine sta 27 (.tmp 2) (.tmp 11) Y 0 Z s.out (by rw[List.size_toArray,aG,o];omega) (szP9 o) HOQ.out ?_)
 intro w8 b E;rw[aK _ _ (by rw[List.size_toArray,aG,o])] at E;have HP:Hid (tF w B p (.returned (.tuple #[.agg Z.toArray,.bool true])) w8):=O ⟨_,by rw[←HQC.out],z.keepT b (fun i n=>(P.out i n).2),Q.out,M.trans' b (fun _ _ h=>h) (fun i n e=>by have:=HG.2;omega)⟩;have HB8:=O E;clear b E q s z M;go_wp2_with fail;refine bodyPost_ret (bN rfl _ _ Y _ _ _ _ rfl HB8.out aH rfl (by rw[List.size_toArray,o];exact dM)) rfl ?_;exact HP.out
theorem wX(L:KI w c S B)(pv:Value)(p:Pt)(A:PtV w pv p)(R:p.root=true)(N:w.heap[g]?=some (.cells (aE pv p).toArray 27 (0,0))):Calls Tryz.prog 39 #[.pointer c,.slice g 1 1] w (aN w (.int .i64 0)):=by
 have D:=O (by have:=L.bd.c1;omega:¬((S.cp:Nat):Int)=0);have H:=O L;have r:=O A;have U:=O R;have d:=aJ (v:=pv) A.sum;have n:=aT A;obtain⟨C,h⟩:∃l,aE pv p=l:=⟨_,rfl⟩
 have J:Hid (∀u∈C,u.oneCell'=true):=O (by rw[←h];exact n);have K:=O h;rw[h] at d N;have E:=O N;have s:=r;have F:=E;clear n h N A R L;have j:=lN w;go_in;go_wp2_with fail;refine((KI.copies H.out:Calls _ _ _ w (aN w (.int .i64 (S.cp:Int))))).mono ?_;rintro e Z ⟨rfl,f⟩;replace j:=kL j f;replace H:=O (KI.keep0 H.out f);replace r:=O (r.keep f fun _ _=>id);replace E:=O (f.blk E.out id);clear f;have q:=D.out;have W:decide (((S.cp:Nat):Int)=0)=false:=decide_eq_false q;have X:(((S.cp:Nat):Int) == 0)=false:=by rw[beq_eq_false_iff_ne];exact q
 go_wp2_with fail
 go_loopw [13] (fun i wr=>∃k:Nat,k≤1/\i=.int .i64 (k:Int)/\Hid (aA aB w wr)) (fun i _=>1-(intOf i).toNat)
 case atStart=>exact⟨0,by omega,rfl,O j.keep⟩
 case round =>
 clear j;obtain⟨k,f,rfl,m⟩:=hrel
 by_cases V:k<1
 ·obtain rfl:k=0:=by omega
  have j:=lN wr;have b:=O (s.keep m.out fun _ _=>id);have G:=O (m.blk F.out id)
  go_wp2_with ((with_reducible show WL _ _);first
   | refine wpList_load_mid rfl 27 (.tmp 15) rfl g 0 rfl C _ (aD G.out) aH rfl (szP9 d) ?_
   | refine al 27 (.agg aI.toArray) (aI.toArray) bK ?_)
  intro Q wl y z o
  go_wp2_with ((with_reducible show WL _ _);refine sta 27 (.tmp 6) (.tmp 16) Q 0 C o (by first|decide|(rw[List.size_toArray,d];exact Nat.le_refl _)|simp[d,aG]) (szP9 d) J.out ?_)
  intro P f M;rw[aK _ _ (by first|rfl|(rw[List.size_toArray,d];rfl)|simp[d,aG])] at M;replace f:=tX z f (fun i Y e=>by omega);replace j:=lW j y f M;replace b:=O (b.keep f fun _ _=>id);clear y f M z o
  go_wp2_with ((with_reducible show WL _ _);refine wpList_load_mid rfl 27 (.tmp 6) rfl Q 0 rfl C _ (aD (j.b 0)) aH rfl (szP9 d) ?_)
  refine((by rw[←K.out];exact wU P pv p b.out U.out:Calls _ _ _ P (aN P (.int .i64 0)))).mono ?_;rintro e wn ⟨rfl,f⟩;replace j:=kL j f;replace b:=O (b.keep f fun _ _=>id);clear f;have I:=O (m.trans j.keep);go_wp2
  go_roundw
  case rel=>exact⟨1,by omega,by go_num,I⟩
  case measure=>simp[intOf]
 ·obtain rfl:k=1:=by omega
  go_wp2;go_ret;exact⟨rfl,m.out⟩
abbrev nwV(g:Nat):Value:=.func (.func 68) #[] #[.pointer g]
abbrev owV:Value:=.func (.func 36) #[] #[]
abbrev dnV(d b7 b11 b b12:Nat):Value:=.func (.func 67) #[] #[.pointer d,.pointer b7,.pointer b11,.pointer b,.pointer b12]
structure Thr(B:Nat->Prop)(N0 c g:Nat)(x:Int)(b6 b7 b11 b4 b12:Nat)(w:World):Prop where
 cg:w.heap[g]?=some (.cells #[.int .i64 x] 3 (0,0))
 c6:w.heap[b6]?=some (.cells #[nwV g] 85 (0,0))
 c7:w.heap[b7]?=some (.cells #[owV] 87 (0,0))
 c4:w.heap[b4]?=some (.cells #[.pointer (some ⟨c,0,none⟩)] 39 (0,0))
 c12:w.heap[b12]?=some (.cells #[dnV b6 b7 b11 b4 b12] 132 (0,0))
 lt:∀i,i=g\/i=b6\/i=b7\/i=b4\/i=b12->i<N0/\i≠b11
 l11:b11<N0/\¬B b11
theorem Thr.keep{d b:Nat}(h:Thr B N0 c g x d b7 b11 b b12 w)(k:aA T w w')(j:∀i,T i->i=b11\/N0≤i):Thr B N0 c g x d b7 b11 b b12 w':=by
 have q:∀i,i=g\/i=d\/i=b7\/i=b\/i=b12->¬T i:=fun i m e=>by
  obtain⟨n,f⟩:=h.lt i m;exact(j i e).elim f fun o=>by omega
 exact⟨k.blk h.cg (q _ (.inl rfl)),k.blk h.c6 (q _ (.inr (.inl rfl))),k.blk h.c7 (q _ (.inr (.inr (.inl rfl)))),k.blk h.c4 (q _ (.inr (.inr (.inr (.inl rfl))))),k.blk h.c12 (q _ (.inr (.inr (.inr (.inr rfl))))),h.lt,h.l11⟩
structure jV(N0 b11:Nat)(w:World)(v:Value)(ps:List (Value×Pt)):Prop where
 cell:w.heap[b11]?=some (.cells #[v] 22 (0,0))
 row:w.ownsRow N0 27 35 v ps.length (ps.flatMap fun x=>aE x.1 x.2)
 at_:∀x∈ps,PtV w x.1 x.2/\∀i,x.1.ownBlock=some i->N0≤i/\v.ownBlock≠some i/\IsC w i
theorem jV.keep(h:jV N0 b11 w v ps)(k:aA T w w')(e:¬T b11)(j:∀i,v.ownBlock=some i->¬T i)(f:∀x∈ps,∀i,x.1.ownBlock=some i->¬T i):jV N0 b11 w' v ps:=
 ⟨k.blk h.cell e,k.owns h.row j,fun x b=>⟨(h.at_ x b).1.keep k (f x b),fun i d=>⟨((h.at_ x b).2 i d).1,((h.at_ x b).2 i d).2.1,IsC.keep ((h.at_ x b).2 i d).2.2 k (f x b i d)⟩⟩⟩
theorem jV.keep0(h:jV N0 b11 w v ps)(k:aA aB w w'):jV N0 b11 w' v ps:=h.keep k id (fun _ _=>id) fun _ _ _ _=>id
def qA(N0 b11:Nat)(x:Int)(l:Nat)(t:Tr)(a:Nat)(v:Value)(ps:List (Value×Pt))(w:World)(e:Ending)(w':World):Prop:=
 ∃b qs,e=.returned (.int .i64 0)/\jV N0 b11 w' b (ps++qs)/\qs.map (·.2)=(thr (bF x) l t a).map (·.1)/\(∀i,b.ownBlock=some i->v.ownBlock=some i\/w.heap.size≤i)/\aA (fun i=>i=b11\/v.ownBlock=some i) w w'
theorem LB(h:t.isHole=true\/decide (x<t.ptr.birth)=false):thr (bF x) l t a=[]:=by
 have e:(t.isHole || !bF x t.ptr)=true:=by
  rcases h with h|h
  ·rw[h];rfl
  ·show (t.isHole || !(decide (x<t.ptr.birth)))=true
   rw[h];simp
 cases l with
 | zero=>rw[gZ,if_pos e]
 | succ l=>rw[hE,if_pos e]
theorem lY(U:KI w c S B)(W:Thr B N0 c g x q6 q7 q11 q4 q12 w)(V:jV N0 q11 w v ps)(pv:Value)(t:Tr)(l a:Nat)(X:Tr.Ok S l t)(A:bC w B pv t.ptr)(H:t.isHole=true\/decide (x<t.ptr.birth)=false):Calls Tryz.prog 67 #[.agg (dR pv t.ptr (a:Int)).toArray,.int .i64 (l:Int),.pointer q6,.pointer q7,.pointer q11,.pointer q4,.pointer q12] w (qA N0 q11 x l t a v ps w):=by
 have q:=O W;have o:=O V;have R:=O U;have D:=O (LB (a:=a) (l:=l) H);have E:=O X.hole_eq;obtain⟨p,N⟩:∃p,t.ptr=p:=⟨_,rfl⟩
 rw[N] at A H E ⊢;have d:=O A;have C:=aJ (v:=pv) A.pt.sum;have y:=aT A.pt;have M:=jS (v:=pv) (a:=(a:Int)) A.pt.sum;have s:=jT (a:=(a:Int)) A.pt;obtain⟨P,m⟩:∃l,aE pv p=l:=⟨_,rfl⟩
 obtain⟨Y,j⟩:∃l,dR pv p (a:Int)=l:=⟨_,rfl⟩
 have HOP:Hid (∀u∈P,u.oneCell'=true):=O (by rw[←m];exact y);have Z:Hid (∀u∈Y,u.oneCell'=true):=O (by rw[←j];exact s);have r:=O m;have F:=O j;rw[m] at C;rw[j] at M ⊢;have HS:=O H;clear y s m j A W V U X H;have n:=lN w;go_in
 go_wp2_with ((with_reducible show WL _ _);refine bxL n 90 (.tmp 0) (Y.toArray) ?_)
 intro b7 Q f n;replace d:=pK d f;replace q:=O (q.keep f fun _ e=>e.elim);replace o:=O (o.keep0 f);clear f
 go_wp2_with ((with_reducible show WL _ _);refine wpList_load_mid rfl 27 (.tmp 15) rfl b7 0 rfl P _ (by have h:=n.b 0;rw[←F.out] at h;rw[←r.out];exact eM h) aH rfl (szP9 C) ?_)
 refine((by rw[←r.out];exact cL Q pv p d.pt:Calls _ _ _ Q (aX Q p.hole))).mono ?_;rintro e w2 ⟨rfl,f⟩;replace n:=kL n f;replace d:=pK d f;replace q:=O (q.keep f fun _ e=>e.elim);replace o:=O (o.keep0 f);clear f;obtain⟨L,z⟩:∃b,p.hole=b:=⟨_,rfl⟩
 rw[z];have I:=O z;clear z;cases L with
 | true =>
   have K:Hid (qA N0 q11 x l t a v ps w (.returned (.int .i64 0)) w2):=O ⟨v,[],rfl,by rw[List.append_nil];exact o.out,by rw[D.out];rfl,fun i h=>.inl h,n.keep.any⟩;clear n q o d R;go_wp2;go_ret;exact K.out
 | false =>
   have G:=HS.resolve_left (by rw[←E.out,I.out];decide);have J:=O G;clear G;have c1:w2.cell? ⟨q6,0,none⟩=some (nwV g):=(cell_of_one q.c6)
   go_wp2_with ((with_reducible show WL _ _);refine aP (by rfl) 27 (.tmp 20) rfl b7 0 rfl P _ (by have h:=n.b 0;rw[←F.out] at h;rw[←r.out];exact eM h) aH rfl (szP9 C) ?_)
   clear c1;refine((by rw[←r.out];exact kI q.cg pv p d.pt:Calls _ _ _ w2 (aX w2 (decide (x<p.birth))))).mono ?_;rintro e w3 ⟨rfl,f⟩;replace n:=kL n f;replace d:=pK d f;replace q:=O (q.keep f fun _ e=>e.elim);replace o:=O (o.keep0 f);clear f;rw[J.out];have K:Hid (qA N0 q11 x l t a v ps w (.returned (.int .i64 0)) w3):=O ⟨v,[],rfl,by rw[List.append_nil];exact o.out,by rw[D.out];rfl,fun i h=>.inl h,n.keep.any⟩;clear n q o d R;go_wp2;go_ret;exact K.out
theorem wA:(Tryz.prog.info? 90).map (·.size)=some 36:=by kernel_rfl
theorem jV.grow{s:World}{f o:Value}(h:jV N0 b11 w v ps)(D:b11<N0)(F:PtV w f p)(n:∀i,f.ownBlock=some i->N0≤i/\v.ownBlock≠some i/\IsC w i)
 (z:w2.ownsRow N0 27 35 o (ps.length+1) ((ps.flatMap fun x=>aE x.1 x.2)++aE f p)) (k:aA (fun i=>v.ownBlock=some i) w w2) (m:o.ownBlock=v.ownBlock\/o.ownBlock=some w.heap.size) (r:aA (fun i=>i=b11) w2 s) (E:s.heap[b11]?=some (.cells #[o] 22 (0,0))):jV N0 b11 s o (ps++[(f,p)]):=by
 have j:∀x∈ps++[(f,p)],PtV w x.1 x.2/\∀i,x.1.ownBlock=some i->N0≤i/\v.ownBlock≠some i/\IsC w i:=fun x b=>by
  rcases List.mem_append.1 b with b|b
  ·exact h.at_ x b
  ·rw[List.mem_singleton] at b
   subst b;exact⟨F,n⟩
 refine⟨E,?_,fun x b=>?_⟩
 ·have e:((ps++[(f,p)]).flatMap fun x=>aE x.1 x.2)=(ps.flatMap fun x=>aE x.1 x.2)++aE f p:=by rw[List.flatMap_append];simp
  rw[e,List.length_append];exact r.owns z fun i d e=>by have:=aU z d;omega
 ·obtain⟨C,q⟩:=j x b
  refine⟨(C.keep k fun i d=>(q i d).2.1).keep r fun i d e=>by have:=(q i d).1;omega,fun i d=>?_⟩;obtain⟨A,u,y⟩:=q i d;refine⟨A,fun e=>?_,(y.keep k u).keep r fun e=>by omega⟩;rcases m with m|m
  ·exact u (m▸e)
  ·rw[m] at e
   injection e with e
   have:=y.lt;omega
theorem Nb(b:t.isHole=false)(d:decide (x<t.ptr.birth)=true):thr (bF x) 0 t a=[(t.ptr,a)]:=by
 rw[gZ,b];exact if_neg (by show ¬(false || !(decide (x<t.ptr.birth)))=true;rw[d];decide)
theorem DW(hK:KI w c S B)(hT:Thr B N0 c g x q6 q7 q11 q4 q12 w)(hO:jV N0 q11 w v ps)(hN:N0≤w.heap.size)(hps:ps.length≤1000)(pv:Value)(t:Tr)(a:Nat)(Q:bC w B pv t.ptr)(V:t.ptr.addrs.length≤65536)(hh:t.isHole=false)(M:t.ptr.hole=false)(hn:decide (x<t.ptr.birth)=true):Calls Tryz.prog 67 #[.agg (dR pv t.ptr (a:Int)).toArray,.int .i64 0,.pointer q6,.pointer q7,.pointer q11,.pointer q4,.pointer q12] w (qA N0 q11 x 0 t a v ps w):=by
 have o:=O hT;have j:=O hO;have Y:=O (fun i (e:B i)=>hK.lt e);have HNN:=O hN;have HPS:=O hps;have HEQ:=O (Nb (a:=a) hh hn);obtain⟨p,U⟩:∃p,t.ptr=p:=⟨_,rfl⟩
 have HPE:=O U;rw[U] at Q M hn V ⊢;have d:=O Q;have HHP:=O M;have HN1:=O hn;have HPL:=O V;have R:=aJ (v:=pv) Q.pt.sum;have H:=aT Q.pt;have hlc:=jS (v:=pv) (a:=(a:Int)) Q.pt.sum;have G:=jT (a:=(a:Int)) Q.pt;obtain⟨pc,y⟩:∃l,aE pv p=l:=⟨_,rfl⟩
 obtain⟨lc,s⟩:∃l,dR pv p (a:Int)=l:=⟨_,rfl⟩
 have HOP:Hid (∀u∈pc,u.oneCell'=true):=O (by rw[←y];exact H);have HOL:Hid (∀u∈lc,u.oneCell'=true):=O (by rw[←s];exact G);have F:=O y;have L:=O s;rw[y] at R;rw[s] at hlc ⊢;clear H G y s Q hT hO hh M hn hN hps V U hK;have f:=lN w;go_in
 go_wp2_with ((with_reducible show WL _ _);refine bxL f 90 (.tmp 0) (lc.toArray) ?_)
 intro b7 w1 b f;replace d:=pK d b;replace o:=O (o.keep b fun _ e=>e.elim);replace j:=O (j.keep0 b);clear b
 go_wp2_with ((with_reducible show WL _ _);refine wpList_load_mid rfl 27 (.tmp 15) rfl b7 0 rfl pc _ (by have h:=f.b 0;rw[←L.out] at h;rw[←F.out];exact eM h) aH rfl (szP9 R) ?_)
 refine((by rw[←F.out];exact cL w1 pv p d.pt:Calls _ _ _ w1 (aX w1 p.hole))).mono ?_;rintro e w2 ⟨rfl,b⟩;replace f:=kL f b;replace d:=pK d b;replace o:=O (o.keep b fun _ e=>e.elim);replace j:=O (j.keep0 b);clear b;rw[HHP.out];have c1:w2.cell? ⟨q6,0,none⟩=some (nwV g):=(cell_of_one o.c6)
 go_wp2_with ((with_reducible show WL _ _);refine aP (by rfl) 27 (.tmp 20) rfl b7 0 rfl pc _ (by have h:=f.b 0;rw[←L.out] at h;rw[←F.out];exact eM h) aH rfl (szP9 R) ?_)
 clear c1;refine((by rw[←F.out];exact kI o.cg pv p d.pt:Calls _ _ _ w2 (aX w2 (decide (x<p.birth))))).mono ?_;rintro e w3 ⟨rfl,b⟩;replace f:=kL f b;replace d:=pK d b;replace o:=O (o.keep b fun _ e=>e.elim);replace j:=O (j.keep0 b);clear b;rw[HN1.out];have c1:w3.cell? ⟨q7,0,none⟩=some (owV):=(cell_of_one o.c7)
 go_wp2_with ((with_reducible show WL _ _);refine wpList_load_mid rfl 90 (.tmp 7) rfl b7 0 rfl lc _ (aD (f.b 0)) Tryz.underlying90 rfl (by rw[hlc];exact wA) ?_)
 clear c1;have HSW:=O f.keep.size;refine((by rw[←L.out];exact DS (B:=B) (fun k b=>Nat.lt_of_lt_of_le (Y.out k b) f.keep.size) pv p d.pt HPL.out (a:Int):Calls _ _ _ w3 (tF w3 B p))).mono ?_;rintro e w4 ⟨v1,rfl,z,E,b⟩;have C:Hid (PtV w4 v1 p):=O z.pt;have m:Hid (∀i,v1.ownBlock=some i->N0≤i/\v.ownBlock≠some i/\IsC w4 i):=O (fun i q=>⟨by have h1:=E i q;have h2:=HNN.out;have h3:=HSW.out;omega,fun e=>by (obtain⟨cur,hc⟩:=aO j.row e;have h1:=lt_of_block hc;have h2:=E i q;omega),(z.off i q).2⟩);obtain⟨rc,HRC,r,HOR⟩:=nmPt z.pt;rw[HRC.out];clear z E;replace f:=kL f b;replace d:=pK d b;replace o:=O (o.keep b fun _ e=>e.elim);replace j:=O (j.keep0 b);clear b
 go_wp2_with ((with_reducible show WL _ _);refine al 27 (.agg aI.toArray) (aI.toArray) bK ?_)
 intro b10 w5 D hk0 J
 go_wp2_with ((with_reducible show WL _ _);refine sta 27 (.tmp 10) (.tmp 29) b10 0 rc J (by first|decide|(rw[List.size_toArray,r];exact Nat.le_refl _)|simp[r,aG]) (szP9 r) HOR.out ?_)
 intro w6 b A;rw[aK _ _ (by first|rfl|(rw[List.size_toArray,r];rfl)|simp[r,aG])] at A;replace b:=tX hk0 b (fun i q e=>by omega);replace f:=lW f D b A;replace d:=pK d b;replace o:=O (o.keep b fun _ e=>e.elim);replace j:=O (j.keep0 b);replace C:=O (C.keep b fun _ _=>id);replace m:=O (fun i q=>And.intro (m.out i q).1 (And.intro (m.out i q).2.1 ((m.out i q).2.2.keep b id)));clear D b A hk0 J;have c1:w6.cell? ⟨q11,0,none⟩=some (v):=(cell_of_one j.cell)
 go_wp2_with ((with_reducible show WL _ _);first
  | refine wpList_load_mid rfl 27 (.tmp 10) rfl b10 0 rfl rc _ (aD (f.b 0)) aH rfl (szP9 r) ?_
  | refine bsA 22 27 (.tmp 33) Tryz.underlying22 oF (by omega) rc r (by omega) ?_)
 clear c1;intro b34 w7 D b A;have HRN:Hid (Rd w7 35 (.slice b34 1 1) 1 rc):=O (dE (n:=1) (size:=35) A (by rw[r]) (by unfold maxLen;omega));replace f:=lW f D b A;replace d:=pK d b;replace o:=O (o.keep b fun _ e=>e.elim);replace j:=O (j.keep0 b);replace C:=O (C.keep b fun _ _=>id);replace m:=O (fun i q=>And.intro (m.out i q).1 (And.intro (m.out i q).2.1 ((m.out i q).2.2.keep b id)));clear D b A;have HLN:=O (show N0≤w7.heap.size from Nat.le_trans HNN.out f.keep.size);have I:Hid (ps.length+1≤maxLen/\(ps.length+1)*72≤140737488355328):=O (by have:=HPS.out;unfold maxLen;omega)
 go_wp2_with (at_builtin;refine aL rfl (.tmp 32) (.tmp 34) 22 rfl N0 27 (.agg aI.toArray) 35 72 Tryz.underlying22 oF rfl (by decide) v ps.length (ps.flatMap fun x=>aE x.1 x.2) rfl j.row (.slice b34 1 1) 1 rc rfl HRN.out HOR.out I.1 I.2 HLN.out ?_)
 intro v2 w8 P N hn5 hb5;obtain⟨g2,c2,rfl,-,-⟩:=(Rd.of_owns P).form;have W:=O (N.blk j.cell fun e=>by have h1:=aU j.row e;have h2:=o.l11.1;omega);have HO5:=O P;have K:=O N;have X:=O hb5;have Z:=O f.keep;clear P N hn5 hb5 HRN
 go_wp2_with ((with_reducible show WL _ (.store 22 _ _));refine sta 22 (.tmp 4) (.tmp 35) q11 0 [.slice g2 (ps.length+1) c2] W.out (by simp) (by kernel_rfl) (by intro u hu;rw[List.mem_singleton] at hu;subst hu;rfl) ?_)
 intro w9 b A;replace A:w9.heap[q11]?=some (.cells #[.slice g2 (ps.length+1) c2] 22 (0,0)):=A
 have HP:Hid (qA N0 q11 x 0 t a v ps w (.returned (.int .i64 0)) w9):=O (by
  refine⟨_,[(v1,p)],rfl,j.grow o.l11.1 C.out m.out (by rw[HRC.out];exact HO5.out) K.out X.out b A,by rw[HEQ.out,←HPE.out];rfl,fun i q=>?_,?_⟩
  ·rcases X.out with e|e
   ·exact .inl (e▸q)
   ·rw[e] at q
    injection q with q
    have:=Z.size;exact .inr (by omega)
  ·exact((Z.any.trans' K.out (fun _ _ h=>h) (fun i _ e=>.inr e)).trans' b (fun _ _ h=>h) (fun i _ e=>.inl e)))
 clear f j o d b A K HO5 W;go_wp2;go_ret;exact HP.out
def N4(B:Nat->Prop)(S:Kor)(c N0 g q6 q7 q11 q4 q12:Nat)(x:Int)(l:Nat):Prop:=∀(w:World) (v:Value) (ps:List (Value×Pt)) (pv:Value) (t:Tr) (a:Nat),KI w c S B->Thr B N0 c g x q6 q7 q11 q4 q12 w->jV N0 q11 w v ps->N0≤w.heap.size->ps.length+(thr (bF x) l t a).length≤1000->a+4 ^ l≤64->Tr.Ok S l t->bC w B pv t.ptr->(∀i,pv.ownBlock=some i->i≠q11/\v.ownBlock≠some i) ->
 Calls Tryz.prog 67 #[.agg (dR pv t.ptr (a:Int)).toArray,.int .i64 (l:Int),.pointer q6,.pointer q7,.pointer q11,.pointer q4,.pointer q12] w (qA N0 q11 x l t a v ps w)
theorem Loc.onto{S:Nat->Prop}{w0:World}{l:List (Nat×Array Value×TypeId)}(h:Loc aB B w0 w l)(k:aA S w w')(d:∀x∈l,¬S x.1):Loc S B w0 w' l:=
 ⟨h.keep.trans' k (fun _ _ e=>e.elim) (fun _ _ e=>e),h.ge,h.nd,fun x b=>k.blk (h.at_ x b) (d x b),h.ap⟩
theorem DX{f:Pt->Bool}(d:t.isHole=false)(b:f t.ptr=true):thr f (l+1) t a=(t.ptr,a)::(List.range 4).flatMap fun i=>thr f l (t.kid i) (a+i*4 ^ l):=by
 rw[hE,d,b];rfl
structure tG(w:World)(B:Nat->Prop)(S:Kor)(c N0 g q6 q7 q11 q4 q12:Nat)(x:Int)(b7 b12 l:Nat)(t:Tr)(a:Nat)(pv v:Value)(ps:List (Value×Pt))(vs:Nat->Value)(k:Nat)(wr:World)(vk:Value)(qs:List (Value×Pt)):Prop where
 ki:KI wr c S B
 th:Thr B N0 c g x q6 q7 q11 q4 q12 wr
 out:jV N0 q11 wr vk (ps++qs)
 eq:qs.map (·.2)=((t.ptr,a)::(List.range k).flatMap fun i=>thr (bF x) l (t.kid i) (a+i*4 ^ l)).map (·.1)
 old:cI wr B vs (fun i=>(t.kid i).ptr)
 off:∀q,q<4->∀i,(vs q).ownBlock=some i->i≠q11/\vk.ownBlock≠some i
 h7:wr.heap[b7]?=some (.cells (dR pv t.ptr (a:Int)).toArray 90 (0,0))
 h12:wr.heap[b12]?=some (.cells (cH ((l+1:Nat):Int) vs (fun i=>(t.kid i).ptr)).toArray 98 (0,0))
 own:∀i,vk.ownBlock=some i->(v.ownBlock=some i\/w.heap.size≤i)/\i≠b7/\i≠b12
 ge:N0≤b7/\N0≤b12/\N0≤w.heap.size
 keep:aA (fun i=>i=q11\/v.ownBlock=some i) w wr
theorem tG.len
 (h:tG w B S c N0 g q6 q7 q11 q4 q12 x b7 b12 l t a pv v ps vs k wr vk qs) (m:k<4) (j:ps.length+(thr (bF x) (l+1) t a).length≤1000) (f:t.isHole=false) (d:bF x t.ptr=true):(ps++qs).length+(thr (bF x) l (t.kid k) (a+k*4 ^ l)).length≤1000:=by
 have e:=congrArg List.length h.eq;rw[List.length_map,List.length_map,List.length_cons] at e;rw[DX f d,List.length_cons] at j
 have b:((List.range (k+1)).flatMap fun i=>thr (bF x) l (t.kid i) (a+i*4 ^ l)).length≤((List.range 4).flatMap fun i=>thr (bF x) l (t.kid i) (a+i*4 ^ l)).length:=by
  have:∃r,(List.range 4)=List.range (k+1)++r:=by
   have:k=0\/k=1\/k=2\/k=3:=by omega
   rcases this with rfl|rfl|rfl|rfl<;>exact⟨_,rfl⟩
  obtain⟨r,e⟩:=this;rw[e,List.flatMap_append,List.length_append];omega
 rw[List.range_succ,List.flatMap_append,List.length_append] at b;simp only[List.flatMap_cons,List.flatMap_nil,List.append_nil] at b;rw[List.length_append];omega
theorem tG.step{y:World}{e:Ending}
 (h:tG w B S c N0 g q6 q7 q11 q4 q12 x b7 b12 l t a pv v ps vs k wr vk qs) (F:∀i,B i->i<N0) (r:aA aB wr y) (I:qA N0 q11 x l (t.kid k) (a+k*4 ^ l) vk (ps++qs) y e w2):e=.returned (.int .i64 0)/\aA (fun i=>i=q11\/vk.ownBlock=some i) y w2/\∃u s,tG w B S c N0 g q6 q7 q11 q4 q12 x b7 b12 l t a pv v ps vs (k+1) w2 u s:=by
 obtain⟨u,K,G,J,f,D,C⟩:=I;have j:∀i,vk.ownBlock=some i->N0≤i:=fun i b=>aU h.out.row b
 have n:=h.th.l11;have d:aA (fun i=>i=q11\/vk.ownBlock=some i) wr w2:=r.trans' C (fun _ _ h=>h.elim) (fun _ _ h=>h);have o:∀i,(∃q,q<4/\(vs q).ownBlock=some i)->i<wr.heap.size:=fun i ⟨q,f,b⟩=>((h.old q f).off i b).2.lt
 have E:=lt_of_block h.h7;have z:=lt_of_block h.h12;have H:=h.ge
 have m:∀q,q<4->∀i,(vs q).ownBlock=some i->¬(i=q11\/vk.ownBlock=some i):=fun q f i b e=>by
  have:=h.off q f i b;exact e.elim this.1 this.2
 refine⟨G,C,u,qs++K,h.ki.keepT d fun i b A=>?_,h.th.keep d fun i b=>b.imp id (j i),by rw[←List.append_assoc];exact J,?_,h.old.keepT d m,fun q f i b=>⟨(h.off q f i b).1,fun e=>?_⟩,d.blk h.h7 fun e=>?_,d.blk h.h12 fun e=>?_,fun i b=>?_,H,h.keep.trans' d (fun _ _ h=>h) fun i b e=>?_⟩
 ·rcases b with rfl|b
  ·exact n.2 A
  ·have:=j i b;have:=F i A;omega
 ·rw[List.map_append,h.eq,f,←List.map_append,List.range_succ,List.flatMap_append]
  simp only[List.flatMap_cons,List.flatMap_nil,List.append_nil,List.cons_append]
 ·rcases D i e with e|e
  ·exact(h.off q f i b).2 e
  ·have:=o i ⟨q,f,b⟩;have:=r.size;omega
 ·rcases e with e|e
  ·omega
  ·exact(h.own _ e).2.1 rfl
 ·rcases e with e|e
  ·omega
  ·exact(h.own _ e).2.2 rfl
 ·rcases D i b with e|e
  ·exact h.own i e
  ·have:=r.size;have:=h.keep.size
   exact⟨.inr (by omega),by omega,by omega⟩
 ·rcases e with e|e
  ·exact .inl e
  ·exact(h.own i e).1.elim .inr fun e=>absurd b (by omega)
theorem tG.fin
 (h:tG w B S c N0 g q6 q7 q11 q4 q12 x b7 b12 l t a pv v ps vs 4 wr vk qs) (d:t.isHole=false) (b:bF x t.ptr=true) (k:aA aB wr w'):qA N0 q11 x (l+1) t a v ps w (.returned (.int .i64 0)) w':=
 ⟨vk,qs,rfl,h.out.keep0 k,by rw[DX d b];exact h.eq,fun i f=>(h.own i f).1,h.keep.trans' k (fun _ _ h=>h) (fun _ _ e=>e.elim)⟩
end
end Go.Proofs.YtiinnfhjpaeffaaGreat
