import Derived.Test.YtiinnfhjpaeffaaGreatU29
namespace Go.Proofs.YtiinnfhjpaeffaaGreat
open Tryz
set_option maxHeartbeats 0
set_option maxRecDepth 100000
set_option linter.unusedVariables false
section
open Go.RowKit Go.Maps Go.ChangeMaps
variable{S T U:Kor}{t:Tr}{v pv:Value}{w w' W0:World}{c b4 b5 b6 b10 b12 l k:Nat}{B B':Nat->Prop}{f g:Int}{vs vs':Nat->Value}{ch:Bool}{K:Nat->Tr}
theorem Tr.Ok.may3(h:Tr.Ok S 3 t):t.ptr.may=true:=by
 cases t with
 | hole=>exact kN jM
 | leaf p b=>exact h.elim
 | node p k=>exact h.1.may
theorem sK{P:Program}{b:Array Oper}{S:World->Prop}{op:Oper}{a:Act}(e:Region.wanted op (yielded b a.tmps)=true)(t:TypeId)(d:op.op=.build t #[])(h:∀w,(Instr.build t #[]).run P w=.ok v w):YieldsIf P b S op v a:=
 .inl ⟨e,fun w _=>by
  unfold execOp;simp only[d,Sem.run_bind,Sem.run_pure];rw[show (#[]:Array (Nat×Operand)).map (fun p=>(p.1,a.eval p.2))=#[] by simp,h w];rfl⟩
theorem Bx:∀u∈aH,u.oneCell'=true:=cK zPt
theorem KY(hK:KI w c S B)(pv:Value)(t:Tr)(ht:Tr.Ok S 3 t)(hp:aX w B pv t.ptr)(n:Nat)(hn:n<64)(vv:Value)(bs:List UInt8)(qi:bs.length=256)(hr:Rd w 1 vv 256 (bs.map vb))(qk:∀i,vv.ownBlock=some i->¬B i/\i<w.heap.size)(he:t.blk 3 n=bs):Calls prog 46 #[.pointer c,.agg (aF pv t.ptr).toArray,.int .i64 (n:Int),vv] w (bI w c B (.slice none 0 0) (some t) S):=by
 have qd:Hid ((bC n t 3).blk 0 n=bs):=O (by rw[←E2 ht];exact he);have qo:=O (jY (n:=n) ht 3 (by omega));have HT:=O ht;have HN:=O hn;have qb:=O qi;have qr:=O qk;have d:=O hp;have o:=O hK;have j:=O hr;have qy:=O (fun i (e:B i)=>hK.lt e);have y:=O (fun i (s:pv.ownBlock=some i)=>(hp.off i s).2.lt);have J:=O (by have:=(iL (Tr.Ok.may3 ht)).1;omega:t.ptr.addrs.length≤65536);obtain⟨va,vc,Y,-,-⟩:=hr.form;have q3:=O Y;rw[Y] at j qr ⊢;have q9:¬((n:Int)<0):=by omega
 have za:¬((64:Int)≤(n:Int)):=by omega
 obtain⟨p,X⟩:=zX9 t.ptr
 have C:=O X;rw[X] at d hp J ⊢;obtain⟨pc,I,W,q0⟩:=nmPt hp.pt;rw[I.out];have b:=lN w;clear he hp ht hK X hr qk qi Y;have P:=d;have H:=o;have Q:=j;go_in
 go_wp2_with ((with_reducible show WL _ _);refine bxL b 39 (.tmp 0) (#[.pointer c]) ?_)
 intro b4 w1 a b;replace d:=pK d a;replace o:=O (o.keep0 a);replace j:=O (j.keep a fun _ _=>id);clear a
 go_wp2_with ((with_reducible show WL _ _);refine bxL b 27 (.tmp 1) (pc.toArray) ?_)
 intro b5 w2 a b;replace d:=pK d a;replace o:=O (o.keep0 a);replace j:=O (j.keep a fun _ _=>id);clear a
 go_wp2_with ((with_reducible show WL _ _);refine alL b 27 (.agg aH.toArray) (aH.toArray) bA ?_)
 intro b8 w3 a b;replace d:=pK d a;replace o:=O (o.keep0 a);replace j:=O (j.keep a fun _ _=>id);clear a
 go_wp2_with ((with_reducible show WL _ _);refine alL b 49 (.int .i64 0) (#[.int .i64 0]) lH ?_)
 intro b9 w4 a b;replace d:=pK d a;replace o:=O (o.keep0 a);replace j:=O (j.keep a fun _ _=>id);clear a;have c1:w4.cell? ⟨b4,0,none⟩=some (.pointer c):=(aD (i:=0) (b.b 3) rfl)
 go_wp2_with ((with_reducible show WL _ _);refine wpList_load_mid rfl 27 (.tmp 5) rfl b5 0 rfl pc _ (aC (b.b 2)) aG rfl (szP9 W) ?_)
 clear c1;refine((by rw[←I.out];exact vJ o.out pv p d.pt (by rw[←C.out];exact HT.root):Ka w4 (aK w4 (.int .i64 0)))).mono ?_;rintro e w5 ⟨rfl,a⟩;replace b:=kL b a;replace d:=pK d a;replace o:=O (o.keep0 a);replace j:=O (j.keep a fun _ _=>id);clear a
 go_wp2_with ((with_reducible show WL _ _);refine al 49 (.int .i64 0) (#[.int .i64 0]) lH ?_)
 intro b10 w6 D E x
 go_wp2_with ((with_reducible show WL _ _);refine sta 49 (.tmp 10) (.tmp 18) b10 0 ([.int .i64 0]) x (by first|decide|(rw[List.size_toArray,rfl];exact Nat.le_refl _)|simp[]) (by kernel_rfl) (one9) ?_)
 intro w7 a r;replace r:w7.heap[b10]?=some (.cells #[.int .i64 0] 49 (0,0)):=r;replace a:=tX E a (fun i s e=>by omega);replace b:=lW b D a r;replace d:=pK d a;replace o:=O (o.keep0 a);replace j:=O (j.keep a fun _ _=>id);clear D a r E x;have c1:w7.cell? ⟨b10,0,none⟩=some (.int .i64 0):=(aD (i:=0) (b.b 0) rfl)
 have c2:w7.cell? ⟨b4,0,none⟩=some (.pointer c):=(aD (i:=0) (b.b 4) rfl)
 go_wp2_with ((with_reducible show WL _ _);refine wpList_load_mid rfl 27 (.tmp 5) rfl b5 0 rfl pc _ (aC (b.b 3)) aG rfl (szP9 W) ?_)
 clear c1 c2;have q5:=O b.keep.size;have m:=O (b.lt 0);have qx:=O (b.lt 1);have qw:=O (b.lt 2);refine((by rw[←I.out,←C.out];exact E3 o.out pv t HT.out (by rw[C.out];exact d.out) n HN.out false:Ka w7 (Ck w7 B pv n t false))).mono ?_;rintro e w8 ⟨sv,qv,k,pvs,vss,M,rfl,qt,hM,qa,Z,a⟩;obtain rfl:=qt rfl;obtain⟨sa,qz,qu,qj,-⟩:=(Rd.of_owns qa.row).form;subst qu;have q:=O qa;have u:=O Z;have HM:=O hM;have q1:=O qj;obtain⟨qc,qh,A,qq⟩:=nmPt Z.val.pt;rw[qh.out];clear Z hM qa qj;replace b:=kL b a;replace d:=pK d a;replace o:=O (o.keep0 a);replace j:=O (j.keep a fun _ _=>id);clear a
 go_wp2_with ((with_reducible show WL _ _);refine al 27 (.agg aH.toArray) (aH.toArray) bA ?_)
 intro b12 w9 D E x
 go_wp2_with ((with_reducible show WL _ _);refine sta 27 (.tmp 12) (.tmp 43) b12 0 qc x (by first|decide|(rw[List.size_toArray,A];exact Nat.le_refl _)|simp[A,aE]) (szP9 A) qq.out ?_)
 intro wa a r;rw[aI _ _ (by first|rfl|(rw[List.size_toArray,A];rfl)|simp[A,aE])] at r;replace a:=tX E a (fun i s e=>by omega);replace b:=lW b D a r;replace d:=pK d a;replace o:=O (o.keep0 a);replace j:=O (j.keep a fun _ _=>id);replace q:=O (cS.keep0 q.out a);replace u:=O (fH.keep0 u.out a);clear D a r E x
 go_wp2_with ((with_reducible show WL _ _);refine sta 49 (.tmp 10) (.tmp 44) b10 0 ([.int .i64 0]) (b.b 1) (by simp) (by kernel_rfl) (one9) ?_)
 intro wb a r;replace r:wb.heap[b10]?=some (.cells #[.int .i64 0] 49 (0,0)):=r;replace b:=O (b.set 1 a r);replace d:=O (aX.keep0 P.out b.keep);replace o:=O (H.keep0 b.keep);replace j:=O (Q.keep b.keep fun _ _=>id);replace q:=O (cS.keepT q.out a (fun i s e=>by have:=aU q.row s;have:=m.out;omega) (fun i s e=>by have:=y.out i s;have:=m.out;omega) (fun i s e=>by have:=HM.out;have:=m.out;omega));replace u:=O (fH.keepT u.out a (fun i s e=>by have:=y.out i s;have:=m.out;omega) (fun i s e=>by have:=HM.out;have:=m.out;omega));clear a r;have R:=O (And.intro (b.lt 0) (b.lt 1));have c1:wb.cell? ⟨b10,0,none⟩=some (.int .i64 0):=(aD (i:=0) (b.b 1) rfl)
 have c2:wb.cell? ⟨b4,0,none⟩=some (.pointer c):=(aD (i:=0) (b.b 5) rfl)
 go_wp2_with ((with_reducible show WL _ _);refine wpList_load_mid rfl 27 (.tmp 12) rfl b12 0 rfl qc _ (aC (b.b 0)) aG rfl (szP9 A) ?_)
 clear c1 c2;have qm:=O b.keep.size;refine((by rw[←qh.out];exact Bp o.out qv (bC n t 3) qo.out u.val.pt n:Ka wb (gJ wb ((bC n t 3).blk 0 n)))).mono ?_;rintro e wc ⟨v1,rfl,ho,a⟩;rw[qd.out] at ho;obtain⟨wa,wc,rfl,-,-⟩:=(Rd.of_owns ho).form;have HO:=O ho;have qp:=O (fun i (s:(Value.slice wa 256 wc).ownBlock=some i)=>aU ho s);clear ho;replace b:=kL b a;replace d:=pK d a;replace o:=O (o.keep0 a);replace j:=O (j.keep a fun _ _=>id);replace q:=O (cS.keep0 q.out a);replace u:=O (fH.keep0 u.out a);clear a
 go_wp2_with ((with_reducible show WL _ _);refine sta 49 (.tmp 10) (.tmp 54) b10 0 ([.int .i64 0]) (b.b 1) (by simp) (by kernel_rfl) (one9) ?_)
 intro wd a r;replace r:wd.heap[b10]?=some (.cells #[.int .i64 0] 49 (0,0)):=r;replace b:=O (b.set 1 a r);replace d:=O (aX.keep0 P.out b.keep);replace o:=O (H.keep0 b.keep);replace j:=O (Q.keep b.keep fun _ _=>id);replace q:=O (cS.keepT q.out a (fun i s e=>by have:=aU q.row s;have:=m.out;omega) (fun i s e=>by have:=y.out i s;have:=m.out;omega) (fun i s e=>by have:=HM.out;have:=m.out;omega));replace u:=O (fH.keepT u.out a (fun i s e=>by have:=y.out i s;have:=m.out;omega) (fun i s e=>by have:=HM.out;have:=m.out;omega));replace HO:=O (a.owns HO.out fun i s e=>by have:=qp.out i s;have:=m.out;have:=qm.out;have:=R.out;omega);clear a r;have c1:wd.cell? ⟨b10,0,none⟩=some (.int .i64 0):=(aD (i:=0) (b.b 1) rfl)
 go_wp2_with fail;clear c1;refine(oA wd _ _ bs bs (by rw[qb.out];exact Rd.of_owns HO.out) (by rw[qb.out];exact j.out) true (decide_eq_true rfl)).mono ?_;rintro e we ⟨rfl,rfl⟩
 go_wp2_with ((with_reducible show WL _ _);refine wpList_load_mid rfl 27 (.tmp 5) rfl b5 0 rfl pc _ (aC (b.b 4)) aG rfl (szP9 W) ?_)
 have qn:=O b.keep.size;have qe:=O (And.intro (b.lt 2).2 (b.lt 3).2);refine((by rw[←I.out];exact AE (fun i e=>o.lt e) pv p d.pt J.out:Ka wd (tR wd B p))).mono ?_;rintro e wf ⟨ov,rfl,V,G,a⟩;have z:=O V;have N:=O G;have qf:=O (G.from qn.out);obtain⟨oc,L,F,qg⟩:=nmPt V.pt;rw[L.out];clear V G;replace b:=kL b a;replace d:=pK d a;replace o:=O (o.keep0 a);replace j:=O (j.keep a fun _ _=>id);replace q:=O (cS.keep0 q.out a);replace u:=O (fH.keep0 u.out a);replace HO:=O (a.owns HO.out fun _ _=>id);clear a;clear d j q u HO
 go_wp2_with ((with_reducible show WL _ _);refine sta 27 (.tmp 8) (.tmp 65) b8 0 oc (b.b 3) (by first|decide|(rw[F];exact Nat.le_refl _)|simp[F,aE]) (szP9 F) qg.out ?_)
 intro wg a r;rw[aI _ _ (by first|rfl|simp[F,aE])] at r;replace b:=O (b.set 3 a r);replace o:=O (H.keep0 b.keep);replace z:=O (aX.keepT z.out a (fun i s e=>by have:=N.out i s;have:=qe.out;omega));clear a r
 go_wp2_with ((with_reducible show WL _ _);refine sta 49 (.tmp 9) (.const (.int .i64 0)) b9 0 ([.int .i64 0]) (b.b 2) (by simp) (by kernel_rfl) (one9) ?_)
 intro wh a r;replace r:wh.heap[b9]?=some (.cells #[.int .i64 0] 49 (0,0)):=r;replace b:=O (b.set 2 a r);replace o:=O (H.keep0 b.keep);replace z:=O (aX.keepT z.out a (fun i s e=>by have:=N.out i s;have:=qe.out;omega));clear a r;have ql:=O (b.b 3);have c9:wh.cell? ⟨b9,0,none⟩=some (.int .i64 0):=aD (i:=0) (b.b 2) rfl;have HP:Hid (bI w c B (.slice none 0 0) (some t) S (.returned (.tuple #[.agg oc.toArray,.int .i64 0])) wh):=O ⟨ov,B,by rw[←L.out,←C.out];rfl,by show aX _ B ov t.ptr;rw[C.out];exact z.out,o.out,fun _ h=>.inl h,Cl.refl _ _ _ b.keep,.inr qf.out,b.keep.any⟩;clear b o z;go_wp2_with fail;refine bodyPost_ret (fS rfl _ _ b8 _ _ _ _ rfl ql.out aG rfl (by rw[List.size_toArray,F];exact cC) ⟨b9,0,none⟩ (.int .i64 0) rfl (by go_simp)) rfl ?_;exact HP.out
theorem KZ(hK:KI w c S B)(pv:Value)(t:Tr)(ht:Tr.Ok S 3 t)(hp:aX w B pv t.ptr)(n:Nat)(hn:n<64)(vv:Value)(bs:List UInt8)(jb:bs.length=256)(hr:Rd w 1 vv 256 (bs.map vb))(jo:∀i,vv.ownBlock=some i->¬B i/\i<w.heap.size)(he:¬t.blk 3 n=bs):Calls prog 46 #[.pointer (some ⟨c,0,none⟩),.agg (aF pv t.ptr).toArray,.int .i64 (n:Int),vv] w (bI w c B (.slice none 0 0) (eK 3 S t n bs).1 (eK 3 S t n bs).2):=by
 have ue:Hid ((bC n t 3).blk 0 n=t.blk 3 n):=O (E2 ht).symm;have jx:=O (jY (n:=n) ht 3 (by omega));have vg:=O he;have ua:=O hK.bd;have ud:Hid ((t.blk 3 n).length=256):=O (Tr.Ok.blk_len ht n);have HT:=O ht;have HN:=O hn;have xg:=O jb;have u3:=O jo;have I:=O hp;have HK:=O hK;have L:=O hr;have zq:=O (fun i (e:B i)=>hK.lt e);have q5:=O (fun i (A:pv.ownBlock=some i)=>(hp.off i A).2.lt);have v3:=O (by have:=(iL (Tr.Ok.may3 ht)).1;omega:t.ptr.addrs.length≤65536);obtain⟨va,vc,vw,-,-⟩:=hr.form;have ks:=O vw;rw[vw] at L u3 ⊢;have kx:¬((n:Int)<0):=by omega
 have ky:¬((64:Int)≤(n:Int)):=by omega
 obtain⟨p,vu⟩:=zX9 t.ptr
 have vm:=O vu;rw[vu] at I hp v3 ⊢;obtain⟨pc,vj,jk,kq⟩:=nmPt hp.pt;rw[vj.out];have a:=lN w;clear he hp ht hK vu hr jo jb vw;have z1:=I;have x8:=HK;have z2:=L;refine callsIn_wide.1 (callsIn_of_wp_marks (F:=Fence.wide) (n:=3) func46 rfl trivial (wpIn_wide.2 ?_));simp only[ntmps46,List.size_toArray,List.length_cons,List.length_nil,Nat.reduceAdd,Nat.reduceSub,Array.replicate_succ,Array.replicate_zero,List.push_toArray,List.append_toArray,List.nil_append,List.cons_append]
 go_wp2_with ((with_reducible show WL _ _);refine bxL a 39 (.tmp 0) (#[.pointer (some ⟨c,0,none⟩)]) ?_)
 intro b4 w1 b a;replace I:=pK I b;replace HK:=O (HK.keep0 b);replace L:=O (L.keep b fun _ _=>id);clear b
 go_wp2_with ((with_reducible show WL _ _);refine bxL a 27 (.tmp 1) (pc.toArray) ?_)
 intro b5 w2 b a;replace I:=pK I b;replace HK:=O (HK.keep0 b);replace L:=O (L.keep b fun _ _=>id);clear b
 go_wp2_with ((with_reducible show WL _ _);refine alL a 27 (.agg aH.toArray) (aH.toArray) bA ?_)
 intro b8 w3 b a;replace I:=pK I b;replace HK:=O (HK.keep0 b);replace L:=O (L.keep b fun _ _=>id);clear b
 go_wp2_with ((with_reducible show WL _ _);refine alL a 49 (.int .i64 0) (#[.int .i64 0]) lH ?_)
 intro X w4 b a;replace I:=pK I b;replace HK:=O (HK.keep0 b);replace L:=O (L.keep b fun _ _=>id);clear b;have c1:w4.cell? ⟨b4,0,none⟩=some (.pointer (some ⟨c,0,none⟩)):=(aD (i:=0) (a.b 3) rfl)
 go_wp2_with ((with_reducible show WL _ _);refine wpList_load_mid rfl 27 (.tmp 5) rfl b5 0 rfl pc _ (aC (a.b 2)) aG rfl (szP9 jk) ?_)
 clear c1;refine((by rw[←vj.out];exact vJ HK.out pv p I.pt (by rw[←vm.out];exact HT.root):Ka w4 (aK w4 (.int .i64 0)))).mono ?_;rintro e w5 ⟨rfl,b⟩;replace a:=kL a b;replace I:=pK I b;replace HK:=O (HK.keep0 b);replace L:=O (L.keep b fun _ _=>id);clear b
 go_wp2_with ((with_reducible show WL _ _);refine al 49 (.int .i64 0) (#[.int .i64 0]) lH ?_)
 intro b10 w6 qg qp qd
 go_wp2_with ((with_reducible show WL _ _);refine sta 49 (.tmp 10) (.tmp 18) b10 0 ([.int .i64 0]) qd (by first|decide|(rw[List.size_toArray,rfl];exact Nat.le_refl _)|simp[]) (by kernel_rfl) (one9) ?_)
 intro w7 b C;replace C:w7.heap[b10]?=some (.cells #[.int .i64 0] 49 (0,0)):=C;replace b:=tX qp b (fun i A e=>by omega);replace a:=lW a qg b C;replace I:=pK I b;replace HK:=O (HK.keep0 b);replace L:=O (L.keep b fun _ _=>id);clear qg b C qp qd;have c1:w7.cell? ⟨b10,0,none⟩=some (.int .i64 0):=(aD (i:=0) (a.b 0) rfl)
 have c2:w7.cell? ⟨b4,0,none⟩=some (.pointer (some ⟨c,0,none⟩)):=(aD (i:=0) (a.b 4) rfl)
 go_wp2_with ((with_reducible show WL _ _);refine wpList_load_mid rfl 27 (.tmp 5) rfl b5 0 rfl pc _ (aC (a.b 3)) aG rfl (szP9 jk) ?_)
 clear c1 c2;have u4:=O a.keep.size;have E:=O (a.lt 0);have v8:=O (a.lt 1);have v7:=O (a.lt 2);refine((by rw[←vj.out,←vm.out];exact E3 HK.out pv t HT.out (by rw[vm.out];exact I.out) n HN.out false:Ka w7 (Ck w7 B pv n t false))).mono ?_;rintro e w8 ⟨sv,km,k,pvs,vss,M,rfl,jd,hM,vz,vy,b⟩;obtain rfl:=jd rfl;obtain⟨sa,jq,kj,jl,-⟩:=(Rd.of_owns vz.row).form;subst kj;have H:=O vz;have qq:=O vy;have HM:=O hM;have kr:=O jl;obtain⟨qc,u2,ze,jz⟩:=nmPt vy.val.pt;rw[u2.out];clear vy hM vz jl;have HZ:=O (H.zone HM.out q5.out);replace a:=kL a b;replace I:=pK I b;replace HK:=O (HK.keep0 b);replace L:=O (L.keep b fun _ _=>id);clear b
 go_wp2_with ((with_reducible show WL _ _);refine al 27 (.agg aH.toArray) (aH.toArray) bA ?_)
 intro b12 w9 qg qp qd
 go_wp2_with ((with_reducible show WL _ _);refine sta 27 (.tmp 12) (.tmp 43) b12 0 qc qd (by first|decide|(rw[List.size_toArray,ze];exact Nat.le_refl _)|simp[ze,aE]) (szP9 ze) jz.out ?_)
 intro wa b C;rw[aI _ _ (by first|rfl|(rw[List.size_toArray,ze];rfl)|simp[ze,aE])] at C;replace b:=tX qp b (fun i A e=>by omega);have zg:=O (show w8.heap.size≤b12 from Nat.le_of_eq qg);replace a:=lW a qg b C;replace I:=pK I b;replace HK:=O (HK.keep0 b);replace L:=O (L.keep b fun _ _=>id);replace H:=O (cS.keep0 H.out b);replace qq:=O (fH.keep0 qq.out b);clear qg b C qp qd
 go_wp2_with ((with_reducible show WL _ _);refine sta 49 (.tmp 10) (.tmp 44) b10 0 ([.int .i64 0]) (a.b 1) (by simp) (by kernel_rfl) (one9) ?_)
 intro wb b C;replace C:wb.heap[b10]?=some (.cells #[.int .i64 0] 49 (0,0)):=C;replace a:=O (a.set 1 b C);replace I:=O (aX.keep0 z1.out a.keep);replace HK:=O (x8.keep0 a.keep);replace L:=O (z2.keep a.keep fun _ _=>id);replace H:=O (cS.keepT H.out b (fun i A e=>by have:=aU H.row A;have:=E.out;omega) (fun i A e=>by have:=q5.out i A;have:=E.out;omega) (fun i A e=>by have:=HM.out;have:=E.out;omega));replace qq:=O (fH.keepT qq.out b (fun i A e=>by have:=q5.out i A;have:=E.out;omega) (fun i A e=>by have:=HM.out;have:=E.out;omega));clear b C;have x6:=O (And.intro (a.lt 0) (a.lt 1));have c1:wb.cell? ⟨b10,0,none⟩=some (.int .i64 0):=(aD (i:=0) (a.b 1) rfl)
 have c2:wb.cell? ⟨b4,0,none⟩=some (.pointer (some ⟨c,0,none⟩)):=(aD (i:=0) (a.b 5) rfl)
 go_wp2_with ((with_reducible show WL _ _);refine wpList_load_mid rfl 27 (.tmp 12) rfl b12 0 rfl qc _ (aC (a.b 0)) aG rfl (szP9 ze) ?_)
 clear c1 c2;have uf:=O a.keep.size;refine((by rw[←u2.out];exact Bp HK.out km (bC n t 3) jx.out qq.val.pt n:Ka wb (gJ wb ((bC n t 3).blk 0 n)))).mono ?_;rintro e wc ⟨v1,rfl,ho,b⟩;rw[ue.out] at ho;obtain⟨wa,wc,rfl,-,-⟩:=(Rd.of_owns ho).form;have HO:=O ho;have uu:=O (fun i (A:(Value.slice wa 256 wc).ownBlock=some i)=>aU ho A);clear ho;replace a:=kL a b;replace I:=pK I b;replace HK:=O (HK.keep0 b);replace L:=O (L.keep b fun _ _=>id);replace H:=O (cS.keep0 H.out b);replace qq:=O (fH.keep0 qq.out b);clear b
 go_wp2_with ((with_reducible show WL _ _);refine sta 49 (.tmp 10) (.tmp 54) b10 0 ([.int .i64 0]) (a.b 1) (by simp) (by kernel_rfl) (one9) ?_)
 intro wd b C;replace C:wd.heap[b10]?=some (.cells #[.int .i64 0] 49 (0,0)):=C;replace a:=O (a.set 1 b C);replace I:=O (aX.keep0 z1.out a.keep);replace HK:=O (x8.keep0 a.keep);replace L:=O (z2.keep a.keep fun _ _=>id);replace H:=O (cS.keepT H.out b (fun i A e=>by have:=aU H.row A;have:=E.out;omega) (fun i A e=>by have:=q5.out i A;have:=E.out;omega) (fun i A e=>by have:=HM.out;have:=E.out;omega));replace qq:=O (fH.keepT qq.out b (fun i A e=>by have:=q5.out i A;have:=E.out;omega) (fun i A e=>by have:=HM.out;have:=E.out;omega));replace HO:=O (b.owns HO.out fun i A e=>by have:=uu.out i A;have:=E.out;have:=uf.out;have:=x6.out;omega);clear b C;have c1:wd.cell? ⟨b10,0,none⟩=some (.int .i64 0):=(aD (i:=0) (a.b 1) rfl)
 go_wp2_with fail;clear c1;refine(oA wd _ _ (t.blk 3 n) bs (by rw[ud.out];exact Rd.of_owns HO.out) (by rw[xg.out];exact L.out) false (decide_eq_false vg.out)).mono ?_;rintro e we ⟨rfl,rfl⟩;have c1:wd.cell? ⟨b4,0,none⟩=some (.pointer (some ⟨c,0,none⟩)):=(aD (i:=0) (a.b 5) rfl)
 go_wp2_with fail;clear c1;have vf:=O a.keep;have zv:=O (And.intro (a.lt 0) (And.intro (a.lt 1) (And.intro (a.lt 2) (And.intro (a.lt 3) (a.lt 5)))));refine((DG HK.out (.slice va 256 vc) bs xg.out L.out (fun i A=>(u3 i A).1):Ka wd (bI wd c B (.slice none 0 0) (S.leaf bs).1 (S.leaf bs).2))).mono ?_;rintro e wf ⟨v0,B0,jg,Y,qe,xm,jc,xt,b⟩;obtain⟨vp,z7⟩:=zX9 (fG (S.leaf bs).1)
 rw[z7] at jg;have uj:=O z7;subst jg;replace xt:dQ wd v0:=xt.elim (fun e=>by rw[e];exact dQ.nil _) id;have zb:=O Y;have m:=O qe;have v4:=O xm;have qz:=O jc;have vh:=O xt;have kp:=O b;obtain⟨lc,xv,xr,uw⟩:=nmPt Y.pt;rw[xv.out];clear Y qe jc xt z7;replace H:=O (cS.toB H.out b xm (fun i A e=>by have:=aU H.row A;have:=zq.out i e;have:=u4.out;omega));replace a:=O (((a.wide zq.out).turn b (fun _ _ h=>h)) (fun i A C=>(xm i C).elim id fun e=>by omega));clear b xm HO qq L HK I
 go_wp2_with ((with_reducible show WL _ _);refine sta 27 (.tmp 12) (.tmp 70) b12 0 lc (a.b 0) (by first|decide|(rw[xr];exact Nat.le_refl _)|simp[xr,ze]) (szP9 xr) uw.out ?_)
 intro wg b C;rw[aI _ _ (by first|rfl|simp[xr,ze])] at C;replace a:=O (a.set 0 b C);replace m:=O (KI.keepT m.out b (fun i e j=>by rw[e] at j;first|exact (a.aq 0) j|exact (a.aq 1) j));replace zb:=O (aX.keepT zb.out b (fun i A e=>by have:=vh.out i A;have:=zv.out;omega));replace H:=O (cS.keepZ H.out HZ.out b (fun i e=>by have:=zg.out;have:=E.out;omega));replace qz:=O (Cl.onT qz.out b fun i j e=>by rw[e] at j;first|exact (a.aq 0) j|exact (a.aq 1) j);clear b C
 go_wp2_with ((with_reducible show WL _ _);refine sta 49 (.tmp 10) (.tmp 71) b10 0 ([.int .i64 vp]) (a.b 1) (by simp) (by kernel_rfl) (one9) ?_)
 intro wh b C;replace C:wh.heap[b10]?=some (.cells #[.int .i64 vp] 49 (0,0)):=C;replace a:=O (a.set 1 b C);replace m:=O (KI.keepT m.out b (fun i e j=>by rw[e] at j;first|exact (a.aq 0) j|exact (a.aq 1) j));replace zb:=O (aX.keepT zb.out b (fun i A e=>by have:=vh.out i A;have:=zv.out;omega));replace H:=O (cS.keepZ H.out HZ.out b (fun i e=>by have:=zg.out;have:=E.out;omega));replace qz:=O (Cl.onT qz.out b fun i j e=>by rw[e] at j;first|exact (a.aq 0) j|exact (a.aq 1) j);clear b C;go_wp2_with fail;have v5:=O (fun i (e:B0 i)=>m.lt e);have jt:=O (And.intro (a.lt 0).2 (And.intro (a.lt 1).2 (And.intro (a.lt 2).2 (a.lt 3).2)));refine((M6 (.slice sa 3 jq) wh ⟨_,_,_,rfl⟩)).mono ?_;rintro e wi ⟨B1,rfl,u8,u6,b⟩;have v6:=O u8;have xu:=O u6;clear u8 u6;replace a:=kL a b;replace m:=O (m.keep0 b);replace zb:=pK zb b;replace H:=O (cS.keep0 H.out b);replace qz:=O (Cl.onT qz.out b fun _ _=>id);clear b;go_wp2_with fail;obtain⟨g,kt,cur,jn,x1,vr,x5⟩:=KN H.out (by omega);cases jn
 have kb:=(HZ.sv g rfl).2;have ka:=aU H.row (k:=g) rfl;have u7:=lt_of_block v6.out;have j9:=lt_of_block vr;have kl:=u4.out;have ji:=zg.out;have kg:=zv.out;have u9:=E.out;have j8:=v8.out;have j7:=v7.out;have kf:=jt.out;have ja:=xu.out;have kh:=vf.size;have uq:=O (fun q (j:q<3) p (hp:p<4) i (A:(vss q p).ownBlock=some i)=>(by have:=HZ.vss q j p hp i A;omega:i≠b10/\i≠b12))
 have xf:=IW (Res:=fun i=>B0 i\/i=b8\/i=X\/i=b10\/i=b12\/wi.heap.size≤i) (3-1) (fun x=>fL n t x (pvs x) (vss x)) (fun x hx=>GT H.out hx) x1 v6.out x5 vr
  (by rintro (e|e|e|e|e|e)<;>first|omega|(have:=v5.out _ e;omega)) (by rintro (e|e|e|e|e|e)<;>first|omega|(rcases v4.out _ e with e|e<;>first|omega|(have:=zq.out _ e;omega)))
 have xo:vK wi b8 X b10 b12 c S B0 n t bs 0 wi:=⟨3,v0,B0,rfl,(by have h:=a.b 0;rw[←xv.out] at h;exact h),(by have h:=a.b 1;rw[←uj.out] at h;exact h),zb.out,fun i A=>by (have:=vh.out i A;omega),m.out,fun i h=>.inl h,fun i h=>(Classical.em (IsC wi i)).imp id fun h2=>⟨m.lt h,h,h2⟩,aA.refl _ _⟩
 have zp:Hid (∀i,B0 i->B i\/w.heap.size≤i):=O fun i h=>(v4 i h).imp id fun e=>by omega
 replace a:Hid (Loc B B0 w wi [(b12,lc.toArray,27),(b10,#[.int .i64 vp],49),(X,#[.int .i64 0],49),(b8,aH.toArray,27),(b5,pc.toArray,27),(b4,#[.pointer (some ⟨c,0,none⟩)],39)]):=a;have HG:=O (And.intro xu.out (And.intro (lt_of_block (a.b 0)) (And.intro (lt_of_block (a.b 1)) (And.intro (lt_of_block (a.b 2)) (lt_of_block (a.b 3))))));have vn:=O a.keep.size;have zk:=O (fun q (j:q<3)=>(H.vss q j).1);have zj:=O (fun q (j:q<3)=>(H.pvs q j).1.pt);clear kb ka u7 j9 kl ji kg u9 j8 j7 kf ja kh x1 vr x5 x8 z1 z2 m zb H uf uu HZ;refine wpIn_wide (n:=3).1 ?_;refine Ca rfl (by omega) (gf:=126) rfl trivial (enters_of func126 (by kernel_rfl) rfl) (N:=3) (encs:=DV (fun x=>fL n t x (pvs x) (vss x))) xf (fun _=>rfl) (vK wi b8 X b10 b12 c S B0 n t bs) (E6 wi b8 X b10 b12 c S B0 n t bs) (fun W k=>xo.keep0 k) (fun k W l o hl h ho hc o'=>h.put hl ho hc o') (fun W l o hl h ho hc o'=>h.put hl ho hc o') ?round ?done ?stop
 case round =>
  rintro l k W1 jd hI hl;obtain⟨y',v,B',ke,h12,h10,Y,vx,qe,qo,qv,qm⟩:=hI;obtain⟨y,rfl⟩:∃y,y'=y+1:=⟨y'-1,by omega⟩
  have jf:k+y=2:=by omega
  have zi:y<3:=by omega
  have G:Hid (bS W1 B' (vss y) (fun i=>((bC n t y).kid i).ptr)):=O fun q j=>(zk y zi q j).grow (T:=fun i=>i=b10\/i=b12) qm (fun i A e=>by have:=uq.out y zi q j i A;omega) qo
  have j0:=zj.out y zi;have qu:=O (aJ (v:=pvs y) (zj y zi).sum);have jy:=O (aN (zj y zi));unfold DV;dsimp only;rw[show 2-k=y by omega];obtain⟨⟨r,T⟩,zf⟩:∃q,eK k S (bC n t (y+1)) n bs=q:=⟨_,rfl⟩
  rw[zf] at h12 h10 Y qe;dsimp only at h12 h10 Y qe;have xj:=O zf;have qt:=aJ (v:=v) Y.pt.sum;have q9:=aN Y.pt;obtain⟨uc,qh⟩:=zX9 (aF v (eS r))
  have u0:Hid (∀u∈uc,u.oneCell'=true):=O (by rw[←qh];exact q9);have xl:=O qh;rw[qh] at qt h12;have zt:=O (Loc.round a.out h12 h10 qo zp.out qm);have m:=O qe;have J:=O Y;have z:=O qv;have zo:=O qo;have s:=O qm;have ql:=O (And.intro qm.size hl);have j5:=O (fun i A=>(Y.off i A).2.lt);have jv:=O (fun q (j:q<4) i A=>((G q j).off i A).2.lt);have HX:=O (aA.refl aB W1);obtain⟨R,xq⟩:=zX9 (n / 4 ^ (2-y) % 4)
  have z6:R<4:=by rw[←xq];exact Nat.mod_lt _ (by decide)
  have ui:=O xq
  have qn:(fL n t y (pvs y) (vss y)).length=177:=by
   unfold fL;rw[List.length_append,List.length_append,qu.out,cX _ _ (zk y zi).nv];rfl
  have zy:∀u∈fL n t y (pvs y) (vss y),u.oneCell'=true:=by
   intro u hu;rcases List.mem_append.1 hu with h|h
   ·exact jy.out u h
   ·rcases List.mem_append.1 h with h|h
    ·exact cZ _ (zk y zi).nv u h
    ·rw[List.mem_singleton] at h;subst h;rfl
  have qi:fL n t y (pvs y) (vss y)=aF (pvs y) (bC n t y).ptr++(bU ((k+1:Nat):Int) (vss y) (fun i=>((bC n t y).kid i).ptr)++[.int .i64 (R:Int)]):=by
   unfold fL;rw[xq,show 3-y=k+1 by omega]
  obtain⟨sc,x4⟩:=zX9 (fL n t y (pvs y) (vss y))
  rw[x4] at qn zy qi ⊢;have uz:=O zy;have xk:=O qi;have ku:(0:Int)≤(R:Int):=by omega
  have kw:(R:Int)<4:=by omega
  rw[CV];simp only[List.setIfInBounds_toArray,List.set_cons_zero,List.set_cons_succ];replace a:=zt;clear Y qe qv qo qm h10 h12 xo xf zk zj zy qi x4 xq qh q9 j0 zt zf;rcases r with _|u
  ·replace a:Hid (Loc B B' w W1 [(b12,uc.toArray,27),(b10,#[.int .i64 15],49),(X,#[.int .i64 0],49),(b8,aH.toArray,27),(b5,pc.toArray,27),(b4,#[.pointer (some ⟨c,0,none⟩)],39)]):=a
   refine dB (by kernel_rfl) (fun ⟨_,_,h⟩=>h) ?_
   go_wp2_with ((with_reducible show WL _ _);refine al 166 (.agg jT.toArray) (jT.toArray) Bo ?_)
   intro qb wk qg qp qd
   go_wp2_with ((with_reducible show WL _ _);refine sta 166 (.tmp 15) (.tmp 75) qb 0 sc qd (by first|decide|(rw[List.size_toArray,qn];exact Nat.le_refl _)|simp[qn,iO]) (by rw[qn];exact tU) uz.out ?_)
   intro wl b C;rw[aI _ _ (by first|rfl|(rw[List.size_toArray,qn];rfl)|simp[qn,iO])] at C;replace b:=tX qp b (fun i A e=>by omega);have Z:=O (show W1.heap.size≤qb from Nat.le_of_eq qg);replace a:=O (a.new (fun k h=>m.lt h) qg b C);replace m:=O (m.keep0 b);replace J:=pK J b;replace G:=O (bS.keep0 G.out b);replace z:=O (fun i h=>(z i h).imp (fun c=>c.keep b id) id);replace s:=O (s.trans (aA.any b));replace HX:=O (HX.trans b);clear qg b C qp qd;go_wp2_with fail;refine⟨KpN.of HX.out (fun _ _ h=>h.elim),KpC.of HX.out (fun _ h=>h.elim),fun o o' zh qj=>?_⟩;have kd:=aA.of_grown (grownBy_putObj' wl l o');have no:=fun {i:Nat}(h:IsC wl i)=>oY zh qj h
   have nB:∀i,some l=some i->¬B' i:=fun i e C=>(z i C).elim (fun h=>no h e) fun h=>by have:=h.1;injection e with e;have:=ql.2;omega
   replace a:=O (a.put (o':=o') zh qj (by have:=ql.2;have:=vn.out;omega));replace m:=O (m.keepT kd nB);replace J:=O (J.keepT kd fun i A=>no (J.off i A).2);replace G:=O (G.keepT kd fun q j i A=>no ((G q j).off i A).2);replace z:Hid (∀i,B' i->IsC (wl.putObj l o') i\/i<wi.heap.size/\B0 i/\¬IsC wi i):=O fun i h=>(z i h).imp (fun c=>c.keep kd (no c)) id
   replace s:=O (s.tT kd (fun i A e=>by injection e with e;have:=ql.2;omega));clear HX kd no nB;generalize World.putObj wl l o'=V at a m J G z s ⊢;have ve:=a;have x7:=z;have HX:Hid (aA (fun i=>B' i\/i=b8\/i=X\/i=b10\/i=b12\/i=qb) V V):=O (aA.refl _ _);clear zh qj;refine wpIn_block ?_
   repeat refine wpIn_seq ?_
   refine dB (by kernel_rfl) (fun ⟨_,_,h⟩=>h) ?_;have c1:V.cell? ⟨b10,0,none⟩=some (.int .i64 15):=(aD (i:=0) (a.b 2) rfl)
   go_wp2_with fail;clear c1;refine wpIn_cond_true rfl ?_;refine wpIn_seq ?_;replace s:Hid (aA (fun i=>B0 i\/i=b8\/i=X\/i=b10\/i=b12) wi V):=O ((aA.refl aB wi).trans' s.out (fun _ _ h=>h.elim) (fun i A e=>e.elim .inl fun e=>e.elim (fun e=>.inr (.inr (.inr (.inl e)))) fun e=>.inr (.inr (.inr (.inr e)))));have zs:Hid (∀Wf,Wf.heap[b8]?=some (.cells aH.toArray IY (0,0))->Wf.heap[X]?=some (.cells #[.int .i64 15] IX (0,0))->KI Wf c T B'->(∀i,B' i->IsC Wf i\/i<wi.heap.size/\B0 i/\¬IsC wi i)->aA (fun i=>B0 i\/i=b8\/i=X\/i=b10\/i=b12) wi Wf->E6 wi b8 X b10 b12 c S B0 n t bs Wf):=O fun Wf a1 a2 a3 a4 a5=>⟨T,B',C8 (y:=y+1) (by omega) xj.out,a1,a2,a3,zo.out,a4,a5⟩
   go_wp2_with fail;obtain⟨S,qi⟩:∃S:World->Prop,S=fun w'=>aA (fun k=>k=b8\/k=X) V.drew w':=⟨_,rfl⟩
   have qa:=O (show ∀w',S w'->aA (fun k=>k=b8\/k=X) V.drew w' from fun w' h=>by rw[qi] at h;exact h);have qk:=O (show ∀w',aA (fun k=>k=b8\/k=X) V.drew w'->S w' from fun w' h=>by rw[qi];exact h);have hS:S V.drew:=by rw[qi];exact aA.refl _ _
   have P:=(aA.refl aB V).drew;clear qi;refine mT (by kernel_rfl) (by kernel_rfl) (fun ⟨_,_,h⟩=>h) (wpAny_of_held (S:=S) _ _ _ _ ?_);change wpAnyH _ _ _ _ _ _ _ _ V.drew;generalize V.drew=wm at qa qk hS P ⊢;replace a:=kL a P;replace m:=O (m.keep0 P);replace z:=O (fun i h=>(z i h).imp (fun c=>c.keep P id) id);replace s:=O (s.trans (aA.any P));replace HX:=O (HX.trans (aA.any P));clear P;have qf:=a;have q1:=m;have qy:=z;have q3:=s;have vo:=HX;refine tnd 0 (.agg aH.toArray) rfl (sK (by rfl) 27 rfl kT) hS ?_;refine tnd 1 (.int .i64 15) rfl (.inl ⟨by rfl,fun w' xe=>by have c:World.cell? w' ⟨b10,0,none⟩=some (.int .i64 15):=aD (i:=0) ((qa w' xe).blk (qf.b 2) (fun e=>by rcases e with e|e<;>first|exact bH (i:=4) qf.nd rfl 2 (by decide) rfl e|exact bH (i:=3) qf.nd rfl 2 (by decide) rfl e)) rfl;go_simp⟩) hS ?_;refine wA9 2 ?_;refine sta 27 (.tmp 8) (.tmp 78) b8 0 aH (a.b 4) (by first|decide|(rw[aE];exact Nat.le_refl _)|simp[aE,aE]) (szP9 aE) Bx ?_;intro wn b C;rw[aI _ _ (by first|rfl|simp[aE,aE])] at C;have qr:=qk.out _ ((qa _ hS).tT b (fun i A e=>(.inl e)));clear hS;replace a:=O (a.set 4 b C);replace m:=O (KI.keepT m.out b (fun i e j=>by rw[e] at j;first|exact (a.aq 0) j|exact (a.aq 1) j|exact (a.aq 2) j|exact (a.aq 3) j|exact (a.aq 4) j|exact (a.aq 5) j|exact (a.aq 6) j));replace z:=O (fun i h=>(z i h).imp (fun cc=>cc.keep b (fun e=>by rw[e] at h;first|exact (a.aq 0) h|exact (a.aq 1) h|exact (a.aq 2) h|exact (a.aq 3) h|exact (a.aq 4) h|exact (a.aq 5) h|exact (a.aq 6) h)) id);replace s:=O (s.tT b (fun i A e=>by first|exact .inr (.inl e)|exact .inr (.inr (.inl e))|exact .inr (.inr (.inr (.inl e)))|exact .inr (.inr (.inr (.inr e)))|(have:=Z.out;have:=ql.out;omega)));replace HX:=O (HX.tT b (fun i _ e=>by first|exact .inr (.inl e)|exact .inr (.inr (.inl e))|exact .inr (.inr (.inr (.inl e)))|exact .inr (.inr (.inr (.inr (.inl e))))|exact .inr (.inr (.inr (.inr (.inr e))))));clear b C;refine wpList_nil ?_;refine⟨qr,?_⟩;refine wA9 3 ?_;refine sta 49 (.tmp 9) (.tmp 79) X 0 ([.int .i64 15]) (a.b 3) (by simp) (by kernel_rfl) (one9) ?_;intro wo b C;replace C:wo.heap[X]?=some (.cells #[.int .i64 15] 49 (0,0)):=C;have z5:=qk.out _ ((qa _ qr).tT b (fun i A e=>(.inr (e))));clear qr;replace a:=O (a.set 3 b C);replace m:=O (KI.keepT m.out b (fun i e j=>by rw[e] at j;first|exact (a.aq 0) j|exact (a.aq 1) j|exact (a.aq 2) j|exact (a.aq 3) j|exact (a.aq 4) j|exact (a.aq 5) j|exact (a.aq 6) j));replace z:=O (fun i h=>(z i h).imp (fun cc=>cc.keep b (fun e=>by rw[e] at h;first|exact (a.aq 0) h|exact (a.aq 1) h|exact (a.aq 2) h|exact (a.aq 3) h|exact (a.aq 4) h|exact (a.aq 5) h|exact (a.aq 6) h)) id);replace s:=O (s.tT b (fun i A e=>by first|exact .inr (.inl e)|exact .inr (.inr (.inl e))|exact .inr (.inr (.inr (.inl e)))|exact .inr (.inr (.inr (.inr e)))|(have:=Z.out;have:=ql.out;omega)));replace HX:=O (HX.tT b (fun i _ e=>by first|exact .inr (.inl e)|exact .inr (.inr (.inl e))|exact .inr (.inr (.inr (.inl e)))|exact .inr (.inr (.inr (.inr (.inl e))))|exact .inr (.inr (.inr (.inr (.inr e))))));clear b C;refine wpList_nil ?_;refine⟨z5,?_⟩;refine wpAnyH_done (by kernel_rfl) ?_ _;clear z5 qa qk qf q1 qy q3 vo;refine wpIn_ret ?_;have j2:=zs.out _ (a.b 4) (a.b 3) m.out z.out s.out
   exact⟨KpN.of HX.out fun i o e hn ho=>by
    rcases e with e|e|e|e|e|e
    ·rcases x7.out i e with⟨cs,t,h⟩|h
     ·rw[h] at ho;cases ho;rfl
     ·omega
    ·have:=HG.out;omega
    ·have:=HG.out;omega
    ·have:=HG.out;omega
    ·have:=HG.out;omega
    ·subst e;rw[ve.b 0] at ho;cases ho;rfl,j2⟩
  ·replace a:Hid (Loc B B' w W1 [(b12,uc.toArray,27),(b10,#[.int .i64 0],49),(X,#[.int .i64 0],49),(b8,aH.toArray,27),(b5,pc.toArray,27),(b4,#[.pointer (some ⟨c,0,none⟩)],39)]):=a
   refine dB (by kernel_rfl) (fun ⟨_,_,h⟩=>h) ?_
   go_wp2_with ((with_reducible show WL _ _);refine al 166 (.agg jT.toArray) (jT.toArray) Bo ?_)
   intro qb wk qg qp qd
   go_wp2_with ((with_reducible show WL _ _);refine sta 166 (.tmp 15) (.tmp 75) qb 0 sc qd (by first|decide|(rw[List.size_toArray,qn];exact Nat.le_refl _)|simp[qn,iO]) (by rw[qn];exact tU) uz.out ?_)
   intro wl b C;rw[aI _ _ (by first|rfl|(rw[List.size_toArray,qn];rfl)|simp[qn,iO])] at C;replace b:=tX qp b (fun i A e=>by omega);have Z:=O (show W1.heap.size≤qb from Nat.le_of_eq qg);replace a:=O (a.new (fun k h=>m.lt h) qg b C);replace m:=O (m.keep0 b);replace J:=pK J b;replace G:=O (bS.keep0 G.out b);replace z:=O (fun i h=>(z i h).imp (fun c=>c.keep b id) id);replace s:=O (s.trans (aA.any b));replace HX:=O (HX.trans b);clear qg b C qp qd;go_wp2_with fail;refine⟨KpN.of HX.out (fun _ _ h=>h.elim),KpC.of HX.out (fun _ h=>h.elim),fun o o' zh qj=>?_⟩;have kd:=aA.of_grown (grownBy_putObj' wl l o');have no:=fun {i:Nat}(h:IsC wl i)=>oY zh qj h
   have nB:∀i,some l=some i->¬B' i:=fun i e C=>(z i C).elim (fun h=>no h e) fun h=>by have:=h.1;injection e with e;have:=ql.2;omega
   replace a:=O (a.put (o':=o') zh qj (by have:=ql.2;have:=vn.out;omega));replace m:=O (m.keepT kd nB);replace J:=O (J.keepT kd fun i A=>no (J.off i A).2);replace G:=O (G.keepT kd fun q j i A=>no ((G q j).off i A).2);replace z:Hid (∀i,B' i->IsC (wl.putObj l o') i\/i<wi.heap.size/\B0 i/\¬IsC wi i):=O fun i h=>(z i h).imp (fun c=>c.keep kd (no c)) id
   replace s:=O (s.tT kd (fun i A e=>by injection e with e;have:=ql.2;omega));clear HX kd no nB;generalize World.putObj wl l o'=V at a m J G z s ⊢;have ve:=a;have x7:=z;have HX:Hid (aA (fun i=>B' i\/i=b8\/i=X\/i=b10\/i=b12\/i=qb) V V):=O (aA.refl _ _);clear zh qj;refine wpIn_block ?_
   repeat refine wpIn_seq ?_
   refine dB (by kernel_rfl) (fun ⟨_,_,h⟩=>h) ?_;have c1:V.cell? ⟨b10,0,none⟩=some (.int .i64 0):=(aD (i:=0) (a.b 2) rfl)
   go_wp2_with fail;clear c1;have zr:=O (GS (t:=t) (n:=n) (k:=k) (y:=y+1) ua.out HT.out xg.out vg.out (by omega) xj.out);have js:=O (jY (n:=n) HT.out y (by omega));refine wpIn_cond_false rfl ?_;refine wpIn_skip ?_;have je:=aJ (v:=vss y R) ((G R z6).pt.sum);have xx:=aN (G R z6).pt;obtain⟨kc,zl⟩:=zX9 (aF (vss y R) ((bC n t y).kid R).ptr)
   have kn:Hid (∀u∈kc,u.oneCell'=true):=O (by rw[←zl];exact xx);have um:=O zl;rw[zl] at je;clear zl xx
   have xd:eK (k+1) S (bC n t y) n bs=(T.lay (k+1) (eV (bC n t y).kid R u)):=by
    rw[E4 S t n bs (k:=k) (y:=y) jf,xj.out,←ui.out,show 2-y=k by omega]
   have zs:Hid (∀Wf v2 B2,Wf.heap[b12]?=some (.cells (aF v2 (eS (T.lay (k+1) (eV (bC n t y).kid R u)).1)).toArray IY (0,0))->Wf.heap[b10]?=some (.cells #[.int .i64 (fG (T.lay (k+1) (eV (bC n t y).kid R u)).1)] IX (0,0))->aX Wf B2 v2 (eS (T.lay (k+1) (eV (bC n t y).kid R u)).1)->(∀i,v2.ownBlock=some i->i≠b8/\i≠X/\i≠b10/\i≠b12)->KI Wf c (T.lay (k+1) (eV (bC n t y).kid R u)).2 B2->(∀i,B2 i->B0 i\/wi.heap.size≤i)->(∀i,B2 i->IsC Wf i\/i<wi.heap.size/\B0 i/\¬IsC wi i)->aA (fun i=>B0 i\/i=b10\/i=b12) wi Wf->vK wi b8 X b10 b12 c S B0 n t bs (k+1) Wf):=O fun Wf v2 B2 a1 a2 a3 a4 a5 a6 a7 a8=>⟨y,v2,B2,by omega,by rw[xd];exact a1,by rw[xd];exact a2,by rw[xd];exact a3,a4,by rw[xd];exact a5,a6,a7,a8⟩
   clear xd
   repeat refine wpIn_seq ?_
   go_wp2_with fail;obtain⟨S,qi⟩:∃S:World->Prop,S=fun w'=>aA aB V.drew w':=⟨_,rfl⟩
   have qa:=O (show ∀w',S w'->aA aB V.drew w' from fun w' h=>by rw[qi] at h;exact h);have qk:=O (show ∀w',aA aB V.drew w'->S w' from fun w' h=>by rw[qi];exact h);have hS:S V.drew:=by rw[qi];exact aA.refl _ _
   have P:=(aA.refl aB V).drew;clear qi;refine mT (by kernel_rfl) (by kernel_rfl) (fun ⟨_,_,h⟩=>h) (wpAny_of_held (S:=S) _ _ _ _ ?_);change wpAnyH _ _ _ _ _ _ _ _ V.drew;generalize V.drew=wm at qa qk hS P ⊢;replace a:=kL a P;replace m:=O (m.keep0 P);replace J:=pK J P;replace G:=O (bS.keep0 G.out P);replace z:=O (fun i h=>(z i h).imp (fun c=>c.keep P id) id);replace s:=O (s.trans (aA.any P));replace HX:=O (HX.trans (aA.any P));clear P;have qf:=a;have q1:=m;have u1:=J;have ut:=G;have qy:=z;have q3:=s;have vo:=HX;refine tnd 0 (.agg uc.toArray) rfl (yieldsIf_load_mid (by rfl) 27 (.tmp 12) rfl b12 0 rfl uc _ (fun w' h=>aC ((qa w' h).blk (qf.b 1) id)) aG rfl (szP9 qt)) hS ?_;refine tnb 1 (.pointer (some ⟨qb,176,none⟩)) rfl hS ?_;refine tnd 2 (.int .i64 (R:Int)) rfl (.inl ⟨by rfl,fun w' xe=>by have c:World.cell? w' ⟨qb,176,none⟩=some (.int .i64 (R:Int)):=(GU qu.out (cX _ _ G.nv) (by have j:=((qa w' xe).blk (qf.b 0) id);rw[xk.out] at j;exact j));go_simp⟩) hS ?_;refine tnb 3 (.pointer (some ⟨qb,35,none⟩)) rfl hS ?_;refine tnb 4 (.pointer (some ⟨qb,36,none⟩)) rfl hS ?_;refine tnb 5 (.pointer (some ⟨qb,36+R*35,none⟩)) rfl hS ?_;refine tnd 6 (.agg kc.toArray) rfl (yieldsIf_load_mid (by rfl) 27 (.tmp 85) rfl qb (36+R*35) rfl kc _ (fun w' h=>(by rw[←um.out];exact OM (vs:=vss y) (ps:=(fun i=>((bC n t y).kid i).ptr)) qu.out G.nv z6 (by have j:=((qa w' h).blk (qf.b 0) id);rw[xk.out] at j;exact j))) aG rfl (szP9 je)) hS ?_;refine wA9 7 ?_;go_wp2_with fail;refine((by rw[←xl.out,←um.out];exact uU wm v (vss y R) u.ptr ((bC n t y).kid R).ptr J.pt (G R z6).pt:Ka wm (aY wm (u.ptr.eqB ((bC n t y).kid R).ptr)))).mono ?_;rintro e wn ⟨rfl,b⟩;rw[show u.ptr.eqB ((bC n t y).kid R).ptr=false from by have h:=zr.2.2;rw[←ui.out];exact h];have qr:=qk.out _ ((qa _ hS).trans b);replace a:=kL a b;replace m:=O (m.keep0 b);replace J:=pK J b;replace G:=O (bS.keep0 G.out b);replace z:=O (fun i h=>(z i h).imp (fun c=>c.keep b id) id);replace s:=O (s.trans (aA.any b));replace HX:=O (HX.trans (aA.any b));clear hS b;go_wp2_with fail;refine⟨qr,?_⟩;refine wpAnyH_done (by kernel_rfl) ?_ _;clear qr qa qk qf q1 u1 ut qy q3 vo;refine wpIn_cond_false rfl ?_;refine wpIn_skip ?_;refine wpIn_seq ?_;refine dB (by kernel_rfl) (fun ⟨_,_,h⟩=>h) ?_;have c1:wn.cell? ⟨qb,176,none⟩=some (.int .i64 (R:Int)):=(GU qu.out (cX _ _ G.nv) (by have j:=a.b 0;rw[xk.out] at j;exact j))
   go_wp2_with ((with_reducible show WL _ _);first
    | refine wpList_load_mid rfl 27 (.tmp 12) rfl b12 0 rfl uc _ (aC (a.b 1)) aG rfl (szP9 qt) ?_
    | refine sta 27 (.tmp 95) (.tmp 92) qb (36+R*35) uc (a.b 0) (by rw[List.size_toArray,qn,qt];omega) (szP9 qt) u0.out ?_)
   clear c1;intro wo b C;rw[xk.out,←xl.out,show eS (some u)=u.ptr from rfl,ON (v:=v) (p:=u.ptr) qu.out G.nv z6 J.pt.sum,E5] at C;have zw:=O (G.upd (d:=R) J.out);have jj:=cX ((k+1:Nat):Int) (fT (vss y) R v) zw.nv;obtain⟨nn,xa⟩:=zX9 (bU ((k+1:Nat):Int) (fT (vss y) R v) (fun i=>(eV (bC n t y).kid R u i).ptr))
   have jw:=O xa;rw[xa] at C jj;obtain⟨sd,xc⟩:=zX9 (aF (pvs y) (bC n t y).ptr++(nn++[.int .i64 (R:Int)]))
   have j1:=O xc;rw[xc] at C
   have ur:Hid (∀q,q<4->∀i,(fT (vss y) R v q).ownBlock=some i->i<W1.heap.size):=O (fun q j i A=>by
    by_cases e:q=R
    ·rw[e,oH] at A;exact j5.out i A
    ·rw[oI _ _ e] at A;exact jv.out q j i A)
   clear xa xc;replace a:=O (a.set 0 b C);replace m:=O (KI.keepT m.out b (fun i e j=>by rw[e] at j;first|exact (a.aq 0) j|exact (a.aq 1) j|exact (a.aq 2) j|exact (a.aq 3) j|exact (a.aq 4) j|exact (a.aq 5) j|exact (a.aq 6) j));replace z:=O (fun i h=>(z i h).imp (fun cc=>cc.keep b (fun e=>by rw[e] at h;first|exact (a.aq 0) h|exact (a.aq 1) h|exact (a.aq 2) h|exact (a.aq 3) h|exact (a.aq 4) h|exact (a.aq 5) h|exact (a.aq 6) h)) id);replace s:=O (s.tT b (fun i A e=>by first|exact .inr (.inl e)|exact .inr (.inr e)|(have:=Z.out;have:=ql.out;omega)));replace HX:=O (HX.tT b (fun i _ e=>by first|exact .inr (.inl e)|exact .inr (.inr (.inl e))|exact .inr (.inr (.inr (.inl e)))|exact .inr (.inr (.inr (.inr (.inl e))))|exact .inr (.inr (.inr (.inr (.inr e))))));replace zw:=O (bS.keepT zw.out b (fun q j i A e=>by have:=ur.out q j i A;have:=Z.out;omega));clear b C;refine wpList_nil ?_;refine dB (by kernel_rfl) (fun ⟨_,_,h⟩=>h) ?_;have c1:wo.cell? ⟨b4,0,none⟩=some (.pointer (some ⟨c,0,none⟩)):=(aD (i:=0) (a.b 6) rfl)
   go_wp2_with ((with_reducible show WL _ _);refine wpList_load_mid rfl 98 (.tmp 98) rfl qb 35 rfl nn _ (M7 qu.out (by have j:=(a.b 0);rw[←j1.out] at j;exact j)) underlying98 rfl (by rw[jj];exact dA) ?_)
   clear c1;refine((by rw[←jw.out];exact E0 m.out (by omega) (eV (bC n t y).kid R u) (OL (fun i A=>by have h:=js.out;rw[show 3-y=k+1 by omega] at h;exact h.kid A) zr.1.ext zr.2.1) (fT (vss y) R v) zw.out:Ka wo (bI wo c B' (.slice none 0 0) (T.lay (k+1) (eV (bC n t y).kid R u)).1 (T.lay (k+1) (eV (bC n t y).kid R u)).2))).mono ?_;rintro e wp ⟨v2,B2,jh,zn,x3,z3,x2,zm,b⟩;obtain⟨u5,z9⟩:=zX9 (fG (T.lay (k+1) (eV (bC n t y).kid R u)).1)
   rw[z9] at jh;have uk:=O z9;subst jh;replace zm:dQ wo v2:=zm.elim (fun e=>by rw[e];exact dQ.nil _) id;have za:=O zn;have q0:=O x3;have zx:=O zm;have v9:=O z3;have qx:Hid (∀i,B2 i->IsC wp i\/i<wi.heap.size/\B0 i/\¬IsC wi i):=O fun i h=>(x2 i h).imp id fun ⟨a1,a2⟩=>(z i a1).resolve_left a2
   have zd:=aJ (v:=v2) zn.pt.sum;have zu:=aN zn.pt;obtain⟨jp,qw⟩:=zX9 (aF v2 (eS (T.lay (k+1) (eV (bC n t y).kid R u)).1))
   have vi:Hid (∀u∈jp,u.oneCell'=true):=O (by rw[←qw];exact zu);have x9:=O qw;rw[qw] at zd ⊢;have j4:=O (show wi.heap.size≤wo.heap.size from s.size);have vd:=O (And.intro (a.lt 1).2 (And.intro (a.lt 2).2 (And.intro (a.lt 3).2 (a.lt 4).2)));clear qw zu zn x3 x2 zm z9;replace HX:Hid (aA (fun i=>B' i\/i=b8\/i=X\/i=b10\/i=b12\/i=qb) V wp):=O (HX.tT b (fun i _ e=>.inl e));replace s:=O (s.tT b (fun i A e=>(zo i e).elim .inl fun e=>by omega));replace a:=O (a.turn b (fun i A e=>(zo i e).elim (fun e=>(zp i e).elim id fun e=>by omega) fun e=>by have:=vn.out;omega) (fun i A e=>(z3 i e).elim id fun e=>by omega));clear b z3 m z zw
   go_wp2_with ((with_reducible show WL _ _);refine sta 27 (.tmp 12) (.tmp 101) b12 0 jp (a.b 1) (by first|decide|(rw[zd];exact Nat.le_refl _)|simp[zd,qt]) (szP9 zd) vi.out ?_)
   intro wq b C;rw[aI _ _ (by first|rfl|simp[zd,qt])] at C;replace a:=O (a.set 1 b C);replace q0:=O (KI.keepT q0.out b (fun i e j=>by rw[e] at j;first|exact (a.aq 0) j|exact (a.aq 1) j|exact (a.aq 2) j|exact (a.aq 3) j|exact (a.aq 4) j|exact (a.aq 5) j|exact (a.aq 6) j));replace za:=O (aX.keepT za.out b (fun i A e=>by have:=zx.out i A;have:=vd.out;omega));replace qx:=O (fun i h=>(qx i h).imp (fun cc=>cc.keep b (fun e=>by rw[e] at h;first|exact (a.aq 0) h|exact (a.aq 1) h|exact (a.aq 2) h|exact (a.aq 3) h|exact (a.aq 4) h|exact (a.aq 5) h|exact (a.aq 6) h)) id);replace s:=O (s.tT b (fun i A e=>by first|exact .inr (.inl e)|exact .inr (.inr e)|(have:=Z.out;have:=ql.out;omega)));replace HX:=O (HX.tT b (fun i _ e=>by first|exact .inr (.inl e)|exact .inr (.inr (.inl e))|exact .inr (.inr (.inr (.inl e)))|exact .inr (.inr (.inr (.inr (.inl e))))|exact .inr (.inr (.inr (.inr (.inr e))))));clear b C
   go_wp2_with ((with_reducible show WL _ _);refine sta 49 (.tmp 10) (.tmp 102) b10 0 ([.int .i64 u5]) (a.b 2) (by simp) (by kernel_rfl) (one9) ?_)
   intro wr b C;replace C:wr.heap[b10]?=some (.cells #[.int .i64 u5] 49 (0,0)):=C;replace a:=O (a.set 2 b C);replace q0:=O (KI.keepT q0.out b (fun i e j=>by rw[e] at j;first|exact (a.aq 0) j|exact (a.aq 1) j|exact (a.aq 2) j|exact (a.aq 3) j|exact (a.aq 4) j|exact (a.aq 5) j|exact (a.aq 6) j));replace za:=O (aX.keepT za.out b (fun i A e=>by have:=zx.out i A;have:=vd.out;omega));replace qx:=O (fun i h=>(qx i h).imp (fun cc=>cc.keep b (fun e=>by rw[e] at h;first|exact (a.aq 0) h|exact (a.aq 1) h|exact (a.aq 2) h|exact (a.aq 3) h|exact (a.aq 4) h|exact (a.aq 5) h|exact (a.aq 6) h)) id);replace s:=O (s.tT b (fun i A e=>by first|exact .inr (.inl e)|exact .inr (.inr e)|(have:=Z.out;have:=ql.out;omega)));replace HX:=O (HX.tT b (fun i _ e=>by first|exact .inr (.inl e)|exact .inr (.inr (.inl e))|exact .inr (.inr (.inr (.inl e)))|exact .inr (.inr (.inr (.inr (.inl e))))|exact .inr (.inr (.inr (.inr (.inr e))))));clear b C;go_wp2_with fail;have xz:=a.b 1;have x0:=a.b 2;rw[←x9.out] at xz;rw[←uk.out] at x0;have j3:=zs.out _ v2 B2 xz x0 za.out (fun i A=>by (have:=zx.out i A;have:=vd.out;omega)) q0.out (fun i h=>(v9 i h).elim (zo i) fun e=>.inr (by have:=j4.out;omega)) qx.out s.out
   refine⟨KpN.of HX.out fun i o e hn ho=>by
    rcases e with e|e|e|e|e|e
    ·rcases x7.out i e with⟨cs,t,h⟩|h
     ·rw[h] at ho;cases ho;rfl
     ·omega
    ·have:=HG.out;omega
    ·have:=HG.out;omega
    ·have:=HG.out;omega
    ·have:=HG.out;omega
    ·subst e;rw[ve.b 0] at ho;cases ho;rfl,KpC.of HX.out (fun i e=>?_),j3⟩
   rcases e with e|e|e|e|e|e
   ·exact(zo i e).elim .inl fun e=>.inr (.inr (.inr (.inr (.inr e))))
   ·exact .inr (.inl e)
   ·exact .inr (.inr (.inl e))
   ·exact .inr (.inr (.inr (.inl e)))
   ·exact .inr (.inr (.inr (.inr (.inl e))))
   ·exact .inr (.inr (.inr (.inr (.inr (by have:=Z.out;have:=ql.out;omega)))))
 case done =>
  rintro D W j6 ⟨y,v,B',ke,h12,h10,Y,vx,qe,qo,qv,qm⟩ xn;obtain rfl:y=0:=by omega
  rename_i KQ xp;obtain⟨⟨r,T⟩,zf⟩:∃q,eK 3 S t n bs=q:=⟨_,rfl⟩
  have e0:eK 3 S (bC n t 0) n bs=(r,T):=zf;rw[e0] at h12 h10 Y qe;rw[zf] at xp ⊢;dsimp only at h12 h10 Y qe xp ⊢;have xj:=O zf;have qt:=aJ (v:=v) Y.pt.sum;have q9:=aN Y.pt;obtain⟨uc,qh⟩:=zX9 (aF v (eS r))
  have u0:Hid (∀u∈uc,u.oneCell'=true):=O (by rw[←qh];exact q9);have xl:=O qh;rw[qh] at qt h12;have zt:=O (Loc.round a.out h12 h10 qo zp.out qm);have m:=O qe;have J:=O Y;have z:=O qv;have Q:=O xn;have s:Hid (aA (fun i=>B0 i\/i=b8\/i=X\/i=b10\/i=b12) wi W):=O ((aA.refl aB wi).trans' qm (fun _ _ h=>h.elim) (fun i A e=>e.elim .inl fun e=>e.elim (fun e=>.inr (.inr (.inr (.inl e)))) fun e=>.inr (.inr (.inr (.inr e)))));have ko:=O vx
  have ul:Hid (∀Wf v2,aX Wf B' v2 (eS r)->v2=.slice none 0 0\/dQ w v2->KI Wf c T B'->(∀i,B' i->IsC Wf i\/i<wi.heap.size/\B0 i/\¬IsC wi i)->aA (fun i=>B0 i\/i=b8\/i=X\/i=b10\/i=b12) wi Wf->Wf.heap[D]?=some (.deferred (some []))->bI w c B (.slice none 0 0) r T (.returned (.tuple #[.agg (aF v2 (eS r)).toArray,.int .i64 (fG r)])) (Wf.putObj D (.deferred none))):=O fun Wf v2 a1 a2 a3 a4 a5 a6=>by
   have kd:=aA.of_grown (grownBy_putObj' Wf D (.deferred none));have no:=fun {i:Nat}(h:IsC Wf i)=>oY a6 rfl h
   have nB:∀i,some D=some i->¬B' i:=fun i e C=>(a4 i C).elim (fun h=>no h e) fun h=>by have:=h.1;injection e with e;omega
   exact bI.upon (W:=Wf) rfl (a1.keepT kd fun i A=>no (a1.off i A).2) (a3.keepT kd nB) a2 zp.out qo vf.out qz.out (fun i h=>(a4 i h).imp (fun c=>c.keep kd (no c)) id) a.keep (a5.tT kd (fun i A e=>by injection e with e;omega)) (fun i h=>h.elim .inl fun h=>.inr (by have:=zv.out;omega))
  replace a:=zt;have xh:=O (show b8≠D/\X≠D from by have:=HG.out;omega)
  have zr:Hid (∀u,r=some u->u.ptr.addrs.length≤65536):=O fun u hu=>by
   subst hu;have h:=(GS (t:=t) (n:=n) (k:=3) (y:=0) ua.out HT.out xg.out vg.out (by omega) e0).2.1;have:=(iL (Tr.Ok.may3 h)).1;omega
  clear Y qe qv qo qm h10 h12 xo xf q9 zt zf e0 qh vx;show KQ _ _;refine xp _ _ ?_;clear xp;rcases r with _|u
  ·replace a:Hid (Loc B B' w W [(b12,uc.toArray,27),(b10,#[.int .i64 15],49),(X,#[.int .i64 0],49),(b8,aH.toArray,27),(b5,pc.toArray,27),(b4,#[.pointer (some ⟨c,0,none⟩)],39)]):=a
   have c1:W.cell? ⟨b10,0,none⟩=some (.int .i64 15):=(aD (i:=0) (a.b 1) rfl)
   go_wp2_with fail;clear c1;go_wp2_with fail;refine dwB (fun k=>k=b8\/k=X) (by kernel_rfl) ?_;intro wk S qa qk hS P;replace a:=kL a P;replace m:=O (m.keep0 P);replace z:=O (fun i h=>(z i h).imp (fun c=>c.keep P id) id);replace s:=O (s.trans (aA.any P));replace Q:=O (P.blk Q.out id);clear P;have qf:=a;have q1:=m;have qy:=z;have q3:=s;have ug:=Q;refine tnd 0 (.agg aH.toArray) rfl (sK (by rfl) 27 rfl kT) hS ?_;refine tnd 1 (.int .i64 15) rfl (.inl ⟨by rfl,fun w' xe=>by have c:World.cell? w' ⟨b10,0,none⟩=some (.int .i64 15):=aD (i:=0) ((qa w' xe).blk (qf.b 1) (fun e=>by rcases e with e|e<;>first|exact bH (i:=3) qf.nd rfl 1 (by decide) rfl e|exact bH (i:=2) qf.nd rfl 1 (by decide) rfl e)) rfl;go_simp⟩) hS ?_;refine wA9 2 ?_;refine sta 27 (.tmp 8) (.tmp 105) b8 0 aH (a.b 3) (by first|decide|(rw[aE];exact Nat.le_refl _)|simp[aE,aE]) (szP9 aE) Bx ?_;intro wl b C;rw[aI _ _ (by first|rfl|simp[aE,aE])] at C;have qr:=qk.out _ ((qa _ hS).tT b (fun i A e=>(.inl e)));clear hS;replace a:=O (a.set 3 b C);replace m:=O (KI.keepT m.out b (fun i e j=>by rw[e] at j;first|exact (a.aq 0) j|exact (a.aq 1) j|exact (a.aq 2) j|exact (a.aq 3) j|exact (a.aq 4) j|exact (a.aq 5) j|exact (a.aq 6) j));replace z:=O (fun i h=>(z i h).imp (fun cc=>cc.keep b (fun e=>by rw[e] at h;first|exact (a.aq 0) h|exact (a.aq 1) h|exact (a.aq 2) h|exact (a.aq 3) h|exact (a.aq 4) h|exact (a.aq 5) h|exact (a.aq 6) h)) id);replace s:=O (s.tT b (fun i A e=>by first|exact .inr (.inl e)|exact .inr (.inr (.inl e))));replace Q:=O (b.blk Q.out (fun e=>by have:=xh.out;omega));clear b C;refine wpList_nil ?_;refine⟨qr,?_⟩;refine wA9 3 ?_;refine sta 49 (.tmp 9) (.tmp 106) X 0 ([.int .i64 15]) (a.b 2) (by simp) (by kernel_rfl) (one9) ?_;intro wm b C;replace C:wm.heap[X]?=some (.cells #[.int .i64 15] 49 (0,0)):=C;have z5:=qk.out _ ((qa _ qr).tT b (fun i A e=>(.inr (e))));clear qr;replace a:=O (a.set 2 b C);replace m:=O (KI.keepT m.out b (fun i e j=>by rw[e] at j;first|exact (a.aq 0) j|exact (a.aq 1) j|exact (a.aq 2) j|exact (a.aq 3) j|exact (a.aq 4) j|exact (a.aq 5) j|exact (a.aq 6) j));replace z:=O (fun i h=>(z i h).imp (fun cc=>cc.keep b (fun e=>by rw[e] at h;first|exact (a.aq 0) h|exact (a.aq 1) h|exact (a.aq 2) h|exact (a.aq 3) h|exact (a.aq 4) h|exact (a.aq 5) h|exact (a.aq 6) h)) id);replace s:=O (s.tT b (fun i A e=>by first|exact .inr (.inl e)|exact .inr (.inr (.inl e))));replace Q:=O (b.blk Q.out (fun e=>by have:=xh.out;omega));clear b C;refine wpList_nil ?_;refine⟨z5,?_⟩;refine wpAnyH_done (by kernel_rfl) ?_ _;clear z5 qa qk qf q1 qy q3 ug;refine noP ?_;go_wp2_with fail;have jr:=O (a.b 3);have xi:=O (ul _ (.slice none 0 0) (aX.hole _ _) (.inl rfl) m.out z.out s.out Q.out);have kd:=aA.of_grown (grownBy_putObj' wm D (.deferred none));have z0:=O (kd.blk (a.b 3) (oY Q.out rfl ⟨_,_,a.b 3⟩));have c9:(wm.putObj D (.deferred none)).cell? ⟨X,0,none⟩=some (.int .i64 15):=aD (i:=0) (kd.blk (a.b 2) (oY Q.out rfl ⟨_,_,a.b 2⟩)) rfl;have vq:=Q.out;clear kd a m z s;show bodyPostM _ _ _ _ _ .ret _ _;refine⟨by simp,.inl ⟨_,_,rfl,run_takeDeferred vq,?_⟩⟩;exact⟨_,fS rfl _ _ b8 _ _ _ _ rfl z0.out aG rfl (by rw[List.size_toArray,aE];exact cC) ⟨X,0,none⟩ (.int .i64 15) rfl (by go_simp),xi.out⟩
  ·replace a:Hid (Loc B B' w W [(b12,uc.toArray,27),(b10,#[.int .i64 0],49),(X,#[.int .i64 0],49),(b8,aH.toArray,27),(b5,pc.toArray,27),(b4,#[.pointer (some ⟨c,0,none⟩)],39)]):=a
   have c1:W.cell? ⟨b10,0,none⟩=some (.int .i64 0):=(aD (i:=0) (a.b 1) rfl)
   go_wp2_with ((with_reducible show WL _ _);refine wpList_load_mid rfl 27 (.tmp 12) rfl b12 0 rfl uc _ (aC (a.b 0)) aG rfl (szP9 qt) ?_)
   clear c1;have ju:=O a.keep.size;have uo:=O (And.intro (a.lt 2).2 (a.lt 3).2);refine((by rw[←xl.out];exact AE (fun i e=>m.lt e) v u.ptr J.pt (zr u rfl):Ka W (tR W B' u.ptr))).mono ?_;rintro e wk ⟨ov,rfl,vt,xb,b⟩;have zz:=O vt;have xy:=O xb;have ux:=O (xb.from ju.out);obtain⟨oc,xw,qj,uy⟩:=nmPt vt.pt;rw[xw.out];clear vt xb;replace a:=kL a b;replace m:=O (m.keep0 b);replace J:=pK J b;replace z:=O (fun i h=>(z i h).imp (fun c=>c.keep b id) id);replace s:=O (s.trans (aA.any b));replace Q:=O (b.blk Q.out id);clear b;clear J
   go_wp2_with ((with_reducible show WL _ _);refine sta 27 (.tmp 8) (.tmp 108) b8 0 oc (a.b 3) (by first|decide|(rw[qj];exact Nat.le_refl _)|simp[qj,aE]) (szP9 qj) uy.out ?_)
   intro wl b C;rw[aI _ _ (by first|rfl|simp[qj,aE])] at C;replace a:=O (a.set 3 b C);replace m:=O (KI.keepT m.out b (fun i e j=>by rw[e] at j;first|exact (a.aq 0) j|exact (a.aq 1) j|exact (a.aq 2) j|exact (a.aq 3) j|exact (a.aq 4) j|exact (a.aq 5) j|exact (a.aq 6) j));replace z:=O (fun i h=>(z i h).imp (fun cc=>cc.keep b (fun e=>by rw[e] at h;first|exact (a.aq 0) h|exact (a.aq 1) h|exact (a.aq 2) h|exact (a.aq 3) h|exact (a.aq 4) h|exact (a.aq 5) h|exact (a.aq 6) h)) id);replace s:=O (s.tT b (fun i A e=>by first|exact .inr (.inl e)|exact .inr (.inr (.inl e))));replace Q:=O (b.blk Q.out (fun e=>by have:=xh.out;omega));replace zz:=O (aX.keepT zz.out b (fun i A e=>by have:=xy.out i A;have:=uo.out;omega));clear b C
   go_wp2_with ((with_reducible show WL _ _);refine sta 49 (.tmp 9) (.const (.int .i64 0)) X 0 ([.int .i64 0]) (a.b 2) (by simp) (by kernel_rfl) (one9) ?_)
   intro wm b C;replace C:wm.heap[X]?=some (.cells #[.int .i64 0] 49 (0,0)):=C;replace a:=O (a.set 2 b C);replace m:=O (KI.keepT m.out b (fun i e j=>by rw[e] at j;first|exact (a.aq 0) j|exact (a.aq 1) j|exact (a.aq 2) j|exact (a.aq 3) j|exact (a.aq 4) j|exact (a.aq 5) j|exact (a.aq 6) j));replace z:=O (fun i h=>(z i h).imp (fun cc=>cc.keep b (fun e=>by rw[e] at h;first|exact (a.aq 0) h|exact (a.aq 1) h|exact (a.aq 2) h|exact (a.aq 3) h|exact (a.aq 4) h|exact (a.aq 5) h|exact (a.aq 6) h)) id);replace s:=O (s.tT b (fun i A e=>by first|exact .inr (.inl e)|exact .inr (.inr (.inl e))));replace Q:=O (b.blk Q.out (fun e=>by have:=xh.out;omega));replace zz:=O (aX.keepT zz.out b (fun i A e=>by have:=xy.out i A;have:=uo.out;omega));clear b C;go_wp2_with fail;have jr:=O (a.b 3);have xi:=O (ul _ ov zz.out (.inr ux.out) m.out z.out s.out Q.out);have kd:=aA.of_grown (grownBy_putObj' wm D (.deferred none));have z0:=O (kd.blk (a.b 3) (oY Q.out rfl ⟨_,_,a.b 3⟩));have c9:(wm.putObj D (.deferred none)).cell? ⟨X,0,none⟩=some (.int .i64 0):=aD (i:=0) (kd.blk (a.b 2) (oY Q.out rfl ⟨_,_,a.b 2⟩)) rfl;have vq:=Q.out;rw[show eS (some u)=u.ptr from rfl,xw.out] at xi;clear kd a m z s;show bodyPostM _ _ _ _ _ .ret _ _;refine⟨by simp,.inl ⟨_,_,rfl,run_takeDeferred vq,?_⟩⟩;exact⟨_,fS rfl _ _ b8 _ _ _ _ rfl z0.out aG rfl (by rw[List.size_toArray,qj];exact cC) ⟨X,0,none⟩ (.int .i64 0) rfl (by go_simp),xi.out⟩
 case stop =>
  rintro D W j6 ⟨T,B',jm,h8,h9,qe,qo,qv,qm⟩ xn;have kd:=aA.of_grown (grownBy_putObj' W D (.deferred none));have no:=fun {i:Nat}(h:IsC W i)=>oY xn rfl h
  have nB:∀i,some D=some i->¬B' i:=fun i e C=>(qv i C).elim (fun h=>no h e) fun h=>by have:=h.1;injection e with e;omega
  have HP:Hid (bI w c B (.slice none 0 0) none T (.returned (.tuple #[.agg aH.toArray,.int .i64 15])) (W.putObj D (.deferred none))):=O (bI.upon (W:=W) rfl (aX.hole _ _) (qe.keepT kd nB) (.inl rfl) zp.out qo vf.out qz.out (fun i h=>(qv i h).imp (fun c=>c.keep kd (no c)) id) a.keep (qm.tT kd (fun i A e=>by injection e with e;omega)) (fun i h=>h.elim .inl fun h=>.inr (by have:=zv.out;omega)));have z0:=O (kd.blk h8 (no ⟨_,_,h8⟩));have c9:(W.putObj D (.deferred none)).cell? ⟨X,0,none⟩=some (.int .i64 15):=aD (i:=0) (kd.blk h9 (no ⟨_,_,h9⟩)) rfl;rw[jm];clear kd no nB qe qo qv qm h8 h9 xo xf;show bodyPostM _ _ _ _ _ .ret _ _;refine⟨by simp,.inl ⟨_,_,rfl,run_takeDeferred xn,?_⟩⟩;exact⟨_,fS rfl _ _ b8 _ _ _ _ rfl z0.out aG rfl (by rw[List.size_toArray,aE];exact cC) ⟨X,0,none⟩ (.int .i64 15) rfl (by go_simp),HP.out⟩
theorem mJ(e:KI w c S B)(pv:Value)(t:Tr)(p:Tr.Ok S 3 t)(m:aX w B pv t.ptr)(n:Nat)(j:n<64)(vv:Value)(a:List UInt8)(b:a.length=256)(o:Rd w 1 vv 256 (a.map vb))(d:∀i,vv.ownBlock=some i->¬B i/\i<w.heap.size):Calls prog 46 #[.pointer c,.agg (aF pv t.ptr).toArray,.int .i64 (n:Int),vv] w (bI w c B (.slice none 0 0) (oJ S t n a).1 (oJ S t n a).2):=by
 unfold oJ
 by_cases h:t.blk 3 n=a
 ·rw[if_pos h];exact KY e pv t p m n j vv a b o d h
 ·rw[if_neg h];exact KZ e pv t p m n j vv a b o d h
structure cV(w:World)(B:Nat->Prop)(b4 b5 c:Nat):Prop where
 c:w.heap[b4]?=some (.cells #[.pointer (some ⟨c,0,none⟩)] 39 (0,0))
 y:∃T,w.heap[b5]?=some (.cells #[.func (.func 85) #[] #[.pointer (some ⟨b4,0,none⟩),.pointer (some ⟨b5,0,none⟩)]] T (0,0))
 o4:Off w B b4
 o5:Off w B b5
theorem cV.keep(h:cV w B b4 b5 c)(k:aA B w w')(a:∀k,B' k->B k\/w.heap.size≤k):cV w' B' b4 b5 c:=
 ⟨k.blk h.c h.o4.1,h.y.imp fun T b=>k.blk b h.o5.1,h.o4.keep k a,h.o5.keep k a⟩
theorem cV.keep0(h:cV w B b4 b5 c)(k:aA aB w w'):cV w' B b4 b5 c:=h.keep k.any fun _ h=>.inl h
theorem Db(P:KI w c S B)(pv:Value)(t:Tr)(l:Nat)(V:l≤3)(f g:Int)(hf:-1000≤f/\f≤1000)(hg:-1000≤g/\g≤1000)(M:Tr.Ok S l t)(H:aX w B pv t.ptr)(Q:cV w B b4 b5 c)(R:t.isHole=true\/min g (4 ^ l)≤max f 0):Calls prog 85 #[.agg (aF pv t.ptr).toArray,.int .i64 (l:Int),.int .i64 f,.int .i64 g,.pointer b4,.pointer b5] w (bI w c B pv (some t) S):=by
 have HT:=O M;have j:=O Q;have G:=O R;have o:=O M.hole_eq;have a:=O H;have i:=O P;obtain⟨p,A⟩:=zX9 t.ptr
 have u:=O A;rw[A] at a H o ⊢;obtain⟨s,q,h,E⟩:=nmPt H.pt;rw[q.out];have d:=lN w;obtain⟨m,W⟩:∃m:Nat,4 ^ l=m:=⟨_,rfl⟩
 have I:=O W
 have X:m≤64/\1≤m:=by
  have:l=0\/l=1\/l=2\/l=3:=by omega
  rcases this with rfl|rfl|rfl|rfl<;>omega
 have Z:0≤(l:Int):=by omega
 clear H A P M Q R W;cases F:t.isHole with
 | true =>
   rw[F] at o;clear F G;have r:=a;have y:=i;have x:=j;go_in
   go_wp2_with ((with_reducible show WL _ _);refine bxL d 27 (.tmp 0) (s.toArray) ?_)
   intro b6 w1 b d;replace a:=pK a b;replace i:=O (i.keep0 b);replace j:=O (cV.keep0 j.out b);clear b
   go_wp2_with ((with_reducible show WL _ _);refine alL d 27 (.agg aH.toArray) (aH.toArray) bA ?_)
   intro b10 C b d;replace a:=pK a b;replace i:=O (i.keep0 b);replace j:=O (cV.keep0 j.out b);clear b;go_wp2_with fail;refine((by rw[←I.out];exact kS C l V:Ka C (aK C (.int .i64 (m:Int))))).mono ?_;rintro e D ⟨rfl,b⟩;replace d:=kL d b;replace a:=pK a b;replace i:=O (i.keep0 b);replace j:=O (cV.keep0 j.out b);clear b
   go_wp2_with ((with_reducible show WL _ _);refine wpList_load_mid rfl 27 (.tmp 6) rfl b6 0 rfl s _ (aC (d.b 1)) aG rfl (szP9 h) ?_)
   refine((by rw[←q.out];exact cE D pv p a.pt:Ka D (aY D p.hole))).mono ?_;rintro e w4 ⟨rfl,b⟩;replace d:=kL d b;replace a:=pK a b;replace i:=O (i.keep0 b);replace j:=O (cV.keep0 j.out b);clear b;rw[o.out]
   go_wp2_with ((with_reducible show WL _ _);first
    | refine wpList_load_mid rfl 27 (.tmp 6) rfl b6 0 rfl s _ (aC (d.b 1)) aG rfl (szP9 h) ?_
    | refine sta 27 (.tmp 10) (.tmp 34) b10 0 s (d.b 0) (by first|decide|(rw[h];exact Nat.le_refl _)|simp[h,aE]) (szP9 h) E.out ?_)
   intro N b z;rw[aI _ _ (by first|rfl|simp[h,aE])] at z;replace d:=O (d.set 0 b z);replace a:=O (aX.keep0 r.out d.keep);replace i:=O (y.keep0 d.keep);replace j:=O (cV.keep0 x.out d.keep);clear b z;have n:=O (d.b 0);have J:Hid (bI w c B pv (some t) S (.returned (.tuple #[.agg s.toArray,.int .i64 0])) N):=O (by rw[←q.out,←u.out];exact bI.still (by rw[u.out];exact a.out) i.out d.keep);clear d i j a;go_wp2_with fail;refine bodyPost_ret (aT rfl _ _ b10 _ _ _ _ rfl n.out aG rfl (by rw[List.size_toArray,h];exact cC)) rfl ?_;exact J.out
 | false =>
   have L:min g (m:Int)≤max f 0:=by rw[F] at G;have:=G.resolve_left (by decide);rw[←I.out];exact_mod_cast this
   have Y:decide (max f 0 ≥ min g (m:Int))=true:=decide_eq_true L;rw[F] at o;clear F G;have r:=a;have y:=i;have x:=j;go_in
   go_wp2_with ((with_reducible show WL _ _);refine bxL d 27 (.tmp 0) (s.toArray) ?_)
   intro b6 w1 b d;replace a:=pK a b;replace i:=O (i.keep0 b);replace j:=O (cV.keep0 j.out b);clear b
   go_wp2_with ((with_reducible show WL _ _);refine alL d 27 (.agg aH.toArray) (aH.toArray) bA ?_)
   intro b10 C b d;replace a:=pK a b;replace i:=O (i.keep0 b);replace j:=O (cV.keep0 j.out b);clear b;go_wp2_with fail;refine((by rw[←I.out];exact kS C l V:Ka C (aK C (.int .i64 (m:Int))))).mono ?_;rintro e D ⟨rfl,b⟩;replace d:=kL d b;replace a:=pK a b;replace i:=O (i.keep0 b);replace j:=O (cV.keep0 j.out b);clear b
   go_wp2_with ((with_reducible show WL _ _);refine wpList_load_mid rfl 27 (.tmp 6) rfl b6 0 rfl s _ (aC (d.b 1)) aG rfl (szP9 h) ?_)
   refine((by rw[←q.out];exact cE D pv p a.pt:Ka D (aY D p.hole))).mono ?_;rintro e w4 ⟨rfl,b⟩;replace d:=kL d b;replace a:=pK a b;replace i:=O (i.keep0 b);replace j:=O (cV.keep0 j.out b);clear b;rw[o.out]
   go_wp2_with ((with_reducible show WL _ _);first
    | refine wpList_load_mid rfl 27 (.tmp 6) rfl b6 0 rfl s _ (aC (d.b 1)) aG rfl (szP9 h) ?_
    | refine sta 27 (.tmp 10) (.tmp 34) b10 0 s (d.b 0) (by first|decide|(rw[h];exact Nat.le_refl _)|simp[h,aE]) (szP9 h) E.out ?_)
   intro N b z;rw[aI _ _ (by first|rfl|simp[h,aE])] at z;replace d:=O (d.set 0 b z);replace a:=O (aX.keep0 r.out d.keep);replace i:=O (y.keep0 d.keep);replace j:=O (cV.keep0 x.out d.keep);clear b z;have n:=O (d.b 0);have J:Hid (bI w c B pv (some t) S (.returned (.tuple #[.agg s.toArray,.int .i64 0])) N):=O (by rw[←q.out,←u.out];exact bI.still (by rw[u.out];exact a.out) i.out d.keep);clear d i j a;go_wp2_with fail;refine bodyPost_ret (aT rfl _ _ b10 _ _ _ _ rfl n.out aG rfl (by rw[List.size_toArray,h];exact cC)) rfl ?_;exact J.out
theorem Dc(V:KI w c S B)(pv:Value)(t:Tr)(l:Nat)(Z:l≤3)(f g:Int)(hf:-1000≤f/\f≤1000)(hg:-1000≤g/\g≤1000)(L:Tr.Ok S l t)(C:aX w B pv t.ptr)(W:cV w B b4 b5 c)(Y:t.isHole=false)(X:¬min g (4 ^ l)≤max f 0)(hw:min g (4 ^ l)-max f 0=4 ^ l):Calls prog 85 #[.agg (aF pv t.ptr).toArray,.int .i64 (l:Int),.int .i64 f,.int .i64 g,.pointer b4,.pointer b5] w (bI w c B pv (some .hole) S):=by
 have HT:=O L;have j:=O W;have o:=O L.hole_eq;rw[Y] at o;have a:=O C;have h:=O V;obtain⟨p,q⟩:=zX9 t.ptr
 have qc:=O q;rw[q] at a C o ⊢;obtain⟨pc,y,J,qb⟩:=nmPt C.pt;rw[y.out];have n:(aF (.slice none 0 0) zPt).length=35:=rfl;have r:=kT;obtain⟨D,i⟩:=zX9 (aF (.slice none 0 0) zPt)
 have x:Hid (∀u∈D,u.oneCell'=true):=O (by rw[←i];exact cK zPt);have A:=O i;rw[i] at n r;have G:=O r;clear i r;have d:=lN w;obtain⟨m,I⟩:∃m:Nat,4 ^ l=m:=⟨_,rfl⟩
 have Q:=O I
 have qa:m≤64/\1≤m:=by
  have:l=0\/l=1\/l=2\/l=3:=by omega
  rcases this with rfl|rfl|rfl|rfl<;>omega
 have qe:0≤(l:Int):=by omega
 have R:(4:Int) ^ l=(m:Int):=by rw[←I];exact_mod_cast rfl
 rw[R] at X hw;have qd:decide (max f 0 ≥ min g (m:Int))=false:=decide_eq_false X;clear C q V L W I R Y;have z:=a;have F:=h;have E:=j;go_in
 go_wp2_with ((with_reducible show WL _ _);refine bxL d 27 (.tmp 0) (pc.toArray) ?_)
 intro b6 w1 b d;replace a:=pK a b;replace h:=O (h.keep0 b);replace j:=O (cV.keep0 j.out b);clear b
 go_wp2_with ((with_reducible show WL _ _);refine alL d 27 (.agg aH.toArray) (aH.toArray) bA ?_)
 intro b10 M b d;replace a:=pK a b;replace h:=O (h.keep0 b);replace j:=O (cV.keep0 j.out b);clear b;go_wp2_with fail;refine((by rw[←Q.out];exact kS M l Z:Ka M (aK M (.int .i64 (m:Int))))).mono ?_;rintro e N ⟨rfl,b⟩;replace d:=kL d b;replace a:=pK a b;replace h:=O (h.keep0 b);replace j:=O (cV.keep0 j.out b);clear b
 go_wp2_with ((with_reducible show WL _ _);refine wpList_load_mid rfl 27 (.tmp 6) rfl b6 0 rfl pc _ (aC (d.b 1)) aG rfl (szP9 J) ?_)
 refine((by rw[←y.out];exact cE N pv p a.pt:Ka N (aY N p.hole))).mono ?_;rintro e P ⟨rfl,b⟩;replace d:=kL d b;replace a:=pK a b;replace h:=O (h.keep0 b);replace j:=O (cV.keep0 j.out b);clear b;rw[o.out];go_wp2_with fail;refine((by rw[←Q.out];exact kS P l Z:Ka P (aK P (.int .i64 (m:Int))))).mono ?_;rintro e w5 ⟨rfl,b⟩;replace d:=kL d b;replace a:=pK a b;replace h:=O (h.keep0 b);replace j:=O (cV.keep0 j.out b);clear b
 go_wp2_with ((with_reducible show WL _ _);first
  | refine bld 27 #[] [] (.agg D.toArray) G.out ?_
  | refine sta 27 (.tmp 10) (.tmp 42) b10 0 D (d.b 0) (by first|decide|(rw[n];exact Nat.le_refl _)|simp[n,aE]) (szP9 n) x.out ?_)
 intro w6 b H;rw[aI _ _ (by first|rfl|simp[n,aE])] at H;replace d:=O (d.set 0 b H);replace a:=O (aX.keep0 z.out d.keep);replace h:=O (F.keep0 d.keep);replace j:=O (cV.keep0 E.out d.keep);clear b H;have s:=O (d.b 0);have HP:Hid (bI w c B pv (some .hole) S (.returned (.tuple #[.agg D.toArray,.int .i64 0])) w6):=O (by rw[←A.out];exact bI.hole h.out d.keep);clear d h j a;go_wp2_with fail;refine bodyPost_ret (aT rfl _ _ b10 _ _ _ _ rfl s.out aG rfl (by rw[List.size_toArray,n];exact cC)) rfl ?_;exact HP.out
structure oK(w W0:World)(B:Nat->Prop)(c b4 b5 b6 b10 b12 l:Nat)(S:Kor)(t:Tr)(f g:Int)(pv:Value)(vs:Nat->Value)(k:Nat)(ch:Bool)(wr:World)(K:Nat->Tr)(T:Kor)(B':Nat->Prop)(vs':Nat->Value):Prop where
 eq:gI (cF l) (4 ^ l) S t f g k=(some (K,ch),T)
 ki:KI wr c T B'
 new:bS wr B' vs' (fun i=>(K i).ptr)
 old:bS wr B' vs (fun i=>(t.kid i).ptr)
 pt:aX wr B' pv t.ptr
 cl:cV wr B' b4 b5 c
 h12:wr.heap[b12]?=some (.cells (bU ((l+1:Nat):Int) vs' (fun i=>(K i).ptr)).toArray 98 (0,0))
 h6:wr.heap[b6]?=some (.cells (aF pv t.ptr).toArray 27 (0,0))
 h10:wr.heap[b10]?=some (.cells aH.toArray 27 (0,0))
 sub:∀i,B' i->B i\/W0.heap.size≤i
 clo:Cl w wr B B'
 off:∀q,q<4->∀i,(vs' q).ownBlock=some i->i≠b6/\i≠b10/\i≠b12
 keep:aA (fun i=>B i\/i=b12) W0 wr
theorem oK.loc{wr:World}
 (h:oK w W0 B c b4 b5 b6 b10 b12 l S t f g pv vs k ch wr K T B' vs') (o:aA aB w W0) (j:∀i,B i->i<w.heap.size) (m:w.heap.size≤b6/\b6<W0.heap.size) (b:w.heap.size≤b10/\b10<W0.heap.size) (d:w.heap.size≤b12/\b12<W0.heap.size) (p:b12≠b10) (q:b12≠b6) (r:b10≠b6) :
 Loc B B' w wr [(b12,(bU ((l+1:Nat):Int) vs' (fun i=>(K i).ptr)).toArray,98),(b10,aH.toArray,27),(b6,(aF pv t.ptr).toArray,27)]:=by
 refine⟨o.trans' h.keep (fun _ _ h=>h.elim) (fun i s e=>e.elim id fun e=>by omega),fun x a=>?_,?_,fun x a=>?_,fun x a n=>?_⟩
 ·simp only[List.mem_cons,List.not_mem_nil,or_false] at a
  rcases a with rfl|rfl|rfl
  ·exact d.1
  ·exact b.1
  ·exact m.1
 ·simp[p,q,r]
 ·simp only[List.mem_cons,List.not_mem_nil,or_false] at a
  rcases a with rfl|rfl|rfl
  ·exact h.h12
  ·exact h.h10
  ·exact h.h6
 ·simp only[List.mem_cons,List.not_mem_nil,or_false] at a
  have:=h.sub _ n;rcases a with rfl|rfl|rfl
  ·exact this.elim (fun e=>by have:=j _ e;simp only at this;omega) (fun e=>by simp only at e;omega)
  ·exact this.elim (fun e=>by have:=j _ e;simp only at this;omega) (fun e=>by simp only at e;omega)
  ·exact this.elim (fun e=>by have:=j _ e;simp only at this;omega) (fun e=>by simp only at e;omega)
theorem oK.step{wr:World}
 (h:oK w W0 B c b4 b5 b6 b10 b12 l S t f g pv vs k ch wr K T B' vs'){y r:World}{u:Tr}{d:Nat->Prop}(e:cF l T (t.kid k) (f-k*4 ^ l) (g-k*4 ^ l)=(some u,U))
 (ki:KI y c U d) (pt:aX y d v u.ptr) (sub:∀i,d i->B' i\/wr.heap.size≤i) (clo:Cl wr y B' d) (M:aA B' wr y) (z:aA (fun i=>i=b12) y r)
 (h12:r.heap[b12]?=some (.cells (bU ((l+1:Nat):Int) (fT vs' k v) (fT (fun i=>(K i).ptr) k u.ptr)).toArray 98 (0,0)))
 (C:v=vs k\/dQ wr v) (x:∀q,q<4->∀i,(vs q).ownBlock=some i->i≠b6/\i≠b10/\i≠b12) (J:k<4) (A:∀i,pv.ownBlock=some i->i≠b12) (D:b4≠b12/\b5≠b12) (H:∀i,B i->i<w.heap.size)
 (Q:w.heap.size≤b6/\b6<W0.heap.size) (E:w.heap.size≤b10/\b10<W0.heap.size) (F:w.heap.size≤b12/\b12<W0.heap.size) (N:b12≠b10) (P:b12≠b6) :
 oK w W0 B c b4 b5 b6 b10 b12 l S t f g pv vs (k+1) (ch || !(t.kid k).ptr.eqB u.ptr) r (eV K k u) U d (fT vs' k v):=by
 have L:=h.keep.size;have n:∀i,B' i->i≠b6/\i≠b10/\i≠b12:=fun i a=>(h.sub i a).elim (fun e=>by have:=H i e;omega) fun e=>by omega
 have j:∀i,d i->i≠b6/\i≠b10/\i≠b12:=fun i a=>(sub i a).elim (n i) fun e=>by omega
 have s:∀i,v.ownBlock=some i->i≠b6/\i≠b10/\i≠b12:=fun i a=>by
  rcases C with rfl|C
  ·exact x k J i a
  ·have:=C i a;omega
 have b:aA (fun i=>B' i\/i=b12) wr r:=M.trans' z (fun _ _ h=>.inl h) (fun i _ e=>.inr e)
 refine⟨?_,ki.keepT z fun i e I=>(j i I).2.2 e,fun q p=>?_,fun q p=>(h.old q p).grow (T:=fun i=>i=b12) b (fun i a=>(x q p i a).2.2) sub,h.pt.grow (T:=fun i=>i=b12) b A sub,?_,by rw[←E5];exact h12,
  b.blk h.h6 (fun e=>e.elim (fun e=>(n _ e).1 rfl) (fun e=>P e.symm)),b.blk h.h10 (fun e=>e.elim (fun e=>(n _ e).2.1 rfl) (fun e=>N e.symm)),fun i a=>(sub i a).elim (h.sub i) fun e=>.inr (by omega),
  (h.clo.trans clo).onT z fun i a=>(j i a).2.2,fun q p i a=>?_,h.keep.tT b (fun i a e=>e.elim (fun e=>(h.sub i e).imp id fun e=>by omega) .inr)⟩
 ·unfold gI
  rw[h.eq];simp only[];rw[e]
 ·show aX r d (fT vs' k v q) (eV K k u q).ptr
  by_cases e:q=k
  ·subst e;rw[oH,fE];exact pt.keepT z fun i a=>(s i a).2.2
  ·rw[oI _ _ e,eF _ _ e];exact(h.new q p).grow (T:=fun i=>i=b12) b (fun i a=>(h.off q p i a).2.2) sub
 ·have o4:=h.cl.o4;have o5:=h.cl.o5
  have m:∀{i},Off wr B' i->¬(d i)/\i<r.heap.size:=fun {i} o=>⟨fun e=>(sub i e).elim o.1 fun e=>by have:=o.2;omega,by have:=o.2;have:=b.size;omega⟩
  exact⟨b.blk h.cl.c (fun e=>e.elim o4.1 D.1),h.cl.y.imp fun T G=>b.blk G (fun e=>e.elim o5.1 D.2),m o4,m o5⟩
 ·by_cases e:q=k
  ·subst e;rw[oH] at a;exact s i a
  ·rw[oI _ _ e] at a;exact h.off q p i a
theorem By{cut:Kor->Tr->Int->Int->Option Tr×Kor}{W:Int}:∀{i j:Nat},gI cut W S t f g j=(none,U)->j≤i->gI cut W S t f g i=(none,U)
 | 0,j,h,a=>by
   obtain rfl:j=0:=by omega
   exact h
 | i+1,j,h,a=>by
   by_cases e:j=i+1
   ·subst e;exact h
   ·unfold gI
    rw[By (i:=i) h (by omega)]
theorem oK.fail{wr:World}
 (h:oK w W0 B c b4 b5 b6 b10 b12 l S t f g pv vs k ch wr K T B' vs') (a:k<4)(e:cF l T (t.kid k) (f-k*4 ^ l) (g-k*4 ^ l)=(none,U)):gI (cF l) (4 ^ l) S t f g 4=(none,U):=by
 refine By (j:=k+1) ?_ (by omega);unfold gI;rw[h.eq];simp only[];rw[e]
theorem oK.kids{wr:World}
 (h:oK w W0 B c b4 b5 b6 b10 b12 l S t f g pv vs k ch wr K T B' vs') (m:l≤2) (a:S.Bd) (b:Tr.Ok S (l+1) t) (j:k≤4):Beh S T/\∀i,i<4->Tr.Ok T l (K i):=by
 obtain⟨d,e⟩:=B7 (C:=fun _ _ _=>True) a b (fun a b h=>tO (by omega) a b h) k j h.eq;exact⟨d,(e K ch rfl).1⟩
def PN(l:Nat):Prop:=∀(w:World) (c:Nat) (S:Kor) (B:Nat->Prop),KI w c S B->∀(b4 b5:Nat) (pv:Value) (t:Tr) (f g:Int),(-1000≤f/\f≤1000)->(-1000≤g/\g≤1000)->Tr.Ok S l t->aX w B pv t.ptr->cV w B b4 b5 c ->
 Calls prog 85 #[.agg (aF pv t.ptr).toArray,.int .i64 (l:Int),.int .i64 f,.int .i64 g,.pointer b4,.pointer b5] w (bI w c B pv (cF l S t f g).1 (cF l S t f g).2)
theorem K7(za:l≤2)(IH:PN l)(hK:KI w c S B)(pv:Value)(t:Tr)(f g:Int)(hf:-1000≤f/\f≤1000)(hg:-1000≤g/\g≤1000)(ht:Tr.Ok S (l+1) t)(hp:aX w B pv t.ptr)(hc:cV w B b4 b5 c)(hh:t.isHole=false)(he:¬min g (4 ^ (l+1))≤max f 0)(hw:¬min g (4 ^ (l+1))-max f 0=4 ^ (l+1)):Calls prog 85 #[.agg (aF pv t.ptr).toArray,.int .i64 ((l+1:Nat):Int),.int .i64 f,.int .i64 g,.pointer b4,.pointer b5] w (bI w c B pv (cF (l+1) S t f g).1 (cF (l+1) S t f g).2):=by
 have HT:=O ht;have HC:=O hc;have xb:=O IH;have J:=O (fun i (e:B i)=>hK.lt e);have zu:=O hK.bd;have zb:=O (And.intro hc.o4.2 hc.o5.2);have qj:=O (fun i o=>(hp.off i o).2.lt);have zi:=O ht.hole_eq;rw[hh] at zi;have z:=O hp;have HK:=O hK;obtain⟨p,zr⟩:=zX9 t.ptr
 have qp:=O zr;rw[zr] at z hp zi ⊢;obtain⟨pc,qo,qi,xj⟩:=nmPt hp.pt;rw[qo.out];have q3:(aF (.slice none 0 0) zPt).length=35:=rfl;have zs:=kT;obtain⟨zp,ql⟩:=zX9 (aF (.slice none 0 0) zPt)
 have z0:Hid (∀u∈zp,u.oneCell'=true):=O (by rw[←ql];exact cK zPt);have z2:=O ql;rw[ql] at q3 zs;have xo:=O zs;clear ql zs;have d:=lN w;obtain⟨m,hm⟩:∃m:Nat,4 ^ (l+1)=m:=⟨_,rfl⟩
 have HM:=O hm;have hl:l+1≤3:=by omega
 have xr:m≤64/\1≤m:=by
  have:l=0\/l=1\/l=2:=by omega
  rcases this with rfl|rfl|rfl<;>omega
 have xz:0≤((l+1:Nat):Int):=by omega
 have em:(4:Int) ^ (l+1)=(m:Int):=by rw[←hm];exact_mod_cast rfl
 have zh:Hid (cF (l+1) S t f g=match gI (cF l) (4 ^ l) S t (max f 0) (min g (m:Int)) 4 with
  | (none,T)=>(none,T)
  | (some (k,ch),T)=>if ch then T.lay (l+1) k else (some t,T)):=O (by
  show (if t.isHole || decide (min g (4 ^ (l+1))≤max f 0) then (some t,S) else if min g (4 ^ (l+1))-max f 0=4 ^ (l+1) then (some .hole,S) else _)=_;rw[hh,decide_eq_false he,if_neg (by decide),if_neg hw,em];rfl)
 rw[em] at he hw;have xx:decide (max f 0 ≥ min g (m:Int))=false:=decide_eq_false he;clear hp zr hK ht hc hm em hh IH;go_in
 go_wp2_with ((with_reducible show WL _ _);refine bxL d 27 (.tmp 0) (pc.toArray) ?_)
 intro b6 w1 a d;replace z:=pK z a;replace HK:=O (HK.keep0 a);replace HC:=O (cV.keep0 HC.out a);clear a
 go_wp2_with ((with_reducible show WL _ _);refine alL d 27 (.agg aH.toArray) (aH.toArray) bA ?_)
 intro b10 w2 a d;replace z:=pK z a;replace HK:=O (HK.keep0 a);replace HC:=O (cV.keep0 HC.out a);clear a;go_wp2_with fail;refine((by rw[←HM.out];exact kS w2 (l+1) hl:Ka w2 (aK w2 (.int .i64 (m:Int))))).mono ?_;rintro e w3 ⟨rfl,a⟩;replace d:=kL d a;replace z:=pK z a;replace HK:=O (HK.keep0 a);replace HC:=O (cV.keep0 HC.out a);clear a
 go_wp2_with ((with_reducible show WL _ _);refine wpList_load_mid rfl 27 (.tmp 6) rfl b6 0 rfl pc _ (aC (d.b 1)) aG rfl (szP9 qi) ?_)
 refine((by rw[←qo.out];exact cE w3 pv p z.pt:Ka w3 (aY w3 p.hole))).mono ?_;rintro e w4 ⟨rfl,a⟩;replace d:=kL d a;replace z:=pK z a;replace HK:=O (HK.keep0 a);replace HC:=O (cV.keep0 HC.out a);clear a;rw[zi.out];go_wp2_with fail;refine((by rw[←HM.out];exact kS w4 (l+1) hl:Ka w4 (aK w4 (.int .i64 (m:Int))))).mono ?_;rintro e w5 ⟨rfl,a⟩;replace d:=kL d a;replace z:=pK z a;replace HK:=O (HK.keep0 a);replace HC:=O (cV.keep0 HC.out a);clear a;have c1:w5.cell? ⟨b4,0,none⟩=some (.pointer c):=(aD (i:=0) HC.c rfl)
 go_wp2_with ((with_reducible show WL _ _);refine wpList_load_mid rfl 27 (.tmp 6) rfl b6 0 rfl pc _ (aC (d.b 1)) aG rfl (szP9 qi) ?_)
 clear c1;have xt:=O d.keep.size;have xd:=O (And.intro (d.lt 0).2 (d.lt 1).2);refine((by rw[←qo.out,←qp.out];exact C6 HK.out za pv t HT.out (by rw[qp.out];exact z.pt):Ka w5 (eU w5 B l t))).mono ?_;rintro e w6 ⟨vs,rfl,q1,zg,a⟩;have qu:=O q1;have qa:=O zg;have qh:=cX ((l+1:Nat):Int) vs q1.nv;have zd:=cZ ((l+1:Nat):Int) q1.nv;obtain⟨nn,qe⟩:=zX9 (bU ((l+1:Nat):Int) vs (fun i=>(t.kid i).ptr))
 have xi:Hid (∀u∈nn,u.oneCell'=true):=O (by rw[←qe];exact zd);have xf:=O qe;rw[qe] at qh ⊢;obtain⟨tc,q0⟩:=zX9 (tQ vs (fun i=>(t.kid i).ptr))
 have zz:Hid (nn=.int .i64 ((l+1:Nat):Int)::tc):=O (by rw[←qe,←q0];rfl);have xm:=O q0;have xq:tc.length=140:=by have h:=qh;rw[zz.out,List.length_cons] at h;omega
 have xg:=O (fun q (hq:q<4) i o=>((q1 q hq).off i o).2.lt);clear zd qe q1 zg q0;replace d:=kL d a;replace z:=pK z a;replace HK:=O (HK.keep0 a);replace HC:=O (cV.keep0 HC.out a);clear a
 go_wp2_with ((with_reducible show WL _ _);refine al 98 (.agg cQ.toArray) (cQ.toArray) iM ?_)
 intro b12 w7 E I D
 go_wp2_with ((with_reducible show WL _ _);refine sta 98 (.tmp 12) (.tmp 48) b12 0 nn D (by first|decide|(rw[List.size_toArray,qh];exact Nat.le_refl _)|simp[qh,bK]) (by rw[qh];exact dA) xi.out ?_)
 intro w8 a y;rw[aI _ _ (by first|rfl|(rw[List.size_toArray,qh];rfl)|simp[qh,bK])] at y;replace a:=tX I a (fun i o e=>by omega);have zl:=O (show w6.heap.size≤b12 from Nat.le_of_eq E);replace d:=lW d E a y;replace z:=pK z a;replace HK:=O (HK.keep0 a);replace HC:=O (cV.keep0 HC.out a);replace qu:=O (bS.keep0 qu.out a);clear E a y I D
 go_wp2_with ((with_reducible show WL _ _);refine wpList_load_mid rfl 96 (.tmp 54) rfl b12 1 rfl tc _ (by have h:=aC (d.b 0);rw[zz.out] at h;exact vF h) underlying96 rfl (by rw[xq];exact NH) ?_)
 have zn:=O (show ∀q,q<4->∀i,(vs q).ownBlock=some i->i≠b6/\i≠b10/\i≠b12 from fun q hq i o=>by (have:=qa.out q hq i o;have:=xg.out q hq i o;have:=xd.out;have:=zl.out;omega));have N:=O (show b12≠b10/\b12≠b6/\b10≠b6 from⟨bH d.nd (i:=1) rfl 0 (by decide) rfl,bH d.nd (i:=2) rfl 0 (by decide) rfl,bH d.nd (i:=2) rfl 1 (by decide) rfl⟩);have xl:Hid (∃K T B' vs',oK w w8 B c b4 b5 b6 b10 b12 l S t (max f 0) (min g (m:Int)) pv vs 0 false w8 K T B' vs'):=O ⟨t.kid,S,B,vs,rfl,HK.out,qu.out,qu.out,by rw[qp.out];exact z.out,HC.out,by (have h:=d.b 0;rw[←xf.out] at h;exact h),by (have h:=d.b 2;rw[←qo.out,←qp.out] at h;exact h),d.b 1,fun _ h=>.inl h,Cl.refl _ _ _ d.keep,zn.out,aA.refl _ _⟩;have R:=O (And.intro (d.lt 0) (And.intro (d.lt 1) (d.lt 2)));have qm:=O d.keep;have xv:=O (fun i o=>(z.off i o).2);have xu:=O qj.out;clear d HK z HC qu
 go_loopw [14,56] (fun ch i wr=>∃(k:Nat) (cb:Bool),k≤4/\ch=.bool cb/\i=.int .i64 (k:Int)/\Hid (∃K T B' vs',oK w w8 B c b4 b5 b6 b10 b12 l S t (max f 0) (min g (m:Int)) pv vs k cb wr K T B' vs')) (fun _ i _=>4-(intOf i).toNat)
 case atStart=>exact⟨0,false,by omega,rfl,rfl,xl⟩
 case round =>
  obtain⟨k,cb,a,rfl,rfl,zv⟩:=hrel;obtain⟨K,T,B',vs',F⟩:=zv.out
  by_cases P:k<4
  ·have M:=O F.ki;have A:=O (F.old k P);have L:=O F.cl;have b:=O F
   have d:=O (F.loc qm.out J.out R.2.2 R.2.1 R.1 N.1 N.2.1 N.2.2);have V:=O (aA.refl aB wr);obtain⟨W,hW⟩:∃W:Nat,4 ^ l=W:=⟨_,rfl⟩
   have z3:W≤16:=by
    have:l=0\/l=1\/l=2:=by omega
    rcases this with rfl|rfl|rfl<;>omega
   have HW:=O hW;obtain⟨kw,zq⟩:∃q:Nat,k*W=q:=⟨_,rfl⟩
   have xp:kw≤48:=by rw[←zq];exact Nat.le_trans (Nat.mul_le_mul (by omega:k≤3) z3) (by decide)
   have z6:(k:Int)*(W:Int)=(kw:Int):=by rw[←zq];push_cast;rfl
   have qt:Hid ((k:Int)*(4:Int) ^ l=(kw:Int)):=O (by rw[←z6,←hW];push_cast;rfl);have qf:=aJ (v:=vs k) A.pt.sum;have ze:=aN A.pt;have zo:=GQ F.old.nv P;obtain⟨qc,qg⟩:=zX9 (aF (vs k) ((t.kid k).ptr))
   have xk:Hid (∀u∈qc,u.oneCell'=true):=O (by rw[←qg];exact ze);have z1:=O qg;rw[qg] at qf;rw[xm.out,qg] at zo;have xa:=O zo;obtain⟨⟨r,U⟩,qz⟩:∃q,cF l T (t.kid k) (max f 0-(kw:Int)) (min g (m:Int)-(kw:Int))=q:=⟨_,rfl⟩
   have Y:=O qz;have xn:=O ((HT.kid P).ext (F.kids za zu.out HT.out a).1.ext);have I:(0:Int)≤(k:Int):=by omega
   have xy:(k:Int)<4:=by omega
   have xw:=HM.out;have q5:=O (And.intro F.sub F.keep.size);clear qg ze F zo hW zq qz
   go_wp2_with ((with_reducible show WL _ _);first
    | refine idx 96 27 4 35 k _ .i64 _ (.tmp 55) (.tmp 56) underlying96 P aG rfl xB ?_;rw[xa.out]
    | refine al 27 (.agg aH.toArray) (aH.toArray) bA ?_)
   intro q9 wa E I D
   go_wp2_with ((with_reducible show WL _ _);refine sta 27 (.tmp 16) (.tmp 59) q9 0 qc D (by first|decide|(rw[List.size_toArray,qf];exact Nat.le_refl _)|simp[qf,aE]) (szP9 qf) xk.out ?_)
   intro wb a y;rw[aI _ _ (by first|rfl|(rw[List.size_toArray,qf];rfl)|simp[qf,aE])] at y;replace a:=tX I a (fun i o e=>by omega);have xh:=O (show wr.heap.size≤q9 from Nat.le_of_eq E);replace d:=O (d.new (fun k h=>M.lt h) E a y);replace M:=O (M.keep0 a);replace A:=pK A a;replace L:=O (cV.keep0 L.out a);replace V:=O (V.trans a);clear E a y I D;go_wp2_with fail;refine((by rw[←HW.out];exact kS wb l (by omega):Ka wb (aK wb (.int .i64 (W:Int))))).mono ?_;rintro e wc ⟨rfl,a⟩;replace d:=kL d a;replace M:=O (M.keep0 a);replace A:=pK A a;replace L:=O (cV.keep0 L.out a);replace V:=O (V.trans a);clear a;have c1:wc.cell? ⟨b5,0,none⟩=some (.func (.func 85) #[] #[.pointer b4,.pointer b5]):=(by obtain⟨T9,h9⟩:=L.y;exact aD (i:=0) h9 rfl)
   go_wp2_with ((with_reducible show WL _ _);refine wpList_load_mid rfl 27 (.tmp 16) rfl q9 0 rfl qc _ (aC (d.b 0)) aG rfl (szP9 qf) ?_)
   clear c1;refine((by have h:=xb.out wc c T B' M.out b4 b5 (vs k) (t.kid k) (max f 0-(kw:Int)) (min g (m:Int)-(kw:Int)) (by omega) (by omega) xn.out A.out L.out;rw[Y.out,z1.out] at h;exact h:Ka wc (bI wc c B' (vs k) r U))).mono ?_;rintro e wd ⟨v,B2,qq,Q,qy,H,qw,qr,a⟩;have C:=O Q;have j:=O qy;have X:=O (show ∀i,B2 i->B' i\/wr.heap.size≤i from fun i o=>(H i o).imp id fun h=>Nat.le_trans V.size h);have qa:=O (qr.imp id fun h=>h.from V.size);have s:=O ((Cl.refl wr wc B' V.out).trans qw);replace V:=O (V.any.trans a);have zf:=O (fun i o=>(Q.off i o).2.lt);replace A:=O (A.keep a H);replace d:=O (d.turn a (fun i o e=>(q5.1 i e).elim id fun e=>by have:=qm.size;omega) (fun i o y=>(H i y).elim id fun e=>by omega));have n:=aJ (v:=v) Q.pt.sum;have qb:=aN Q.pt;obtain⟨rc,G⟩:=zX9 (aF v (eS r))
   have qn:Hid (∀u∈rc,u.oneCell'=true):=O (by rw[←G];exact qb);have qv:=O G;rw[G] at n qq;subst qq;clear G qb Q qy H qw qr a M L;rcases r with _|u
   ·go_wp2_with ((with_reducible show WL _ _);refine al 27 (.agg aH.toArray) (aH.toArray) bA ?_)
    intro qd we E I D
    go_wp2_with ((with_reducible show WL _ _);refine sta 27 (.tmp 18) (.tmp 77) qd 0 rc D (by first|decide|(rw[List.size_toArray,n];exact Nat.le_refl _)|simp[n,aE]) (szP9 n) qn.out ?_)
    intro wf a y;rw[aI _ _ (by first|rfl|(rw[List.size_toArray,n];rfl)|simp[n,aE])] at y;replace a:=tX I a (fun i o e=>by omega);have zm:=O (show wd.heap.size≤qd from Nat.le_of_eq E);replace d:=O (d.new (fun k h=>j.lt h) E a y);replace A:=pK A a;replace j:=O (j.keep0 a);replace C:=pK C a;replace V:=O (V.trans (aA.any a));replace s:=O (Cl.onT s.out a fun _ _=>id);clear E a y I D
    go_wp2_with ((with_reducible show WL _ _);first
     | refine bld 27 #[] [] (.agg zp.toArray) xo.out ?_
     | refine sta 27 (.tmp 10) (.tmp 81) b10 0 zp (d.b 3) (by rw[List.size_toArray,aE,q3];exact Nat.le_refl _) (szP9 q3) z0.out ?_)
    intro w9 a y;rw[aI _ _ (by rw[List.size_toArray,aE,q3])] at y;have Z:=O y;have e0:cF (l+1) S t f g=(none,U):=by rw[zh.out,b.fail (k:=k) P (by rw[qt.out];exact Y.out)]
    have HP:Hid (bI w c B pv (cF (l+1) S t f g).1 (cF (l+1) S t f g).2 (.returned (.tuple #[.agg zp.toArray,.int .i64 15])) w9):=O (by
     rw[e0,←z2.out];have hg:=R.out;have hz:=q5.out;have nb:∀i,B2 i->i≠b10:=fun i o e=>(X i o).elim (fun h=>(hz.1 i h).elim (fun h=>by have:=J.out i h;omega) fun h=>by omega) fun h=>by omega
     refine⟨_,B2,rfl,aX.hole _ _,j.keepT a fun i e y=>nb i y e,fun i o=>(X i o).elim (fun h=>(hz.1 i h).imp id fun h=>by omega) fun h=>.inr (by omega),(b.clo.trans s.out).onT a nb,.inr (dQ.nil w),?_⟩;exact((d.keep).tT a (fun i o e=>by omega)))
    clear a y d j C A V s b e0;go_wp2_with fail;refine bodyPost_ret (aT rfl _ _ b10 _ _ _ _ rfl Z.out aG rfl (by rw[List.size_toArray,q3];exact cC)) rfl ?_;exact HP.out
   ·go_wp2_with ((with_reducible show WL _ _);refine al 27 (.agg aH.toArray) (aH.toArray) bA ?_)
    intro qd we E I D
    go_wp2_with ((with_reducible show WL _ _);refine sta 27 (.tmp 18) (.tmp 77) qd 0 rc D (by first|decide|(rw[List.size_toArray,n];exact Nat.le_refl _)|simp[n,aE]) (szP9 n) qn.out ?_)
    intro wf a y;rw[aI _ _ (by first|rfl|(rw[List.size_toArray,n];rfl)|simp[n,aE])] at y;replace a:=tX I a (fun i o e=>by omega);have zm:=O (show wd.heap.size≤qd from Nat.le_of_eq E);replace d:=O (d.new (fun k h=>j.lt h) E a y);replace A:=pK A a;replace j:=O (j.keep0 a);replace C:=pK C a;replace V:=O (V.trans (aA.any a));replace s:=O (Cl.onT s.out a fun _ _=>id);clear E a y I D
    cases cb with
     | true =>
       go_wp2_with ((with_reducible show WL _ _);first
        | refine wpList_load_mid rfl 27 (.tmp 18) rfl qd 0 rfl rc _ (aC (d.b 0)) aG rfl (szP9 n) ?_
        | refine sta 27 (.tmp 93) (.tmp 91) b12 (1+k*35) rc (d.b 2) (by rw[List.size_toArray,cX _ _ b.new.nv,n];omega) (szP9 n) qn.out ?_)
       intro w9 a y;rw[←qv.out,show eS (some u)=u.ptr from rfl,EZ b.new.nv _ P (show u.ptr.sum.length=32 from C.pt.sum)] at y
       have zk:Hid (∃K T B' vs',oK w w8 B c b4 b5 b6 b10 b12 l S t (max f 0) (min g (m:Int)) pv vs (k+1) true w9 K T B' vs'):=O ⟨eV K k u,U,B2,fT vs' k v,by
        have h:=b.step (by rw[qt.out];exact Y.out) j.out C.out X.out s.out V.out a y qa.out zn.out P (fun i o=>by have:=qj.out i o;have:=R.out;omega) (by have:=zb.out;have:=R.out;omega) J.out R.2.2 R.2.1 R.1 N.1 N.2.1;rw[show (true || !(t.kid k).ptr.eqB u.ptr)=true from by rw[Bool.true_or]] at h;exact h⟩
       clear a y d j C A V s b X qa Y q5;go_wp2
       go_roundw
       case rel=>exact⟨k+1,true,by omega,rfl,by go_num,zk⟩
       case measure=>simp[intOf];omega
     | false =>
       obtain⟨eb,z5⟩:=zX9 ((t.kid k).ptr.eqB u.ptr)
       have zw:=O z5;clear z5
       go_wp2_with ((with_reducible show WL _ _);first
        | refine aM (by rfl) 27 (.tmp 16) rfl q9 0 rfl qc _ (aC (d.b 1)) aG rfl (szP9 qf) ?_
        | refine aM (by rfl) 27 (.tmp 18) rfl qd 0 rfl rc _ (aC (d.b 0)) aG rfl (szP9 n) ?_)
       refine((by rw[←z1.out,←qv.out];exact uU wf (vs k) v (t.kid k).ptr u.ptr A.pt C.pt:Ka wf (aY wf ((t.kid k).ptr.eqB u.ptr)))).mono ?_;rintro e wg ⟨rfl,a⟩;replace d:=kL d a;replace A:=pK A a;replace j:=O (j.keep0 a);replace C:=pK C a;replace V:=O (V.trans (aA.any a));replace s:=O (Cl.onT s.out a fun _ _=>id);clear a;rw[zw.out]
       go_wp2_with ((with_reducible show WL _ _);first
        | refine wpList_load_mid rfl 27 (.tmp 18) rfl qd 0 rfl rc _ (aC (d.b 0)) aG rfl (szP9 n) ?_
        | refine sta 27 (.tmp 93) (.tmp 91) b12 (1+k*35) rc (d.b 2) (by rw[List.size_toArray,cX _ _ b.new.nv,n];omega) (szP9 n) qn.out ?_)
       intro w9 a y;rw[←qv.out,show eS (some u)=u.ptr from rfl,EZ b.new.nv _ P (show u.ptr.sum.length=32 from C.pt.sum)] at y
       have zk:Hid (∃K T B' vs',oK w w8 B c b4 b5 b6 b10 b12 l S t (max f 0) (min g (m:Int)) pv vs (k+1) (!eb) w9 K T B' vs'):=O ⟨eV K k u,U,B2,fT vs' k v,by
        have h:=b.step (by rw[qt.out];exact Y.out) j.out C.out X.out s.out V.out a y qa.out zn.out P (fun i o=>by have:=qj.out i o;have:=R.out;omega) (by have:=zb.out;have:=R.out;omega) J.out R.2.2 R.2.1 R.1 N.1 N.2.1;rw[show (false || !(t.kid k).ptr.eqB u.ptr)=(!eb) from by rw[zw.out,Bool.false_or]] at h;exact h⟩
       clear a y d j C A V s b X qa Y q5;go_wp2
       go_roundw
       case rel=>exact⟨k+1,(!eb),by omega,rfl,by go_num,zk⟩
       case measure=>simp[intOf];omega
  ·obtain rfl:k=4:=by omega
   have zx:=O (show wr.heap[b6]?=some (.cells pc.toArray 27 (0,0)) from by have h:=F.h6;rw[qp.out,qo.out] at h;exact h);have zt:=O F.h10;have b:=O F;clear F zv P;cases cb with
   | true =>
     have M:=O b.ki;have zj:=O b.new;have L:=O b.cl;have xc:=O (b.kids za zu.out HT.out (by omega)).2;have z7:=cX ((l+1:Nat):Int) vs' zj.nv;have zy:=O (b.loc qm.out J.out R.2.2 R.2.1 R.1 N.1 N.2.1 N.2.2);obtain⟨mc,qk⟩:=zX9 (bU ((l+1:Nat):Int) vs' (fun i=>(K i).ptr))
     have xe:=O qk;have d:Hid (Loc B B' w wr [(b12,mc.toArray,98),(b10,aH.toArray,27),(b6,(aF pv t.ptr).toArray,27)]):=O (by rw[←qk];exact zy.out);rw[qk] at z7;obtain⟨⟨r,U⟩,qz⟩:∃q,T.lay (l+1) K=q:=⟨_,rfl⟩
     have Y:=O qz;clear qk zy qz;have c1:wr.cell? ⟨b4,0,none⟩=some (.pointer c):=(aD (i:=0) L.c rfl)
     go_wp2_with ((with_reducible show WL _ _);refine wpList_load_mid rfl 98 (.tmp 12) rfl b12 0 rfl mc _ (aC (d.b 0)) underlying98 rfl (by rw[z7];exact dA) ?_)
     clear c1;refine((by rw[←xe.out];have h:=E0 M.out za K xc.out vs' zj.out;rw[Y.out] at h;exact h:Ka wr (bI wr c B' (.slice none 0 0) r U))).mono ?_;rintro e wa ⟨v,B2,qq,Q,qy,H,qw,qr,a⟩;have C:=O Q;have j:=O qy;have X:=O H;have qa:=O qr;have s:=O qw;have zf:=O (show ∀i,v.ownBlock=some i->i≠b10 from fun i o e=>qr.elim (fun h=>by rw[h] at o;cases o) fun h=>by have:=h i o;have:=R.out;have:=b.keep.size;omega);replace d:=O (d.turn a (fun i o e=>(b.sub i e).elim id fun e=>by have:=qm.size;omega) (fun i o y=>(H i y).elim id fun e=>by omega));have n:=aJ (v:=v) Q.pt.sum;have qb:=aN Q.pt;obtain⟨rc,G⟩:=zX9 (aF v (eS r))
     have qn:Hid (∀u∈rc,u.oneCell'=true):=O (by rw[←G];exact qb);have qv:=O G;obtain⟨er,qx⟩:=zX9 (fG r)
     have z9:=O qx;rw[G] at n qq;rw[qx] at qq;subst qq;clear G qx qb Q qy H qw qr a M L zj
     go_wp2_with ((with_reducible show WL _ _);refine sta 27 (.tmp 10) (.tmp 101) b10 0 rc (d.b 1) (by rw[List.size_toArray,aE,n];exact Nat.le_refl _) (szP9 n) qn.out ?_)
     intro w9 a y;rw[aI _ _ (by rw[List.size_toArray,aE,n])] at y;have Z:=O y;have e0:cF (l+1) S t f g=(r,U):=by rw[zh.out,b.eq];exact Y.out
     have HP:Hid (bI w c B pv (cF (l+1) S t f g).1 (cF (l+1) S t f g).2 (.returned (.tuple #[.agg rc.toArray,.int .i64 er])) w9):=O (by
      rw[e0,←qv.out,←z9.out];have hg:=R.out;have hz:=b.keep.size;have hw:=qm.size;have sub:∀i,B2 i->B i\/w8.heap.size≤i:=fun i o=>(X i o).elim (b.sub i) fun h=>.inr (by omega)
      have nb:∀i,B2 i->i≠b10:=fun i o e=>(sub i o).elim (fun h=>by have:=J.out i h;omega) fun h=>by omega
      refine⟨v,B2,rfl,C.keepT a zf.out,j.keepT a fun i e y=>nb i y e,fun i o=>(sub i o).imp id fun h=>by omega,(b.clo.trans s.out).onT a nb,.inr (qa.elim (fun e=>by rw[e];exact dQ.nil w) fun h=>h.from (by omega)),?_⟩;exact((d.keep).tT a (fun i o e=>by omega)))
     clear a y d j C s b e0 X;go_wp2_with fail;refine bodyPost_ret (aT rfl _ _ b10 _ _ _ _ rfl Z.out aG rfl (by rw[List.size_toArray,n];exact cC)) rfl ?_;exact HP.out
   | false =>
     go_wp2_with ((with_reducible show WL _ _);first
      | refine wpList_load_mid rfl 27 (.tmp 6) rfl b6 0 rfl pc _ (aC zx.out) aG rfl (szP9 qi) ?_
      | refine sta 27 (.tmp 10) (.tmp 97) b10 0 pc zt.out (by rw[List.size_toArray,aE,qi];exact Nat.le_refl _) (szP9 qi) xj.out ?_)
     intro w9 a y;rw[aI _ _ (by rw[List.size_toArray,aE,qi])] at y;have Z:=O y;have e0:cF (l+1) S t f g=(some t,T):=by rw[zh.out,b.eq];rfl
     have HP:Hid (bI w c B pv (cF (l+1) S t f g).1 (cF (l+1) S t f g).2 (.returned (.tuple #[.agg pc.toArray,.int .i64 0])) w9):=O (by
      rw[e0,←qo.out,←qp.out];have hg:=R.out;have nb:∀i,B' i->i≠b10:=fun i o e=>(b.sub i o).elim (fun h=>by have:=J.out i h;omega) fun h=>by omega
      refine⟨pv,B',rfl,b.pt.keepT a fun i o e=>by (have:=qj.out i o;omega),b.ki.keepT a fun i e y=>nb i y e,fun i o=>(b.sub i o).imp id fun h=>by omega,b.clo.onT a nb,.inl rfl,?_⟩;exact((qm.trans' b.keep (fun _ _ h=>h.elim) (fun i o e=>e.elim id fun e=>by omega)).tT a (fun i o e=>by omega))
      )
     clear a y zx zt b e0;go_wp2_with fail;refine bodyPost_ret (aT rfl _ _ b10 _ _ _ _ rfl Z.out aG rfl (by rw[List.size_toArray,qi];exact cC)) rfl ?_;exact HP.out
theorem GX:∀l,l≤3->PN l
 | 0,m=>fun w c S B a b4 b5 pv t f g d e j i b=>by
   have n:(4:Int) ^ 0=1:=rfl
   by_cases h:(t.isHole || decide (min g 1≤max f 0))=true
   ·rw[show cF 0 S t f g=(some t,S) from by unfold cF;rw[if_pos h]]
    rw[Bool.or_eq_true,decide_eq_true_eq] at h;exact Db a pv t 0 m f g d e j i b (by rw[n];exact h)
   ·rw[show cF 0 S t f g=(some .hole,S) from by unfold cF;rw[if_neg h]]
    rw[Bool.or_eq_true,not_or,decide_eq_true_eq] at h;exact Dc a pv t 0 m f g d e j i b (by simpa using h.1) (by rw[n];exact h.2) (by rw[n];omega)
 | l+1,m=>fun w c S B a b4 b5 pv t f g d e j i b=>by
   by_cases h:(t.isHole || decide (min g (4 ^ (l+1))≤max f 0))=true
   ·rw[show cF (l+1) S t f g=(some t,S) from by unfold cF;rw[if_pos h]]
    rw[Bool.or_eq_true,decide_eq_true_eq] at h;exact Db a pv t (l+1) m f g d e j i b h
   ·by_cases o:min g (4 ^ (l+1))-max f 0=4 ^ (l+1)
    ·rw[show cF (l+1) S t f g=(some .hole,S) from by unfold cF;rw[if_neg h,if_pos o]]
     rw[Bool.or_eq_true,not_or,decide_eq_true_eq] at h;exact Dc a pv t (l+1) m f g d e j i b (by simpa using h.1) h.2 o
    ·rw[Bool.or_eq_true,not_or,decide_eq_true_eq] at h
     exact K7 (by omega) (GX l (by omega)) a pv t f g d e j i b (by simpa using h.1) h.2 o
theorem Qq:Hid (∀w,(zeroValue 154).run prog w=.ok .nilFunc w):=O fun w=>by kernel_rfl
theorem Nh(hK:KI w c S B)(pv:Value)(t:Tr)(ht:Tr.Ok S 3 t)(hp:aX w B pv t.ptr)(f g:Nat)(za:f≤g)(hg:g≤64):Calls prog 45 #[.pointer c,.agg (aF pv t.ptr).toArray,.int .i64 (f:Int),.int .i64 (g:Int)] w (bI w c B (.slice none 0 0) (cF 3 S t f g).1 (cF 3 S t f g).2):=by
 have HT:=O ht;have F:=O (fun i (e:B i)=>hK.lt e);have qu:=O hK.bd;have j:=O hp;have C:=O hK;have qx:=O (fun i (y:pv.ownBlock=some i)=>(hp.off i y).2.lt);have q3:¬((f:Int)<0):=by omega
 have q5:¬((f:Int) > (g:Int)):=by omega
 have q9:¬((g:Int) > 64):=by omega
 obtain⟨p,Z⟩:=zX9 t.ptr
 have X:=O Z;rw[Z] at j hp ⊢;obtain⟨pc,W,qt,q1⟩:=nmPt hp.pt;rw[W.out];have L:(aF (.slice none 0 0) zPt).length=35:=rfl;have qb:=kT;obtain⟨zp,E⟩:=zX9 (aF (.slice none 0 0) zPt)
 have qk:Hid (∀u∈zp,u.oneCell'=true):=O (by rw[←E];exact cK zPt);have qn:=O E;rw[E] at L qb;have qz:=O qb;clear E qb;have b:=lN w;obtain⟨⟨r,T⟩,qa⟩:∃q,cF 3 S t f g=q:=⟨_,rfl⟩
 have qm:=O qa;rw[qa];clear hp Z hK ht qa;have ql:=j;have qv:=C;go_in
 go_wp2_with ((with_reducible show WL _ _);refine bxL b 39 (.tmp 0) (#[.pointer c]) ?_)
 intro b4 w1 a b;replace j:=pK j a;replace C:=O (C.keep0 a);clear a
 go_wp2_with ((with_reducible show WL _ _);refine bxL b 27 (.tmp 1) (pc.toArray) ?_)
 intro b5 w2 a b;replace j:=pK j a;replace C:=O (C.keep0 a);clear a
 go_wp2_with ((with_reducible show WL _ _);refine alL b 27 (.agg aH.toArray) (aH.toArray) bA ?_)
 intro R w3 a b;replace j:=pK j a;replace C:=O (C.keep0 a);clear a;have c1:w3.cell? ⟨b4,0,none⟩=some (.pointer c):=(aD (i:=0) (b.b 2) rfl)
 go_wp2_with ((with_reducible show WL _ _);refine wpList_load_mid rfl 27 (.tmp 5) rfl b5 0 rfl pc _ (aC (b.b 1)) aG rfl (szP9 qt) ?_)
 clear c1;refine((by rw[←W.out];exact vJ C.out pv p j.pt (by rw[←X.out];exact HT.root):Ka w3 (aK w3 (.int .i64 0)))).mono ?_;rintro e w4 ⟨rfl,a⟩;replace b:=kL b a;replace j:=pK j a;replace C:=O (C.keep0 a);clear a
 go_wp2_with ((with_reducible show WL _ _);refine alL b 154 (.nilFunc) (#[.nilFunc]) Qq ?_)
 intro z w5 a b;replace j:=pK j a;replace C:=O (C.keep0 a);clear a
 go_wp2_with ((with_reducible show WL _ _);refine sta 154 (.tmp 11) (.tmp 33) z 0 ([.func (.func 85) #[] #[.pointer b4,.pointer z]]) (b.b 0) (by simp) (by kernel_rfl) (one9) ?_)
 intro w6 a n;replace n:w6.heap[z]?=some (.cells #[.func (.func 85) #[] #[.pointer b4,.pointer z]] 154 (0,0)):=n;replace b:=O (b.set 0 a n);replace j:=O (aX.keep0 ql.out b.keep);replace C:=O (qv.keep0 b.keep);clear a n;have qe:=O (cV.mk (b.b 3) ⟨_,b.b 0⟩ ⟨fun e=>by have:=F.out _ e;have:=(b.lt 3).1;omega,(b.lt 3).2⟩ ⟨fun e=>by have:=F.out _ e;have:=(b.lt 0).1;omega,(b.lt 0).2⟩:cV w6 B b4 z c);have HG:=O (And.intro (b.lt 0) (And.intro (b.lt 1) (And.intro (b.lt 2) (b.lt 3))));have c1:w6.cell? ⟨z,0,none⟩=some (.func (.func 85) #[] #[.pointer b4,.pointer z]):=(aD (i:=0) (b.b 0) rfl)
 go_wp2_with ((with_reducible show WL _ _);refine wpList_load_mid rfl 27 (.tmp 5) rfl b5 0 rfl pc _ (aC (b.b 2)) aG rfl (szP9 qt) ?_)
 clear c1;refine((by rw[←W.out,←X.out];have h:=GX 3 (Nat.le_refl _) w6 c S B C.out b4 z pv t f g (by omega) (by omega) HT.out (by rw[X.out];exact j.out) qe.out;rw[qm.out] at h;exact h:Ka w6 (bI w6 c B pv r T))).mono ?_;rintro e w7 ⟨v,B2,qq,N,qp,G,qo,qr,a⟩;have s:=O N;have d:=O qp;have qd:=O (show ∀i,B2 i->B i\/w.heap.size≤i from fun i y=>(G i y).imp id fun h=>Nat.le_trans b.keep.size h);have m:=O ((Cl.refl w w6 B b.keep).trans qo);have q0:=O (show ∀i,v.ownBlock=some i->i≠R from fun i y e=>qr.elim (fun h=>by rw[h] at y;have:=qx.out i y;have:=HG.out;omega) fun h=>by have:=h i y;have:=HG.out;omega);replace b:=O ((b.wide F.out).turn a (fun _ _ h=>h) (fun i y n=>(G i n).elim id fun e=>by omega));have o:=aJ (v:=v) N.pt.sum;have Q:=aN N.pt;obtain⟨rc,D⟩:=zX9 (aF v (eS r))
 have qi:Hid (∀u∈rc,u.oneCell'=true):=O (by rw[←D];exact Q);have qy:=O D;rw[D] at o qq;subst qq;clear D Q N qp G qo qr a C j qe;rcases r with _|u
 ·go_wp2_with ((with_reducible show WL _ _);refine al 27 (.agg aH.toArray) (aH.toArray) bA ?_)
  intro b12 w8 H I A
  go_wp2_with ((with_reducible show WL _ _);refine sta 27 (.tmp 12) (.tmp 40) b12 0 rc A (by first|decide|(rw[List.size_toArray,o];exact Nat.le_refl _)|simp[o,aE]) (szP9 o) qi.out ?_)
  intro w9 a n;rw[aI _ _ (by first|rfl|(rw[List.size_toArray,o];rfl)|simp[o,aE])] at n;replace a:=tX I a (fun i y e=>by omega);replace b:=O (b.new (fun k h=>d.lt h) H a n);replace d:=O (d.keep0 a);replace s:=pK s a;replace m:=O (Cl.onT m.out a fun _ _=>id);clear H a n I A
  go_wp2_with ((with_reducible show WL _ _);first
   | refine bld 27 #[] [] (.agg zp.toArray) qz.out ?_
   | refine sta 27 (.tmp 8) (.tmp 44) R 0 zp (b.b 2) (by rw[List.size_toArray,aE,L];exact Nat.le_refl _) (szP9 L) qk.out ?_)
  intro w9 a n;rw[aI _ _ (by rw[List.size_toArray,aE,L])] at n;have V:=O n
  have HP:Hid (bI w c B (.slice none 0 0) none T (.returned (.tuple #[.agg zp.toArray,.int .i64 15])) w9):=O (by
   rw[←qn.out];have hg:=HG.out;have nb:∀i,B2 i->i≠R:=fun i y e=>(b.aq 2) (e▸y)
   exact⟨_,B2,rfl,aX.hole _ _,d.keepT a fun i e n=>nb i n e,qd.out,m.onT a nb,.inl rfl,(b.keep).tT a (fun i y e=>by omega)⟩)
  clear a n b d s m;go_wp2_with fail;refine bodyPost_ret (aT rfl _ _ R _ _ _ _ rfl V.out aG rfl (by rw[List.size_toArray,L];exact cC)) rfl ?_;exact HP.out
 ·go_wp2_with ((with_reducible show WL _ _);refine al 27 (.agg aH.toArray) (aH.toArray) bA ?_)
  intro b12 w8 H I A
  go_wp2_with ((with_reducible show WL _ _);refine sta 27 (.tmp 12) (.tmp 40) b12 0 rc A (by first|decide|(rw[List.size_toArray,o];exact Nat.le_refl _)|simp[o,aE]) (szP9 o) qi.out ?_)
  intro w9 a n;rw[aI _ _ (by first|rfl|(rw[List.size_toArray,o];rfl)|simp[o,aE])] at n;replace a:=tX I a (fun i y e=>by omega);replace b:=O (b.new (fun k h=>d.lt h) H a n);replace d:=O (d.keep0 a);replace s:=pK s a;replace m:=O (Cl.onT m.out a fun _ _=>id);clear H a n I A;have qc:=O (show u.ptr.addrs.length≤65536 from by have:=(iL (Tr.Ok.may3 (show Tr.Ok T 3 u from((tO (Nat.le_refl 3) qu.out HT.out qm.out).2 u rfl).1))).1;omega)
  go_wp2_with ((with_reducible show WL _ _);refine wpList_load_mid rfl 27 (.tmp 12) rfl b12 0 rfl rc _ (aC (b.b 0)) aG rfl (szP9 o) ?_)
  have qw:=O b.keep.size;go_wp2_with fail;refine((by rw[←qy.out];exact AE (fun i e=>d.lt e) v u.ptr s.pt qc.out:Ka w9 (tR w9 B2 u.ptr))).mono ?_;rintro e wa ⟨ov,rfl,Y,J,a⟩;have qj:=O Y;have qg:=O (J.from qw.out);have qf:=O (show ∀i,ov.ownBlock=some i->i≠R from fun i y e=>by have:=J i y;have:=(b.lt 2).2;omega);obtain⟨oc,P,M,qh⟩:=nmPt Y.pt;rw[P.out];clear Y J;replace b:=kL b a;replace d:=O (d.keep0 a);replace s:=pK s a;replace m:=O (Cl.onT m.out a fun _ _=>id);clear a
  go_wp2_with ((with_reducible show WL _ _);refine sta 27 (.tmp 8) (.tmp 47) R 0 oc (b.b 2) (by rw[List.size_toArray,aE,M];exact Nat.le_refl _) (szP9 M) qh.out ?_)
  intro w9 a n;rw[aI _ _ (by rw[List.size_toArray,aE,M])] at n;have V:=O n
  have HP:Hid (bI w c B (.slice none 0 0) (some u) T (.returned (.tuple #[.agg oc.toArray,.int .i64 0])) w9):=O (by
   rw[←P.out];have hg:=HG.out;have nb:∀i,B2 i->i≠R:=fun i y e=>(b.aq 2) (e▸y)
   exact⟨ov,B2,rfl,qj.keepT a qf.out,d.keepT a fun i e n=>nb i n e,qd.out,m.onT a nb,.inr qg.out,(b.keep).tT a (fun i y e=>by omega)⟩)
  clear a n b d s m qj;go_wp2_with fail;refine bodyPost_ret (aT rfl _ _ R _ _ _ _ rfl V.out aG rfl (by rw[List.size_toArray,M];exact cC)) rfl ?_;exact HP.out
end
end Go.Proofs.YtiinnfhjpaeffaaGreat
