import Derived.Test.YtoeinblfcbpcmaaGreatR29
namespace Go.Proofs.YtoeinblfcbpcmaaGreat
open Tryz
set_option maxHeartbeats 0
set_option maxRecDepth 100000
set_option linter.unusedVariables false
section
open Go.RowKit Go.Maps Go.ChangeMaps
variable{S T U:Kor}{t:Tr}{a f g:Int}{v pv:Value}{w w' W0:World}{c b4 b5 b6 b10 b12 l k:Nat}{B B':Nat->Prop}{vs vs':Nat->Value}{ch:Bool}{K:Nat->Tr}{p:Pt}
theorem Tr.Ok.may3(h:Tr.Ok S 3 t):t.ptr.may=true:=by
 cases t with
 | hole=>exact kA jC
 | leaf p b=>exact h.elim
 | node p k=>exact h.1.may
theorem sA{P:Program}{b:Array Oper}{S:World->Prop}{op:Oper}{a:Act}(e:Region.wanted op (yielded b a.tmps)=true)(t:TypeId)(d:op.op=.build t #[])(h:∀w,(Instr.build t #[]).run P w=.ok v w):YieldsIf P b S op v a:=
 .inl ⟨e,fun w _=>by
  unfold execOp;simp only[d,Sem.run_bind,Sem.run_pure];rw[show (#[]:Array (Nat×Operand)).map (fun p=>(p.1,a.eval p.2))=#[] by simp,h w];rfl⟩
theorem Bq:∀u∈aX,u.oneCell'=true:=cE zPt
theorem Lo(hK:KI w c S B)(pv:Value)(t:Tr)(ht:Tr.Ok S 3 t)(hp:aU w B pv t.ptr)(n:Nat)(hn:n<64)(vv:Value)(bs:List UInt8)(qi:bs.length=256)(hr:Rd w 1 vv 256 (bs.map vb))(ql:∀i,vv.ownBlock=some i->¬B i/\i<w.heap.size)(he:t.blk 3 n=bs):Calls prog 22 #[.pointer c,.agg (aE pv t.ptr).toArray,.int .i64 (n:Int),vv] w (bE w c B (.slice none 0 0) (some t) S):=by
 have qd:Hid ((bB n t 3).blk 0 n=bs):=O (by rw[←E8 ht];exact he);have qp:=O (jN (n:=n) ht 3 (by omega));have HT:=O ht;have HN:=O hn;have qb:=O qi;have qt:=O ql;have j:=O hp;have q:=O hK;have m:=O hr;have qz:=O (fun i (e:B i)=>hK.lt e);have y:=O (fun i (s:pv.ownBlock=some i)=>(hp.off i s).2.lt);have G:=O (by have:=(iF (Tr.Ok.may3 ht)).1;omega:t.ptr.addrs.length≤65536);obtain⟨va,vc,Y,-,-⟩:=hr.form;have q5:=O Y;rw[Y] at m qt ⊢;have za:¬((n:Int)<0):=by omega
 have zb:¬((64:Int)≤(n:Int)):=by omega
 obtain⟨p,W⟩:=zX9 t.ptr
 have A:=O W;rw[W] at j hp G ⊢;obtain⟨pc,F,V,q1⟩:=nmPt hp.pt;rw[F.out];have d:=lN w;clear he hp ht hK W hr ql qi Y;have J:=j;have E:=q;have L:=m;go_in
 go_wp2_with refine bxM d (#[.pointer c]) ?_
 intro b4 w1 b d;replace j:=pK j b;replace q:=O (q.keep0 b);replace m:=O (m.keep b fun _ _=>id);clear b
 go_wp2_with refine bxM d (pc.toArray) ?_
 intro b5 w2 b d;replace j:=pK j b;replace q:=O (q.keep0 b);replace m:=O (m.keep b fun _ _=>id);clear b
 go_wp2_with refine alM d aZ ?_
 intro b8 w3 b d;replace j:=pK j b;replace q:=O (q.keep0 b);replace m:=O (m.keep b fun _ _=>id);clear b
 go_wp2_with refine alS d kV ?_
 intro b9 w4 b d;replace j:=pK j b;replace q:=O (q.keep0 b);replace m:=O (m.keep b fun _ _=>id);clear b;have c1:=cD d 3
 go_wp2_with refine ldQ (d.b 2) V ?_
 clear c1;refine((by rw[←F.out];exact qD q.out pv p j.pt (by rw[←A.out];exact HT.root):Ka w4 (aH w4 (.int .i64 0)))).mono ?_;rintro e w5 ⟨rfl,b⟩;replace d:=kL d b;replace j:=pK j b;replace q:=O (q.keep0 b);replace m:=O (m.keep b fun _ _=>id);clear b
 go_wp2_with refine alV (.int .i64 0) kV ?_
 intro b10 w7 C b x
 replace d:=lW d C b x;replace j:=pK j b;replace q:=O (q.keep0 b);replace m:=O (m.keep b fun _ _=>id);clear C b x;have c1:=cD d 0
 have c2:=cD d 4
 go_wp2_with refine ldQ (d.b 3) V ?_
 clear c1 c2;have q9:=O d.keep.size;have o:=O (d.lt 0);have qy:=O (d.lt 1);have qx:=O (d.lt 2);refine((by rw[←F.out,←A.out];exact E9 q.out pv t HT.out (by rw[A.out];exact j.out) n HN.out false:Ka w7 (Cb w7 B pv n t false))).mono ?_;rintro e w8 ⟨sv,qw,k,pvs,vss,M,rfl,qu,hM,qa,Z,b⟩;obtain rfl:=qu rfl;obtain⟨sa,q0,qv,qk,-⟩:=(Rd.of_owns qa.row).form;subst qv;have r:=O qa;have u:=O Z;have HM:=O hM;have q3:=O qk;obtain⟨qc,qh,X,qr⟩:=nmPt Z.val.pt;rw[qh.out];clear Z hM qa qk;replace d:=kL d b;replace j:=pK j b;replace q:=O (q.keep0 b);replace m:=O (m.keep b fun _ _=>id);clear b
 go_wp2_with refine alA aZ ?_
 intro b12 w9 C qj N
 go_wp2_with refine stW N X aG (szP9 X) qr.out ?_
 intro wa b x;replace b:=tX qj b (fun i s e=>by omega);replace d:=lW d C b x;replace j:=pK j b;replace q:=O (q.keep0 b);replace m:=O (m.keep b fun _ _=>id);replace r:=O (cL.keep0 r.out b);replace u:=O (eZ.keep0 u.out b);clear C b x qj N
 go_wp2_with refine stV (.int .i64 0) (d.b 1) ?_
 intro wb b x;replace d:=O (d.set 1 b x);replace j:=O (aU.keep0 J.out d.keep);replace q:=O (E.keep0 d.keep);replace m:=O (L.keep d.keep fun _ _=>id);replace r:=O (cL.keepT r.out b (fun i s e=>by have:=aW r.row s;have:=o.out;omega) (fun i s e=>by have:=y.out i s;have:=o.out;omega) (fun i s e=>by have:=HM.out;have:=o.out;omega));replace u:=O (eZ.keepT u.out b (fun i s e=>by have:=y.out i s;have:=o.out;omega) (fun i s e=>by have:=HM.out;have:=o.out;omega));clear b x;have P:=O (And.intro (d.lt 0) (d.lt 1));have c1:=cD d 1
 have c2:=cD d 5
 go_wp2_with refine ldQ (d.b 0) X ?_
 clear c1 c2;have qn:=O d.keep.size;refine((by rw[←qh.out];exact Bh q.out qw (bB n t 3) qp.out u.val.pt n:Ka wb (gH wb ((bB n t 3).blk 0 n)))).mono ?_;rintro e wc ⟨v1,rfl,ho,b⟩;rw[qd.out] at ho;obtain⟨wa,wc,rfl,-,-⟩:=(Rd.of_owns ho).form;have HO:=O ho;have qq:=O (fun i (s:(Value.slice wa 256 wc).ownBlock=some i)=>aW ho s);clear ho;replace d:=kL d b;replace j:=pK j b;replace q:=O (q.keep0 b);replace m:=O (m.keep b fun _ _=>id);replace r:=O (cL.keep0 r.out b);replace u:=O (eZ.keep0 u.out b);clear b
 go_wp2_with refine stV (.int .i64 0) (d.b 1) ?_
 intro wd b x;replace d:=O (d.set 1 b x);replace j:=O (aU.keep0 J.out d.keep);replace q:=O (E.keep0 d.keep);replace m:=O (L.keep d.keep fun _ _=>id);replace r:=O (cL.keepT r.out b (fun i s e=>by have:=aW r.row s;have:=o.out;omega) (fun i s e=>by have:=y.out i s;have:=o.out;omega) (fun i s e=>by have:=HM.out;have:=o.out;omega));replace u:=O (eZ.keepT u.out b (fun i s e=>by have:=y.out i s;have:=o.out;omega) (fun i s e=>by have:=HM.out;have:=o.out;omega));replace HO:=O (b.owns HO.out fun i s e=>by have:=qq.out i s;have:=o.out;have:=qn.out;have:=P.out;omega);clear b x;have c1:=cD d 1
 go_wp2_with fail;clear c1;refine(nI wd _ _ bs bs (by rw[qb.out];exact Rd.of_owns HO.out) (by rw[qb.out];exact m.out) true (decide_eq_true rfl)).mono ?_;rintro e we ⟨rfl,rfl⟩
 go_wp2_with refine ldQ (d.b 4) V ?_
 have qo:=O d.keep.size;have qe:=O (And.intro (d.lt 2).2 (d.lt 3).2);refine((by rw[←F.out];exact Av (fun i e=>q.lt e) pv p j.pt G.out:Ka wd (tM wd B p))).mono ?_;rintro e wf ⟨ov,rfl,R,D,b⟩;have z:=O R;have I:=O D;have qf:=O (D.from qo.out);obtain⟨oc,H,Q,qg⟩:=nmPt R.pt;rw[H.out];clear R D;replace d:=kL d b;replace j:=pK j b;replace q:=O (q.keep0 b);replace m:=O (m.keep b fun _ _=>id);replace r:=O (cL.keep0 r.out b);replace u:=O (eZ.keep0 u.out b);replace HO:=O (b.owns HO.out fun _ _=>id);clear b;clear j m r u HO
 go_wp2_with refine stW (d.b 3) Q aG (szP9 Q) qg.out ?_
 intro wg b x;replace d:=O (d.set 3 b x);replace q:=O (E.keep0 d.keep);replace z:=O (aU.keepT z.out b (fun i s e=>by have:=I.out i s;have:=qe.out;omega));clear b x
 go_wp2_with refine stV (.int .i64 0) (d.b 2) ?_
 intro wh b x;replace d:=O (d.set 2 b x);replace q:=O (E.keep0 d.keep);replace z:=O (aU.keepT z.out b (fun i s e=>by have:=I.out i s;have:=qe.out;omega));clear b x;have qm:=O (d.b 3);have c9:wh.cell? ⟨b9,0,none⟩=some (.int .i64 0):=aC (i:=0) (d.b 2) rfl;have HP:Hid (bE w c B (.slice none 0 0) (some t) S (.returned (.tuple #[.agg oc.toArray,.int .i64 0])) wh):=O ⟨ov,B,by rw[←H.out,←A.out];rfl,by show aU _ B ov t.ptr;rw[A.out];exact z.out,q.out,fun _ h=>.inl h,Cl.refl _ _ _ d.keep,.inr qf.out,d.keep.any⟩;clear d q z;go_wp2_with fail;refine bodyPost_ret (fP rfl _ _ b8 _ _ _ _ rfl qm.out aI rfl (by rw[List.size_toArray,Q];exact bX) ⟨b9,0,none⟩ (.int .i64 0) rfl (by go_simp)) rfl ?_;exact HP.out
theorem Lp(hK:KI w c S B)(pv:Value)(t:Tr)(ht:Tr.Ok S 3 t)(hp:aU w B pv t.ptr)(n:Nat)(hn:n<64)(vv:Value)(bs:List UInt8)(ja:bs.length=256)(hr:Rd w 1 vv 256 (bs.map vb))(jo:∀i,vv.ownBlock=some i->¬B i/\i<w.heap.size)(he:¬t.blk 3 n=bs):Calls prog 22 #[.pointer (some ⟨c,0,none⟩),.agg (aE pv t.ptr).toArray,.int .i64 (n:Int),vv] w (bE w c B (.slice none 0 0) (eD 3 S t n bs).1 (eD 3 S t n bs).2):=by
 have ud:Hid ((bB n t 3).blk 0 n=t.blk 3 n):=O (E8 ht).symm;have jw:=O (jN (n:=n) ht 3 (by omega));have vg:=O he;have v9:=O hK.bd;have ua:Hid ((t.blk 3 n).length=256):=O (Tr.Ok.blk_len ht n);have HT:=O ht;have HN:=O hn;have xg:=O ja;have u2:=O jo;have J:=O hp;have HK:=O hK;have P:=O hr;have zo:=O (fun i (e:B i)=>hK.lt e);have q1:=O (fun i (A:pv.ownBlock=some i)=>(hp.off i A).2.lt);have vz:=O (by have:=(iF (Tr.Ok.may3 ht)).1;omega:t.ptr.addrs.length≤65536);obtain⟨va,vc,vu,-,-⟩:=hr.form;have kt:=O vu;rw[vu] at P u2 ⊢;have ky:¬((n:Int)<0):=by omega
 have kz:¬((64:Int)≤(n:Int)):=by omega
 obtain⟨p,vt⟩:=zX9 t.ptr
 have vm:=O vt;rw[vt] at J hp vz ⊢;obtain⟨pc,vj,jk,kr⟩:=nmPt hp.pt;rw[vj.out];have j:=lN w;clear he hp ht hK vt hr jo ja vu;have z0:=J;have x8:=HK;have z1:=P;refine callsIn_wide.1 (callsIn_of_wp_marks (F:=Fence.wide) (n:=3) func22 rfl trivial (wpIn_wide.2 ?_));simp only[ntmps22,List.size_toArray,List.length_cons,List.length_nil,Nat.reduceAdd,Nat.reduceSub,Array.replicate_succ,Array.replicate_zero,List.push_toArray,List.append_toArray,List.nil_append,List.cons_append]
 go_wp2_with refine bxM j (#[.pointer (some ⟨c,0,none⟩)]) ?_
 intro b4 w1 b j;replace J:=pK J b;replace HK:=O (HK.keep0 b);replace P:=O (P.keep b fun _ _=>id);clear b
 go_wp2_with refine bxM j (pc.toArray) ?_
 intro b5 w2 b j;replace J:=pK J b;replace HK:=O (HK.keep0 b);replace P:=O (P.keep b fun _ _=>id);clear b
 go_wp2_with refine alM j aZ ?_
 intro b8 w3 b j;replace J:=pK J b;replace HK:=O (HK.keep0 b);replace P:=O (P.keep b fun _ _=>id);clear b
 go_wp2_with refine alS j kV ?_
 intro b9 w4 b j;replace J:=pK J b;replace HK:=O (HK.keep0 b);replace P:=O (P.keep b fun _ _=>id);clear b;have c1:=cD j 3
 go_wp2_with refine ldQ (j.b 2) jk ?_
 clear c1;refine((by rw[←vj.out];exact qD HK.out pv p J.pt (by rw[←vm.out];exact HT.root):Ka w4 (aH w4 (.int .i64 0)))).mono ?_;rintro e w5 ⟨rfl,b⟩;replace j:=kL j b;replace J:=pK J b;replace HK:=O (HK.keep0 b);replace P:=O (P.keep b fun _ _=>id);clear b
 go_wp2_with refine alV (.int .i64 0) kV ?_
 intro b10 w7 qf b E
 replace j:=lW j qf b E;replace J:=pK J b;replace HK:=O (HK.keep0 b);replace P:=O (P.keep b fun _ _=>id);clear qf b E;have c1:=cD j 0
 have c2:=cD j 4
 go_wp2_with refine ldQ (j.b 3) jk ?_
 clear c1 c2;have u3:=O j.keep.size;have G:=O (j.lt 0);have v7:=O (j.lt 1);have v6:=O (j.lt 2);refine((by rw[←vj.out,←vm.out];exact E9 HK.out pv t HT.out (by rw[vm.out];exact J.out) n HN.out false:Ka w7 (Cb w7 B pv n t false))).mono ?_;rintro e w8 ⟨sv,kn,k,pvs,vss,M,rfl,jc,hM,vy,vx,b⟩;obtain rfl:=jc rfl;obtain⟨sa,jp,kj,jl,-⟩:=(Rd.of_owns vy.row).form;subst kj;have I:=O vy;have qo:=O vx;have HM:=O hM;have ks:=O jl;obtain⟨qc,u1,xt,jy⟩:=nmPt vx.val.pt;rw[u1.out];clear vx hM vy jl;have HZ:=O (I.zone HM.out q1.out);replace j:=kL j b;replace J:=pK J b;replace HK:=O (HK.keep0 b);replace P:=O (P.keep b fun _ _=>id);clear b
 go_wp2_with refine alA aZ ?_
 intro b12 w9 qf za qi
 go_wp2_with refine stW qi xt aG (szP9 xt) jy.out ?_
 intro wa b E;replace b:=tX za b (fun i A e=>by omega);have zd:=O (show w8.heap.size≤b12 from Nat.le_of_eq qf);replace j:=lW j qf b E;replace J:=pK J b;replace HK:=O (HK.keep0 b);replace P:=O (P.keep b fun _ _=>id);replace I:=O (cL.keep0 I.out b);replace qo:=O (eZ.keep0 qo.out b);clear qf b E za qi
 go_wp2_with refine stV (.int .i64 0) (j.b 1) ?_
 intro wb b E;replace j:=O (j.set 1 b E);replace J:=O (aU.keep0 z0.out j.keep);replace HK:=O (x8.keep0 j.keep);replace P:=O (z1.keep j.keep fun _ _=>id);replace I:=O (cL.keepT I.out b (fun i A e=>by have:=aW I.row A;have:=G.out;omega) (fun i A e=>by have:=q1.out i A;have:=G.out;omega) (fun i A e=>by have:=HM.out;have:=G.out;omega));replace qo:=O (eZ.keepT qo.out b (fun i A e=>by have:=q1.out i A;have:=G.out;omega) (fun i A e=>by have:=HM.out;have:=G.out;omega));clear b E;have x6:=O (And.intro (j.lt 0) (j.lt 1));have c1:=cD j 1
 have c2:=cD j 5
 go_wp2_with refine ldQ (j.b 0) xt ?_
 clear c1 c2;have ue:=O j.keep.size;refine((by rw[←u1.out];exact Bh HK.out kn (bB n t 3) jw.out qo.val.pt n:Ka wb (gH wb ((bB n t 3).blk 0 n)))).mono ?_;rintro e wc ⟨v1,rfl,ho,b⟩;rw[ud.out] at ho;obtain⟨wa,wc,rfl,-,-⟩:=(Rd.of_owns ho).form;have HO:=O ho;have ut:=O (fun i (A:(Value.slice wa 256 wc).ownBlock=some i)=>aW ho A);clear ho;replace j:=kL j b;replace J:=pK J b;replace HK:=O (HK.keep0 b);replace P:=O (P.keep b fun _ _=>id);replace I:=O (cL.keep0 I.out b);replace qo:=O (eZ.keep0 qo.out b);clear b
 go_wp2_with refine stV (.int .i64 0) (j.b 1) ?_
 intro wd b E;replace j:=O (j.set 1 b E);replace J:=O (aU.keep0 z0.out j.keep);replace HK:=O (x8.keep0 j.keep);replace P:=O (z1.keep j.keep fun _ _=>id);replace I:=O (cL.keepT I.out b (fun i A e=>by have:=aW I.row A;have:=G.out;omega) (fun i A e=>by have:=q1.out i A;have:=G.out;omega) (fun i A e=>by have:=HM.out;have:=G.out;omega));replace qo:=O (eZ.keepT qo.out b (fun i A e=>by have:=q1.out i A;have:=G.out;omega) (fun i A e=>by have:=HM.out;have:=G.out;omega));replace HO:=O (b.owns HO.out fun i A e=>by have:=ut.out i A;have:=G.out;have:=ue.out;have:=x6.out;omega);clear b E;have c1:=cD j 1
 go_wp2_with fail;clear c1;refine(nI wd _ _ (t.blk 3 n) bs (by rw[ua.out];exact Rd.of_owns HO.out) (by rw[xg.out];exact P.out) false (decide_eq_false vg.out)).mono ?_;rintro e we ⟨rfl,rfl⟩;have c1:=cD j 5
 go_wp2_with fail;clear c1;have vf:=O j.keep;have zu:=O (And.intro (j.lt 0) (And.intro (j.lt 1) (And.intro (j.lt 2) (And.intro (j.lt 3) (j.lt 5)))));refine((DJ HK.out (.slice va 256 vc) bs xg.out P.out (fun i A=>(u2 i A).1):Ka wd (bE wd c B (.slice none 0 0) (S.leaf bs).1 (S.leaf bs).2))).mono ?_;rintro e wf ⟨v0,B0,jg,Y,qd,xm,jb,xr,b⟩;obtain⟨u4,z6⟩:=zX9 (eY (S.leaf bs).1)
 rw[z6] at jg;have ui:=O z6;subst jg;replace xr:dM wd v0:=xr.elim (fun e=>by rw[e];exact dM.nil _) id;have q9:=O Y;have m:=O qd;have v3:=O xm;have qx:=O jb;have vh:=O xr;have kq:=O b;obtain⟨lc,xv,jf,uu⟩:=nmPt Y.pt;rw[xv.out];clear Y qd jb xr z6;replace I:=O (cL.toB I.out b xm (fun i A e=>by have:=aW I.row A;have:=zo.out i e;have:=u3.out;omega));replace j:=O (((j.wide zo.out).turn b (fun _ _ h=>h)) (fun i A E=>(xm i E).elim id fun e=>by omega));clear b xm HO qo P HK J
 go_wp2_with refine stW (j.b 0) jf xt (szP9 jf) uu.out ?_
 intro wg b E;replace j:=O (j.set 0 b E);replace m:=O (KI.keepT m.out b (fun i e C=>by rw[e] at C;exact (j.aq 0) C));replace q9:=O (aU.keepT q9.out b (fun i A e=>by have:=vh.out i A;have:=zu.out;omega));replace I:=O (cL.keepZ I.out HZ.out b (fun i e=>by have:=zd.out;have:=G.out;omega));replace qx:=O (Cl.onT qx.out b fun i C e=>by rw[e] at C;exact (j.aq 0) C);clear b E
 go_wp2_with refine stV (.int .i64 u4) (j.b 1) ?_
 intro wh b E;replace j:=O (j.set 1 b E);replace m:=O (KI.keepT m.out b (fun i e C=>by rw[e] at C;exact (j.aq 1) C));replace q9:=O (aU.keepT q9.out b (fun i A e=>by have:=vh.out i A;have:=zu.out;omega));replace I:=O (cL.keepZ I.out HZ.out b (fun i e=>by have:=zd.out;have:=G.out;omega));replace qx:=O (Cl.onT qx.out b fun i C e=>by rw[e] at C;exact (j.aq 1) C);clear b E;go_wp2_with fail;have v4:=O (fun i (e:B0 i)=>m.lt e);have js:=O (And.intro (j.lt 0).2 (And.intro (j.lt 1).2 (And.intro (j.lt 2).2 (j.lt 3).2)));refine((Np (.slice sa 3 jp) wh ⟨_,_,_,rfl⟩)).mono ?_;rintro e wi ⟨B1,rfl,u7,u5,b⟩;have v5:=O u7;have xu:=O u5;clear u7 u5;replace j:=kL j b;replace m:=O (m.keep0 b);replace q9:=pK q9 b;replace I:=O (cL.keep0 I.out b);replace qx:=O (Cl.onT qx.out b fun _ _=>id);clear b;go_wp2_with fail;obtain⟨g,ku,cur,jn,x1,vq,x5⟩:=Lh I.out (by omega);cases jn
 have kb:=(HZ.sv g rfl).2;have ka:=aW I.row (k:=g) rfl;have u6:=lt_of_block v5.out;have j9:=lt_of_block vq;have kl:=u3.out;have ji:=zd.out;have kg:=zu.out;have u8:=G.out;have j8:=v7.out;have j7:=v6.out;have kf:=js.out;have u9:=xu.out;have kh:=vf.size;have uo:=O (fun q (C:q<3) p (hp:p<4) i (A:(vss q p).ownBlock=some i)=>(by have:=HZ.vss q C p hp i A;omega:i≠b10/\i≠b12))
 have xf:=Jc (Res:=fun i=>B0 i\/i=b8\/i=b9\/i=b10\/i=b12\/wi.heap.size≤i) (3-1) (fun x=>fE n t x (pvs x) (vss x)) (fun x hx=>G8 I.out hx) x1 v5.out x5 vq
  (by rintro (e|e|e|e|e|e)<;>first|omega|(have:=v4.out _ e;omega)) (by rintro (e|e|e|e|e|e)<;>first|omega|(rcases v3.out _ e with e|e<;>first|omega|(have:=zo.out _ e;omega)))
 have xo:vF wi b8 b9 b10 b12 c S B0 n t bs 0 wi:=⟨3,v0,B0,rfl,(by have h:=j.b 0;rw[←xv.out] at h;exact h),(by have h:=j.b 1;rw[←ui.out] at h;exact h),q9.out,fun i A=>by (have:=vh.out i A;omega),m.out,fun i h=>.inl h,fun i h=>(Classical.em (IsC wi i)).imp id fun h2=>⟨m.lt h,h,h2⟩,aA.refl _ _⟩
 have zn:Hid (∀i,B0 i->B i\/w.heap.size≤i):=O fun i h=>(v3 i h).imp id fun e=>by omega
 replace j:Hid (Loc B B0 w wi [(b12,lc.toArray,30),(b10,#[.int .i64 u4],41),(b9,#[.int .i64 0],41),(b8,aX.toArray,30),(b5,pc.toArray,30),(b4,#[.pointer (some ⟨c,0,none⟩)],24)]):=j;have HG:=O (And.intro xu.out (And.intro (lt_of_block (j.b 0)) (And.intro (lt_of_block (j.b 1)) (And.intro (lt_of_block (j.b 2)) (lt_of_block (j.b 3))))));have vn:=O j.keep.size;have zh:=O (fun q (C:q<3)=>(I.vss q C).1);have zg:=O (fun q (C:q<3)=>(I.pvs q C).1.pt);clear kb ka u6 j9 kl ji kg u8 j8 j7 kf u9 kh x1 vq x5 x8 z0 z1 m q9 I ue ut HZ;refine wpIn_wide (n:=3).1 ?_;refine BX rfl (by omega) (gf:=97) rfl trivial (enters_of func97 (by kernel_rfl) rfl) (N:=3) (encs:=DX (fun x=>fE n t x (pvs x) (vss x))) xf (fun _=>rfl) (vF wi b8 b9 b10 b12 c S B0 n t bs) (Fd wi b8 b9 b10 b12 c S B0 n t bs) (fun W k=>xo.keep0 k) (fun k W l o hl h ho hc o'=>h.put hl ho hc o') (fun W l o hl h ho hc o'=>h.put hl ho hc o') ?round ?done ?stop
 case round =>
  rintro l k W1 jc hI hl;obtain⟨y',v,B',ke,h12,h10,Y,vw,qd,qm,qr,ql⟩:=hI;obtain⟨y,rfl⟩:∃y,y'=y+1:=⟨y'-1,by omega⟩
  have je:k+y=2:=by omega
  have zf:y<3:=by omega
  have H:Hid (bL W1 B' (vss y) (fun i=>((bB n t y).kid i).ptr)):=O fun q C=>(zh y zf q C).grow (T:=fun i=>i=b10\/i=b12) ql (fun i A e=>by have:=uo.out y zf q C i A;omega) qm
  have jz:=zg.out y zf;have qq:=O (aF (v:=pvs y) (zg y zf).sum);have jx:=O (aL (zg y zf));unfold DX;dsimp only;rw[show 2-k=y by omega];obtain⟨⟨r,T⟩,zb⟩:∃q,eD k S (bB n t (y+1)) n bs=q:=⟨_,rfl⟩
  rw[zb] at h12 h10 Y qd;dsimp only at h12 h10 Y qd;have xj:=O zb;have qu:=aF (v:=v) Y.pt.sum;have q3:=aL Y.pt;obtain⟨uc,qg⟩:=zX9 (aE v (eJ r))
  have uz:Hid (∀u∈uc,u.oneCell'=true):=O (by rw[←qg];exact q3);have xl:=O qg;rw[qg] at qu h12;have zr:=O (Loc.round j.out h12 h10 qm zn.out ql);have m:=O qd;have L:=O Y;have z:=O qr;have zm:=O qm;have s:=O ql;have qk:=O (And.intro ql.size hl);have j4:=O (fun i A=>(Y.off i A).2.lt);have ju:=O (fun q (C:q<4) i A=>((H q C).off i A).2.lt);have HX:=O (aA.refl aB W1);obtain⟨X,xq⟩:=zX9 (n / 4 ^ (2-y) % 4)
  have z5:X<4:=by rw[←xq];exact Nat.mod_lt _ (by decide)
  have ug:=O xq
  have zl:(fE n t y (pvs y) (vss y)).length=177:=by
   unfold fE;rw[List.length_append,List.length_append,qq.out,cP _ _ (zh y zf).nv];rfl
  have zx:∀u∈fE n t y (pvs y) (vss y),u.oneCell'=true:=by
   intro u hu;rcases List.mem_append.1 hu with h|h
   ·exact jx.out u h
   ·rcases List.mem_append.1 h with h|h
    ·exact cQ _ (zh y zf).nv u h
    ·rw[List.mem_singleton] at h;subst h;rfl
  have qh:fE n t y (pvs y) (vss y)=aE (pvs y) (bB n t y).ptr++(bS ((k+1:Nat):Int) (vss y) (fun i=>((bB n t y).kid i).ptr)++[.int .i64 (X:Int)]):=by
   unfold fE;rw[xq,show 3-y=k+1 by omega]
  obtain⟨sc,x4⟩:=zX9 (fE n t y (pvs y) (vss y))
  rw[x4] at zl zx qh ⊢;have uy:=O zx;have xk:=O qh;have kw:(0:Int)≤(X:Int):=by omega
  have kx:(X:Int)<4:=by omega
  rw[CN];simp only[List.setIfInBounds_toArray,List.set_cons_zero,List.set_cons_succ];replace j:=zr;clear Y qd qr qm ql h10 h12 xo xf zh zg zx qh x4 xq qg q3 jz zr zb;rcases r with _|u
  ·replace j:Hid (Loc B B' w W1 [(b12,uc.toArray,30),(b10,#[.int .i64 15],41),(b9,#[.int .i64 0],41),(b8,aX.toArray,30),(b5,pc.toArray,30),(b4,#[.pointer (some ⟨c,0,none⟩)],24)]):=j
   refine cY (by kernel_rfl) (fun ⟨_,_,h⟩=>h) ?_
   go_wp2_with refine alA Bg ?_
   intro qb wk qf za qi
   go_wp2_with ((with_reducible show WL _ _);refine stW qi zl qE (by rw[zl];exact tO) uy.out ?_)
   intro wl b E;replace b:=tX za b (fun i A e=>by omega);have Z:=O (show W1.heap.size≤qb from Nat.le_of_eq qf);replace j:=O (j.new (fun k h=>m.lt h) qf b E);replace m:=O (m.keep0 b);replace L:=pK L b;replace H:=O (bL.keep0 H.out b);replace z:=O (fun i h=>(z i h).imp (fun c=>c.keep b id) id);replace s:=O (s.trans (aA.any b));replace HX:=O (HX.trans b);clear qf b E za qi;go_wp2_with fail;refine⟨KpN.of HX.out (fun _ _ h=>h.elim),KpC.of HX.out (fun _ h=>h.elim),fun o o' ze qn=>?_⟩;have kd:=aA.of_grown (grownBy_putObj' wl l o');have no:=fun {i:Nat}(h:IsC wl i)=>oP ze qn h
   have nB:∀i,some l=some i->¬B' i:=fun i e E=>(z i E).elim (fun h=>no h e) fun h=>by have:=h.1;injection e with e;have:=qk.2;omega
   replace j:=O (j.put (o':=o') ze qn (by have:=qk.2;have:=vn.out;omega));replace m:=O (m.keepT kd nB);replace L:=O (L.keepT kd fun i A=>no (L.off i A).2);replace H:=O (H.keepT kd fun q C i A=>no ((H q C).off i A).2);replace z:Hid (∀i,B' i->IsC (wl.putObj l o') i\/i<wi.heap.size/\B0 i/\¬IsC wi i):=O fun i h=>(z i h).imp (fun c=>c.keep kd (no c)) id
   replace s:=O (s.tT kd (fun i A e=>by injection e with e;have:=qk.2;omega));clear HX kd no nB;generalize World.putObj wl l o'=V at j m L H z s ⊢;have ve:=j;have x7:=z;have HX:Hid (aA (fun i=>B' i\/i=b8\/i=b9\/i=b10\/i=b12\/i=qb) V V):=O (aA.refl _ _);clear ze qn;refine wpIn_block ?_
   repeat refine wpIn_seq ?_
   refine cY (by kernel_rfl) (fun ⟨_,_,h⟩=>h) ?_;have c1:=cD j 2
   go_wp2_with fail;clear c1;refine wpIn_cond_true rfl ?_;refine wpIn_seq ?_;replace s:Hid (aA (fun i=>B0 i\/i=b8\/i=b9\/i=b10\/i=b12) wi V):=O ((aA.refl aB wi).trans' s.out (fun _ _ h=>h.elim) (fun i A e=>e.elim .inl fun e=>e.elim (fun e=>.inr (.inr (.inr (.inl e)))) fun e=>.inr (.inr (.inr (.inr e)))));have zq:Hid (∀Wf,Wf.heap[b8]?=some (.cells aX.toArray Je (0,0))->Wf.heap[b9]?=some (.cells #[.int .i64 15] Jd (0,0))->KI Wf c T B'->(∀i,B' i->IsC Wf i\/i<wi.heap.size/\B0 i/\¬IsC wi i)->aA (fun i=>B0 i\/i=b8\/i=b9\/i=b10\/i=b12) wi Wf->Fd wi b8 b9 b10 b12 c S B0 n t bs Wf):=O fun Wf a1 a2 a3 a4 a5=>⟨T,B',C3 (y:=y+1) (by omega) xj.out,a1,a2,a3,zm.out,a4,a5⟩
   go_wp2_with fail;obtain⟨S,qh⟩:∃S:World->Prop,S=fun w'=>aA (fun k=>k=b8\/k=b9) V.drew w':=⟨_,rfl⟩
   have qa:=O (show ∀w',S w'->aA (fun k=>k=b8\/k=b9) V.drew w' from fun w' h=>by rw[qh] at h;exact h);have qj:=O (show ∀w',aA (fun k=>k=b8\/k=b9) V.drew w'->S w' from fun w' h=>by rw[qh];exact h);have hS:S V.drew:=by rw[qh];exact aA.refl _ _
   have Q:=(aA.refl aB V).drew;clear qh;refine mJ (by kernel_rfl) (by kernel_rfl) (fun ⟨_,_,h⟩=>h) (wpAny_of_held (S:=S) _ _ _ _ ?_);change wpAnyH _ _ _ _ _ _ _ _ V.drew;generalize V.drew=wm at qa qj hS Q ⊢;replace j:=kL j Q;replace m:=O (m.keep0 Q);replace z:=O (fun i h=>(z i h).imp (fun c=>c.keep Q id) id);replace s:=O (s.trans (aA.any Q));replace HX:=O (HX.trans (aA.any Q));clear Q;have qe:=j;have qz:=m;have qw:=z;have q0:=s;have vo:=HX;refine tnd 0 (.agg aX.toArray) rfl (sA (by rfl) 30 rfl jD) hS ?_;refine tnd 1 (.int .i64 15) rfl (.inl ⟨by rfl,fun w' xe=>by have c:World.cell? w' ⟨b10,0,none⟩=some (.int .i64 15):=aC (i:=0) ((qa w' xe).blk (qe.b 2) (fun e=>by rcases e with e|e<;>first|exact bH (i:=4) qe.nd rfl 2 (by decide) rfl e|exact bH (i:=3) qe.nd rfl 2 (by decide) rfl e)) rfl;go_simp⟩) hS ?_;refine wA9 2 ?_;refine stW (j.b 4) aG aG (szP9 aG) Bq ?_;intro wn b E;have qp:=qj.out _ ((qa _ hS).tT b (fun i A e=>(.inl e)));clear hS;replace j:=O (j.set 4 b E);replace m:=O (KI.keepT m.out b (fun i e C=>by rw[e] at C;exact (j.aq 4) C));replace z:=O (fun i h=>(z i h).imp (fun cc=>cc.keep b (fun e=>by rw[e] at h;exact (j.aq 4) h)) id);replace s:=O (s.tT b (fun i A e=>by first|exact .inr (.inl e)|exact .inr (.inr (.inl e))|exact .inr (.inr (.inr (.inl e)))|exact .inr (.inr (.inr (.inr e)))|(have:=Z.out;have:=qk.out;omega)));replace HX:=O (HX.tT b (fun i _ e=>by first|exact .inr (.inl e)|exact .inr (.inr (.inl e))|exact .inr (.inr (.inr (.inl e)))|exact .inr (.inr (.inr (.inr (.inl e))))|exact .inr (.inr (.inr (.inr (.inr e))))));clear b E;refine wpList_nil ?_;refine⟨qp,?_⟩;refine wA9 3 ?_;refine stV (.int .i64 15) (j.b 3) ?_;intro wo b E;have z3:=qj.out _ ((qa _ qp).tT b (fun i A e=>(.inr (e))));clear qp;replace j:=O (j.set 3 b E);replace m:=O (KI.keepT m.out b (fun i e C=>by rw[e] at C;exact (j.aq 3) C));replace z:=O (fun i h=>(z i h).imp (fun cc=>cc.keep b (fun e=>by rw[e] at h;exact (j.aq 3) h)) id);replace s:=O (s.tT b (fun i A e=>by first|exact .inr (.inl e)|exact .inr (.inr (.inl e))|exact .inr (.inr (.inr (.inl e)))|exact .inr (.inr (.inr (.inr e)))|(have:=Z.out;have:=qk.out;omega)));replace HX:=O (HX.tT b (fun i _ e=>by first|exact .inr (.inl e)|exact .inr (.inr (.inl e))|exact .inr (.inr (.inr (.inl e)))|exact .inr (.inr (.inr (.inr (.inl e))))|exact .inr (.inr (.inr (.inr (.inr e))))));clear b E;refine wpList_nil ?_;refine⟨z3,?_⟩;refine wpAnyH_done (by kernel_rfl) ?_ _;clear z3 qa qj qe qz qw q0 vo;refine wpIn_ret ?_;have j1:=zq.out _ (j.b 4) (j.b 3) m.out z.out s.out
   exact⟨KpN.of HX.out fun i o e hn ho=>by
    rcases e with e|e|e|e|e|e
    ·rcases x7.out i e with⟨cs,t,h⟩|h
     ·rw[h] at ho;cases ho;rfl
     ·omega
    ·have:=HG.out;omega
    ·have:=HG.out;omega
    ·have:=HG.out;omega
    ·have:=HG.out;omega
    ·subst e;rw[ve.b 0] at ho;cases ho;rfl,j1⟩
  ·replace j:Hid (Loc B B' w W1 [(b12,uc.toArray,30),(b10,#[.int .i64 0],41),(b9,#[.int .i64 0],41),(b8,aX.toArray,30),(b5,pc.toArray,30),(b4,#[.pointer (some ⟨c,0,none⟩)],24)]):=j
   refine cY (by kernel_rfl) (fun ⟨_,_,h⟩=>h) ?_
   go_wp2_with refine alA Bg ?_
   intro qb wk qf za qi
   go_wp2_with ((with_reducible show WL _ _);refine stW qi zl qE (by rw[zl];exact tO) uy.out ?_)
   intro wl b E;replace b:=tX za b (fun i A e=>by omega);have Z:=O (show W1.heap.size≤qb from Nat.le_of_eq qf);replace j:=O (j.new (fun k h=>m.lt h) qf b E);replace m:=O (m.keep0 b);replace L:=pK L b;replace H:=O (bL.keep0 H.out b);replace z:=O (fun i h=>(z i h).imp (fun c=>c.keep b id) id);replace s:=O (s.trans (aA.any b));replace HX:=O (HX.trans b);clear qf b E za qi;go_wp2_with fail;refine⟨KpN.of HX.out (fun _ _ h=>h.elim),KpC.of HX.out (fun _ h=>h.elim),fun o o' ze qn=>?_⟩;have kd:=aA.of_grown (grownBy_putObj' wl l o');have no:=fun {i:Nat}(h:IsC wl i)=>oP ze qn h
   have nB:∀i,some l=some i->¬B' i:=fun i e E=>(z i E).elim (fun h=>no h e) fun h=>by have:=h.1;injection e with e;have:=qk.2;omega
   replace j:=O (j.put (o':=o') ze qn (by have:=qk.2;have:=vn.out;omega));replace m:=O (m.keepT kd nB);replace L:=O (L.keepT kd fun i A=>no (L.off i A).2);replace H:=O (H.keepT kd fun q C i A=>no ((H q C).off i A).2);replace z:Hid (∀i,B' i->IsC (wl.putObj l o') i\/i<wi.heap.size/\B0 i/\¬IsC wi i):=O fun i h=>(z i h).imp (fun c=>c.keep kd (no c)) id
   replace s:=O (s.tT kd (fun i A e=>by injection e with e;have:=qk.2;omega));clear HX kd no nB;generalize World.putObj wl l o'=V at j m L H z s ⊢;have ve:=j;have x7:=z;have HX:Hid (aA (fun i=>B' i\/i=b8\/i=b9\/i=b10\/i=b12\/i=qb) V V):=O (aA.refl _ _);clear ze qn;refine wpIn_block ?_
   repeat refine wpIn_seq ?_
   refine cY (by kernel_rfl) (fun ⟨_,_,h⟩=>h) ?_;have c1:=cD j 2
   go_wp2_with fail;clear c1;have zp:=O (G7 (t:=t) (n:=n) (k:=k) (y:=y+1) v9.out HT.out xg.out vg.out (by omega) xj.out);have jr:=O (jN (n:=n) HT.out y (by omega));refine wpIn_cond_false rfl ?_;refine wpIn_skip ?_;have jd:=aF (v:=vss y X) ((H X z5).pt.sum);have xx:=aL (H X z5).pt;obtain⟨kc,zi⟩:=zX9 (aE (vss y X) ((bB n t y).kid X).ptr)
   have ko:Hid (∀u∈kc,u.oneCell'=true):=O (by rw[←zi];exact xx);have ul:=O zi;rw[zi] at jd;clear zi xx
   have xd:eD (k+1) S (bB n t y) n bs=(T.lay (k+1) (eN (bB n t y).kid X u)):=by
    rw[Fb S t n bs (k:=k) (y:=y) je,xj.out,←ug.out,show 2-y=k by omega]
   have zq:Hid (∀Wf v2 B2,Wf.heap[b12]?=some (.cells (aE v2 (eJ (T.lay (k+1) (eN (bB n t y).kid X u)).1)).toArray Je (0,0))->Wf.heap[b10]?=some (.cells #[.int .i64 (eY (T.lay (k+1) (eN (bB n t y).kid X u)).1)] Jd (0,0))->aU Wf B2 v2 (eJ (T.lay (k+1) (eN (bB n t y).kid X u)).1)->(∀i,v2.ownBlock=some i->i≠b8/\i≠b9/\i≠b10/\i≠b12)->KI Wf c (T.lay (k+1) (eN (bB n t y).kid X u)).2 B2->(∀i,B2 i->B0 i\/wi.heap.size≤i)->(∀i,B2 i->IsC Wf i\/i<wi.heap.size/\B0 i/\¬IsC wi i)->aA (fun i=>B0 i\/i=b10\/i=b12) wi Wf->vF wi b8 b9 b10 b12 c S B0 n t bs (k+1) Wf):=O fun Wf v2 B2 a1 a2 a3 a4 a5 a6 a7 a8=>⟨y,v2,B2,by omega,by rw[xd];exact a1,by rw[xd];exact a2,by rw[xd];exact a3,a4,by rw[xd];exact a5,a6,a7,a8⟩
   clear xd
   repeat refine wpIn_seq ?_
   go_wp2_with fail;obtain⟨S,qh⟩:∃S:World->Prop,S=fun w'=>aA aB V.drew w':=⟨_,rfl⟩
   have qa:=O (show ∀w',S w'->aA aB V.drew w' from fun w' h=>by rw[qh] at h;exact h);have qj:=O (show ∀w',aA aB V.drew w'->S w' from fun w' h=>by rw[qh];exact h);have hS:S V.drew:=by rw[qh];exact aA.refl _ _
   have Q:=(aA.refl aB V).drew;clear qh;refine mJ (by kernel_rfl) (by kernel_rfl) (fun ⟨_,_,h⟩=>h) (wpAny_of_held (S:=S) _ _ _ _ ?_);change wpAnyH _ _ _ _ _ _ _ _ V.drew;generalize V.drew=wm at qa qj hS Q ⊢;replace j:=kL j Q;replace m:=O (m.keep0 Q);replace L:=pK L Q;replace H:=O (bL.keep0 H.out Q);replace z:=O (fun i h=>(z i h).imp (fun c=>c.keep Q id) id);replace s:=O (s.trans (aA.any Q));replace HX:=O (HX.trans (aA.any Q));clear Q;have qe:=j;have qz:=m;have u0:=L;have ur:=H;have qw:=z;have q0:=s;have vo:=HX;refine tnd 0 (.agg uc.toArray) rfl (yieldsIf_load_mid (by rfl) 30 (.tmp 12) rfl b12 0 rfl uc _ (fun w' h=>aD ((qa w' h).blk (qe.b 1) id)) aI rfl (szP9 qu)) hS ?_;refine tnb 1 (.pointer (some ⟨qb,176,none⟩)) rfl hS ?_;refine tnd 2 (.int .i64 (X:Int)) rfl (.inl ⟨by rfl,fun w' xe=>by have c:World.cell? w' ⟨qb,176,none⟩=some (.int .i64 (X:Int)):=(G9 qq.out (cP _ _ H.nv) (by have C:=((qa w' xe).blk (qe.b 0) id);rw[xk.out] at C;exact C));go_simp⟩) hS ?_;refine tnb 3 (.pointer (some ⟨qb,35,none⟩)) rfl hS ?_;refine tnb 4 (.pointer (some ⟨qb,36,none⟩)) rfl hS ?_;refine tnb 5 (.pointer (some ⟨qb,36+X*35,none⟩)) rfl hS ?_;refine tnd 6 (.agg kc.toArray) rfl (yieldsIf_load_mid (by rfl) 30 (.tmp 85) rfl qb (36+X*35) rfl kc _ (fun w' h=>(by rw[←ul.out];exact Pa (vs:=vss y) (ps:=(fun i=>((bB n t y).kid i).ptr)) qq.out H.nv z5 (by have C:=((qa w' h).blk (qe.b 0) id);rw[xk.out] at C;exact C))) aI rfl (szP9 jd)) hS ?_;refine wA9 7 ?_;go_wp2_with fail;refine((by rw[←xl.out,←ul.out];exact uO wm v (vss y X) u.ptr ((bB n t y).kid X).ptr L.pt (H X z5).pt:Ka wm (aN wm (u.ptr.eqB ((bB n t y).kid X).ptr)))).mono ?_;rintro e wn ⟨rfl,b⟩;rw[show u.ptr.eqB ((bB n t y).kid X).ptr=false from by have h:=zp.2.2;rw[←ug.out];exact h];have qp:=qj.out _ ((qa _ hS).trans b);replace j:=kL j b;replace m:=O (m.keep0 b);replace L:=pK L b;replace H:=O (bL.keep0 H.out b);replace z:=O (fun i h=>(z i h).imp (fun c=>c.keep b id) id);replace s:=O (s.trans (aA.any b));replace HX:=O (HX.trans (aA.any b));clear hS b;go_wp2_with fail;refine⟨qp,?_⟩;refine wpAnyH_done (by kernel_rfl) ?_ _;clear qp qa qj qe qz u0 ur qw q0 vo;refine wpIn_cond_false rfl ?_;refine wpIn_skip ?_;refine wpIn_seq ?_;refine cY (by kernel_rfl) (fun ⟨_,_,h⟩=>h) ?_;have c1:wn.cell? ⟨qb,176,none⟩=some (.int .i64 (X:Int)):=(G9 qq.out (cP _ _ H.nv) (by have C:=j.b 0;rw[xk.out] at C;exact C))
   go_wp2_with ((with_reducible show WL _ _);first
    | refine ldQ (j.b 1) qu ?_
    | refine sta 30 (.tmp 95) (.tmp 92) qb (36+X*35) uc (j.b 0) (by rw[List.size_toArray,zl,qu];omega) (szP9 qu) uz.out ?_)
   clear c1;intro wo b E;rw[xk.out,←xl.out,show eJ (some u)=u.ptr from rfl,Pb (v:=v) (p:=u.ptr) qq.out H.nv z5 L.pt.sum,Fc] at E;have zv:=O (H.upd (d:=X) L.out);have jj:=cP ((k+1:Nat):Int) (fQ (vss y) X v) zv.nv;obtain⟨nn,xa⟩:=zX9 (bS ((k+1:Nat):Int) (fQ (vss y) X v) (fun i=>(eN (bB n t y).kid X u i).ptr))
   have jv:=O xa;rw[xa] at E jj;obtain⟨sd,xc⟩:=zX9 (aE (pvs y) (bB n t y).ptr++(nn++[.int .i64 (X:Int)]))
   have j0:=O xc;rw[xc] at E
   have uq:Hid (∀q,q<4->∀i,(fQ (vss y) X v q).ownBlock=some i->i<W1.heap.size):=O (fun q C i A=>by
    by_cases e:q=X
    ·rw[e,nT] at A;exact j4.out i A
    ·rw[nU _ _ e] at A;exact ju.out q C i A)
   clear xa xc;replace j:=O (j.set 0 b E);replace m:=O (KI.keepT m.out b (fun i e C=>by rw[e] at C;exact (j.aq 0) C));replace z:=O (fun i h=>(z i h).imp (fun cc=>cc.keep b (fun e=>by rw[e] at h;exact (j.aq 0) h)) id);replace s:=O (s.tT b (fun i A e=>by first|exact .inr (.inl e)|exact .inr (.inr e)|(have:=Z.out;have:=qk.out;omega)));replace HX:=O (HX.tT b (fun i _ e=>by first|exact .inr (.inl e)|exact .inr (.inr (.inl e))|exact .inr (.inr (.inr (.inl e)))|exact .inr (.inr (.inr (.inr (.inl e))))|exact .inr (.inr (.inr (.inr (.inr e))))));replace zv:=O (bL.keepT zv.out b (fun q C i A e=>by have:=uq.out q C i A;have:=Z.out;omega));clear b E;refine wpList_nil ?_;refine cY (by kernel_rfl) (fun ⟨_,_,h⟩=>h) ?_;have c1:=cD j 6
   go_wp2_with ((with_reducible show WL _ _);refine ldM qb 35 nn (Nq qq.out (by have C:=(j.b 0);rw[←j0.out] at C;exact C)) underlying89 (by rw[jj];exact cU) ?_)
   clear c1;refine((by rw[←jv.out];exact E5 m.out (by omega) (eN (bB n t y).kid X u) (O9 (fun i A=>by have h:=jr.out;rw[show 3-y=k+1 by omega] at h;exact h.kid A) zp.1.ext zp.2.1) (fQ (vss y) X v) zv.out:Ka wo (bE wo c B' (.slice none 0 0) (T.lay (k+1) (eN (bB n t y).kid X u)).1 (T.lay (k+1) (eN (bB n t y).kid X u)).2))).mono ?_;rintro e wp ⟨v2,B2,jh,zk,x3,z2,x2,zj,b⟩;obtain⟨j5,z7⟩:=zX9 (eY (T.lay (k+1) (eN (bB n t y).kid X u)).1)
   rw[z7] at jh;have uj:=O z7;subst jh;replace zj:dM wo v2:=zj.elim (fun e=>by rw[e];exact dM.nil _) id;have q5:=O zk;have qy:=O x3;have zw:=O zj;have v8:=O z2;have qv:Hid (∀i,B2 i->IsC wp i\/i<wi.heap.size/\B0 i/\¬IsC wi i):=O fun i h=>(x2 i h).imp id fun ⟨a1,a2⟩=>(z i a1).resolve_left a2
   have z9:=aF (v:=v2) zk.pt.sum;have zt:=aL zk.pt;obtain⟨km,qt⟩:=zX9 (aE v2 (eJ (T.lay (k+1) (eN (bB n t y).kid X u)).1))
   have vi:Hid (∀u∈km,u.oneCell'=true):=O (by rw[←qt];exact zt);have x9:=O qt;rw[qt] at z9 ⊢;have j3:=O (show wi.heap.size≤wo.heap.size from s.size);have vd:=O (And.intro (j.lt 1).2 (And.intro (j.lt 2).2 (And.intro (j.lt 3).2 (j.lt 4).2)));clear qt zt zk x3 x2 zj z7;replace HX:Hid (aA (fun i=>B' i\/i=b8\/i=b9\/i=b10\/i=b12\/i=qb) V wp):=O (HX.tT b (fun i _ e=>.inl e));replace s:=O (s.tT b (fun i A e=>(zm i e).elim .inl fun e=>by omega));replace j:=O (j.turn b (fun i A e=>(zm i e).elim (fun e=>(zn i e).elim id fun e=>by omega) fun e=>by have:=vn.out;omega) (fun i A e=>(z2 i e).elim id fun e=>by omega));clear b z2 m z zv
   go_wp2_with refine stW (j.b 1) z9 qu (szP9 z9) vi.out ?_
   intro wq b E;replace j:=O (j.set 1 b E);replace qy:=O (KI.keepT qy.out b (fun i e C=>by rw[e] at C;exact (j.aq 1) C));replace q5:=O (aU.keepT q5.out b (fun i A e=>by have:=zw.out i A;have:=vd.out;omega));replace qv:=O (fun i h=>(qv i h).imp (fun cc=>cc.keep b (fun e=>by rw[e] at h;exact (j.aq 1) h)) id);replace s:=O (s.tT b (fun i A e=>by first|exact .inr (.inl e)|exact .inr (.inr e)|(have:=Z.out;have:=qk.out;omega)));replace HX:=O (HX.tT b (fun i _ e=>by first|exact .inr (.inl e)|exact .inr (.inr (.inl e))|exact .inr (.inr (.inr (.inl e)))|exact .inr (.inr (.inr (.inr (.inl e))))|exact .inr (.inr (.inr (.inr (.inr e))))));clear b E
   go_wp2_with refine stV (.int .i64 j5) (j.b 2) ?_
   intro wr b E;replace j:=O (j.set 2 b E);replace qy:=O (KI.keepT qy.out b (fun i e C=>by rw[e] at C;exact (j.aq 2) C));replace q5:=O (aU.keepT q5.out b (fun i A e=>by have:=zw.out i A;have:=vd.out;omega));replace qv:=O (fun i h=>(qv i h).imp (fun cc=>cc.keep b (fun e=>by rw[e] at h;exact (j.aq 2) h)) id);replace s:=O (s.tT b (fun i A e=>by first|exact .inr (.inl e)|exact .inr (.inr e)|(have:=Z.out;have:=qk.out;omega)));replace HX:=O (HX.tT b (fun i _ e=>by first|exact .inr (.inl e)|exact .inr (.inr (.inl e))|exact .inr (.inr (.inr (.inl e)))|exact .inr (.inr (.inr (.inr (.inl e))))|exact .inr (.inr (.inr (.inr (.inr e))))));clear b E;go_wp2_with fail;have xz:=j.b 1;have x0:=j.b 2;rw[←x9.out] at xz;rw[←uj.out] at x0;have j2:=zq.out _ v2 B2 xz x0 q5.out (fun i A=>by (have:=zw.out i A;have:=vd.out;omega)) qy.out (fun i h=>(v8 i h).elim (zm i) fun e=>.inr (by have:=j3.out;omega)) qv.out s.out
   refine⟨KpN.of HX.out fun i o e hn ho=>by
    rcases e with e|e|e|e|e|e
    ·rcases x7.out i e with⟨cs,t,h⟩|h
     ·rw[h] at ho;cases ho;rfl
     ·omega
    ·have:=HG.out;omega
    ·have:=HG.out;omega
    ·have:=HG.out;omega
    ·have:=HG.out;omega
    ·subst e;rw[ve.b 0] at ho;cases ho;rfl,KpC.of HX.out (fun i e=>?_),j2⟩
   rcases e with e|e|e|e|e|e
   ·exact(zm i e).elim .inl fun e=>.inr (.inr (.inr (.inr (.inr e))))
   ·exact .inr (.inl e)
   ·exact .inr (.inr (.inl e))
   ·exact .inr (.inr (.inr (.inl e)))
   ·exact .inr (.inr (.inr (.inr (.inl e))))
   ·exact .inr (.inr (.inr (.inr (.inr (by have:=Z.out;have:=qk.out;omega)))))
 case done =>
  rintro D W j6 ⟨y,v,B',ke,h12,h10,Y,vw,qd,qm,qr,ql⟩ xn;obtain rfl:y=0:=by omega
  rename_i KQ xp;obtain⟨⟨r,T⟩,zb⟩:∃q,eD 3 S t n bs=q:=⟨_,rfl⟩
  have e0:eD 3 S (bB n t 0) n bs=(r,T):=zb;rw[e0] at h12 h10 Y qd;rw[zb] at xp ⊢;dsimp only at h12 h10 Y qd xp ⊢;have xj:=O zb;have qu:=aF (v:=v) Y.pt.sum;have q3:=aL Y.pt;obtain⟨uc,qg⟩:=zX9 (aE v (eJ r))
  have uz:Hid (∀u∈uc,u.oneCell'=true):=O (by rw[←qg];exact q3);have xl:=O qg;rw[qg] at qu h12;have zr:=O (Loc.round j.out h12 h10 qm zn.out ql);have m:=O qd;have L:=O Y;have z:=O qr;have R:=O xn;have s:Hid (aA (fun i=>B0 i\/i=b8\/i=b9\/i=b10\/i=b12) wi W):=O ((aA.refl aB wi).trans' ql (fun _ _ h=>h.elim) (fun i A e=>e.elim .inl fun e=>e.elim (fun e=>.inr (.inr (.inr (.inl e)))) fun e=>.inr (.inr (.inr (.inr e)))));have kp:=O vw
  have uk:Hid (∀Wf v2,aU Wf B' v2 (eJ r)->v2=.slice none 0 0\/dM w v2->KI Wf c T B'->(∀i,B' i->IsC Wf i\/i<wi.heap.size/\B0 i/\¬IsC wi i)->aA (fun i=>B0 i\/i=b8\/i=b9\/i=b10\/i=b12) wi Wf->Wf.heap[D]?=some (.deferred (some []))->bE w c B (.slice none 0 0) r T (.returned (.tuple #[.agg (aE v2 (eJ r)).toArray,.int .i64 (eY r)])) (Wf.putObj D (.deferred none))):=O fun Wf v2 a1 a2 a3 a4 a5 a6=>by
   have kd:=aA.of_grown (grownBy_putObj' Wf D (.deferred none));have no:=fun {i:Nat}(h:IsC Wf i)=>oP a6 rfl h
   have nB:∀i,some D=some i->¬B' i:=fun i e E=>(a4 i E).elim (fun h=>no h e) fun h=>by have:=h.1;injection e with e;omega
   exact bE.upon (W:=Wf) rfl (a1.keepT kd fun i A=>no (a1.off i A).2) (a3.keepT kd nB) a2 zn.out qm vf.out qx.out (fun i h=>(a4 i h).imp (fun c=>c.keep kd (no c)) id) j.keep (a5.tT kd (fun i A e=>by injection e with e;omega)) (fun i h=>h.elim .inl fun h=>.inr (by have:=zu.out;omega))
  replace j:=zr;have xh:=O (show b8≠D/\b9≠D from by have:=HG.out;omega)
  have zp:Hid (∀u,r=some u->u.ptr.addrs.length≤65536):=O fun u hu=>by
   subst hu;have h:=(G7 (t:=t) (n:=n) (k:=3) (y:=0) v9.out HT.out xg.out vg.out (by omega) e0).2.1;have:=(iF (Tr.Ok.may3 h)).1;omega
  clear Y qd qr qm ql h10 h12 xo xf q3 zr zb e0 qg vw;show KQ _ _;refine xp _ _ ?_;clear xp;rcases r with _|u
  ·replace j:Hid (Loc B B' w W [(b12,uc.toArray,30),(b10,#[.int .i64 15],41),(b9,#[.int .i64 0],41),(b8,aX.toArray,30),(b5,pc.toArray,30),(b4,#[.pointer (some ⟨c,0,none⟩)],24)]):=j
   have c1:=cD j 1
   go_wp2_with fail;clear c1;go_wp2_with fail;refine dwB (fun k=>k=b8\/k=b9) (by kernel_rfl) ?_;intro wk S qa qj hS Q;replace j:=kL j Q;replace m:=O (m.keep0 Q);replace z:=O (fun i h=>(z i h).imp (fun c=>c.keep Q id) id);replace s:=O (s.trans (aA.any Q));replace R:=O (Q.blk R.out id);clear Q;have qe:=j;have qz:=m;have qw:=z;have q0:=s;have uf:=R;refine tnd 0 (.agg aX.toArray) rfl (sA (by rfl) 30 rfl jD) hS ?_;refine tnd 1 (.int .i64 15) rfl (.inl ⟨by rfl,fun w' xe=>by have c:World.cell? w' ⟨b10,0,none⟩=some (.int .i64 15):=aC (i:=0) ((qa w' xe).blk (qe.b 1) (fun e=>by rcases e with e|e<;>first|exact bH (i:=3) qe.nd rfl 1 (by decide) rfl e|exact bH (i:=2) qe.nd rfl 1 (by decide) rfl e)) rfl;go_simp⟩) hS ?_;refine wA9 2 ?_;refine stW (j.b 3) aG aG (szP9 aG) Bq ?_;intro wl b E;have qp:=qj.out _ ((qa _ hS).tT b (fun i A e=>(.inl e)));clear hS;replace j:=O (j.set 3 b E);replace m:=O (KI.keepT m.out b (fun i e C=>by rw[e] at C;exact (j.aq 3) C));replace z:=O (fun i h=>(z i h).imp (fun cc=>cc.keep b (fun e=>by rw[e] at h;exact (j.aq 3) h)) id);replace s:=O (s.tT b (fun i A e=>by first|exact .inr (.inl e)|exact .inr (.inr (.inl e))));replace R:=O (b.blk R.out (fun e=>by have:=xh.out;omega));clear b E;refine wpList_nil ?_;refine⟨qp,?_⟩;refine wA9 3 ?_;refine stV (.int .i64 15) (j.b 2) ?_;intro wm b E;have z3:=qj.out _ ((qa _ qp).tT b (fun i A e=>(.inr (e))));clear qp;replace j:=O (j.set 2 b E);replace m:=O (KI.keepT m.out b (fun i e C=>by rw[e] at C;exact (j.aq 2) C));replace z:=O (fun i h=>(z i h).imp (fun cc=>cc.keep b (fun e=>by rw[e] at h;exact (j.aq 2) h)) id);replace s:=O (s.tT b (fun i A e=>by first|exact .inr (.inl e)|exact .inr (.inr (.inl e))));replace R:=O (b.blk R.out (fun e=>by have:=xh.out;omega));clear b E;refine wpList_nil ?_;refine⟨z3,?_⟩;refine wpAnyH_done (by kernel_rfl) ?_ _;clear z3 qa qj qe qz qw q0 uf;refine noP ?_;go_wp2_with fail;have jq:=O (j.b 3);have xi:=O (uk _ (.slice none 0 0) (aU.hole _ _) (.inl rfl) m.out z.out s.out R.out);have kd:=aA.of_grown (grownBy_putObj' wm D (.deferred none));have zz:=O (kd.blk (j.b 3) (oP R.out rfl ⟨_,_,j.b 3⟩));have c9:(wm.putObj D (.deferred none)).cell? ⟨b9,0,none⟩=some (.int .i64 15):=aC (i:=0) (kd.blk (j.b 2) (oP R.out rfl ⟨_,_,j.b 2⟩)) rfl;have vp:=R.out;clear kd j m z s;show bodyPostM _ _ _ _ _ .ret _ _;refine⟨by simp,.inl ⟨_,_,rfl,run_takeDeferred vp,?_⟩⟩;exact⟨_,fP rfl _ _ b8 _ _ _ _ rfl zz.out aI rfl (by rw[List.size_toArray,aG];exact bX) ⟨b9,0,none⟩ (.int .i64 15) rfl (by go_simp),xi.out⟩
  ·replace j:Hid (Loc B B' w W [(b12,uc.toArray,30),(b10,#[.int .i64 0],41),(b9,#[.int .i64 0],41),(b8,aX.toArray,30),(b5,pc.toArray,30),(b4,#[.pointer (some ⟨c,0,none⟩)],24)]):=j
   have c1:=cD j 1
   go_wp2_with refine ldQ (j.b 0) qu ?_
   clear c1;have jt:=O j.keep.size;have um:=O (And.intro (j.lt 2).2 (j.lt 3).2);refine((by rw[←xl.out];exact Av (fun i e=>m.lt e) v u.ptr L.pt (zp u rfl):Ka W (tM W B' u.ptr))).mono ?_;rintro e wk ⟨ov,rfl,vr,xb,b⟩;have zy:=O vr;have xy:=O xb;have uw:=O (xb.from jt.out);obtain⟨oc,xw,qn,ux⟩:=nmPt vr.pt;rw[xw.out];clear vr xb;replace j:=kL j b;replace m:=O (m.keep0 b);replace L:=pK L b;replace z:=O (fun i h=>(z i h).imp (fun c=>c.keep b id) id);replace s:=O (s.trans (aA.any b));replace R:=O (b.blk R.out id);clear b;clear L
   go_wp2_with refine stW (j.b 3) qn aG (szP9 qn) ux.out ?_
   intro wl b E;replace j:=O (j.set 3 b E);replace m:=O (KI.keepT m.out b (fun i e C=>by rw[e] at C;exact (j.aq 3) C));replace z:=O (fun i h=>(z i h).imp (fun cc=>cc.keep b (fun e=>by rw[e] at h;exact (j.aq 3) h)) id);replace s:=O (s.tT b (fun i A e=>by first|exact .inr (.inl e)|exact .inr (.inr (.inl e))));replace R:=O (b.blk R.out (fun e=>by have:=xh.out;omega));replace zy:=O (aU.keepT zy.out b (fun i A e=>by have:=xy.out i A;have:=um.out;omega));clear b E
   go_wp2_with refine stV (.int .i64 0) (j.b 2) ?_
   intro wm b E;replace j:=O (j.set 2 b E);replace m:=O (KI.keepT m.out b (fun i e C=>by rw[e] at C;exact (j.aq 2) C));replace z:=O (fun i h=>(z i h).imp (fun cc=>cc.keep b (fun e=>by rw[e] at h;exact (j.aq 2) h)) id);replace s:=O (s.tT b (fun i A e=>by first|exact .inr (.inl e)|exact .inr (.inr (.inl e))));replace R:=O (b.blk R.out (fun e=>by have:=xh.out;omega));replace zy:=O (aU.keepT zy.out b (fun i A e=>by have:=xy.out i A;have:=um.out;omega));clear b E;go_wp2_with fail;have jq:=O (j.b 3);have xi:=O (uk _ ov zy.out (.inr uw.out) m.out z.out s.out R.out);have kd:=aA.of_grown (grownBy_putObj' wm D (.deferred none));have zz:=O (kd.blk (j.b 3) (oP R.out rfl ⟨_,_,j.b 3⟩));have c9:(wm.putObj D (.deferred none)).cell? ⟨b9,0,none⟩=some (.int .i64 0):=aC (i:=0) (kd.blk (j.b 2) (oP R.out rfl ⟨_,_,j.b 2⟩)) rfl;have vp:=R.out;rw[show eJ (some u)=u.ptr from rfl,xw.out] at xi;clear kd j m z s;show bodyPostM _ _ _ _ _ .ret _ _;refine⟨by simp,.inl ⟨_,_,rfl,run_takeDeferred vp,?_⟩⟩;exact⟨_,fP rfl _ _ b8 _ _ _ _ rfl zz.out aI rfl (by rw[List.size_toArray,qn];exact bX) ⟨b9,0,none⟩ (.int .i64 0) rfl (by go_simp),xi.out⟩
 case stop =>
  rintro D W j6 ⟨T,B',jm,h8,h9,qd,qm,qr,ql⟩ xn;have kd:=aA.of_grown (grownBy_putObj' W D (.deferred none));have no:=fun {i:Nat}(h:IsC W i)=>oP xn rfl h
  have nB:∀i,some D=some i->¬B' i:=fun i e E=>(qr i E).elim (fun h=>no h e) fun h=>by have:=h.1;injection e with e;omega
  have HP:Hid (bE w c B (.slice none 0 0) none T (.returned (.tuple #[.agg aX.toArray,.int .i64 15])) (W.putObj D (.deferred none))):=O (bE.upon (W:=W) rfl (aU.hole _ _) (qd.keepT kd nB) (.inl rfl) zn.out qm vf.out qx.out (fun i h=>(qr i h).imp (fun c=>c.keep kd (no c)) id) j.keep (ql.tT kd (fun i A e=>by injection e with e;omega)) (fun i h=>h.elim .inl fun h=>.inr (by have:=zu.out;omega)));have zz:=O (kd.blk h8 (no ⟨_,_,h8⟩));have c9:(W.putObj D (.deferred none)).cell? ⟨b9,0,none⟩=some (.int .i64 15):=aC (i:=0) (kd.blk h9 (no ⟨_,_,h9⟩)) rfl;rw[jm];clear kd no nB qd qm qr ql h8 h9 xo xf;show bodyPostM _ _ _ _ _ .ret _ _;refine⟨by simp,.inl ⟨_,_,rfl,run_takeDeferred xn,?_⟩⟩;exact⟨_,fP rfl _ _ b8 _ _ _ _ rfl zz.out aI rfl (by rw[List.size_toArray,aG];exact bX) ⟨b9,0,none⟩ (.int .i64 15) rfl (by go_simp),HP.out⟩
theorem lZ(j:KI w c S B)(pv:Value)(t:Tr)(r:Tr.Ok S 3 t)(o:aU w B pv t.ptr)(n:Nat)(m:n<64)(vv:Value)(b:List UInt8)(d:b.length=256)(q:Rd w 1 vv 256 (b.map vb))(e:∀i,vv.ownBlock=some i->¬B i/\i<w.heap.size):Calls prog 22 #[.pointer c,.agg (aE pv t.ptr).toArray,.int .i64 (n:Int),vv] w (bE w c B (.slice none 0 0) (nX S t n b).1 (nX S t n b).2):=by
 unfold nX
 by_cases h:t.blk 3 n=b
 ·rw[if_pos h];exact Lo j pv t r o n m vv b d q e h
 ·rw[if_neg h];exact Lp j pv t r o n m vv b d q e h
structure cS(w:World)(B:Nat->Prop)(b4 b5 c:Nat):Prop where
 c:w.heap[b4]?=some (.cells #[.pointer (some ⟨c,0,none⟩)] 24 (0,0))
 y:∃T,w.heap[b5]?=some (.cells #[.func (.func 49) #[] #[.pointer (some ⟨b4,0,none⟩),.pointer (some ⟨b5,0,none⟩)]] T (0,0))
 o4:Off w B b4
 o5:Off w B b5
theorem cS.keep(h:cS w B b4 b5 c)(k:aA B w w')(b:∀k,B' k->B k\/w.heap.size≤k):cS w' B' b4 b5 c:=
 ⟨k.blk h.c h.o4.1,h.y.imp fun T d=>k.blk d h.o5.1,h.o4.keep k b,h.o5.keep k b⟩
theorem cS.keep0(h:cS w B b4 b5 c)(k:aA aB w w'):cS w' B b4 b5 c:=h.keep k.any fun _ h=>.inl h
theorem C6(Q:KI w c S B)(pv:Value)(t:Tr)(l:Nat)(W:l≤3)(f g:Int)(hf:-1000≤f/\f≤1000)(hg:-1000≤g/\g≤1000)(N:Tr.Ok S l t)(H:aU w B pv t.ptr)(R:cS w B b4 b5 c)(V:t.isHole=true\/min g (4 ^ l)≤max f 0):Calls prog 49 #[.agg (aE pv t.ptr).toArray,.int .i64 (l:Int),.int .i64 f,.int .i64 g,.pointer b4,.pointer b5] w (bE w c B pv (some t) S):=by
 have HT:=O N;have j:=O R;have G:=O V;have q:=O N.hole_eq;have b:=O H;have i:=O Q;obtain⟨p,z⟩:=zX9 t.ptr
 have u:=O z;rw[z] at b H q ⊢;obtain⟨I,r,n,D⟩:=nmPt H.pt;rw[r.out];have h:=lN w;obtain⟨m,X⟩:∃m:Nat,4 ^ l=m:=⟨_,rfl⟩
 have J:=O X
 have Y:m≤64/\1≤m:=by
  have:l=0\/l=1\/l=2\/l=3:=by omega
  rcases this with rfl|rfl|rfl|rfl<;>omega
 have qa:0≤(l:Int):=by omega
 clear H z Q N R V X;cases F:t.isHole with
 | true =>
   rw[F] at q;clear F G;have s:=b;have y:=i;have x:=j;go_in
   go_wp2_with refine bxM h (I.toArray) ?_
   intro b6 w1 d h;replace b:=pK b d;replace i:=O (i.keep0 d);replace j:=O (cS.keep0 j.out d);clear d
   go_wp2_with refine alM h aZ ?_
   intro b10 A d h;replace b:=pK b d;replace i:=O (i.keep0 d);replace j:=O (cS.keep0 j.out d);clear d;go_wp2_with fail;refine((by rw[←J.out];exact kG A l W:Ka A (aH A (.int .i64 (m:Int))))).mono ?_;rintro e C ⟨rfl,d⟩;replace h:=kL h d;replace b:=pK b d;replace i:=O (i.keep0 d);replace j:=O (cS.keep0 j.out d);clear d
   go_wp2_with refine ldQ (h.b 1) n ?_
   refine((by rw[←r.out];exact bK C pv p b.pt:Ka C (aN C p.hole))).mono ?_;rintro e w4 ⟨rfl,d⟩;replace h:=kL h d;replace b:=pK b d;replace i:=O (i.keep0 d);replace j:=O (cS.keep0 j.out d);clear d;rw[q.out]
   go_wp2_with (first
    | refine ldQ (h.b 1) n ?_
    | refine stW (h.b 0) n aG (szP9 n) D.out ?_)
   intro P d E;replace h:=O (h.set 0 d E);replace b:=O (aU.keep0 s.out h.keep);replace i:=O (y.keep0 h.keep);replace j:=O (cS.keep0 x.out h.keep);clear d E;have o:=O (h.b 0);have L:Hid (bE w c B pv (some t) S (.returned (.tuple #[.agg I.toArray,.int .i64 0])) P):=O (by rw[←r.out,←u.out];exact bE.still (by rw[u.out];exact b.out) i.out h.keep);clear h i j b;go_wp2_with fail;refine bodyPost_ret (aT rfl _ _ b10 _ _ _ _ rfl o.out aI rfl (by rw[List.size_toArray,n];exact bX)) rfl ?_;exact L.out
 | false =>
   have M:min g (m:Int)≤max f 0:=by rw[F] at G;have:=G.resolve_left (by decide);rw[←J.out];exact_mod_cast this
   have Z:decide (max f 0 ≥ min g (m:Int))=true:=decide_eq_true M;rw[F] at q;clear F G;have s:=b;have y:=i;have x:=j;go_in
   go_wp2_with refine bxM h (I.toArray) ?_
   intro b6 w1 d h;replace b:=pK b d;replace i:=O (i.keep0 d);replace j:=O (cS.keep0 j.out d);clear d
   go_wp2_with refine alM h aZ ?_
   intro b10 A d h;replace b:=pK b d;replace i:=O (i.keep0 d);replace j:=O (cS.keep0 j.out d);clear d;go_wp2_with fail;refine((by rw[←J.out];exact kG A l W:Ka A (aH A (.int .i64 (m:Int))))).mono ?_;rintro e C ⟨rfl,d⟩;replace h:=kL h d;replace b:=pK b d;replace i:=O (i.keep0 d);replace j:=O (cS.keep0 j.out d);clear d
   go_wp2_with refine ldQ (h.b 1) n ?_
   refine((by rw[←r.out];exact bK C pv p b.pt:Ka C (aN C p.hole))).mono ?_;rintro e w4 ⟨rfl,d⟩;replace h:=kL h d;replace b:=pK b d;replace i:=O (i.keep0 d);replace j:=O (cS.keep0 j.out d);clear d;rw[q.out]
   go_wp2_with (first
    | refine ldQ (h.b 1) n ?_
    | refine stW (h.b 0) n aG (szP9 n) D.out ?_)
   intro P d E;replace h:=O (h.set 0 d E);replace b:=O (aU.keep0 s.out h.keep);replace i:=O (y.keep0 h.keep);replace j:=O (cS.keep0 x.out h.keep);clear d E;have o:=O (h.b 0);have L:Hid (bE w c B pv (some t) S (.returned (.tuple #[.agg I.toArray,.int .i64 0])) P):=O (by rw[←r.out,←u.out];exact bE.still (by rw[u.out];exact b.out) i.out h.keep);clear h i j b;go_wp2_with fail;refine bodyPost_ret (aT rfl _ _ b10 _ _ _ _ rfl o.out aI rfl (by rw[List.size_toArray,n];exact bX)) rfl ?_;exact L.out
theorem C7(V:KI w c S B)(pv:Value)(t:Tr)(l:Nat)(hl:l≤3)(f g:Int)(hf:-1000≤f/\f≤1000)(hg:-1000≤g/\g≤1000)(J:Tr.Ok S l t)(D:aU w B pv t.ptr)(X:cS w B b4 b5 c)(Z:t.isHole=false)(Y:¬min g (4 ^ l)≤max f 0)(hw:min g (4 ^ l)-max f 0=4 ^ l):Calls prog 49 #[.agg (aE pv t.ptr).toArray,.int .i64 (l:Int),.int .i64 f,.int .i64 g,.pointer b4,.pointer b5] w (bE w c B pv (some .hole) S):=by
 have HT:=O J;have n:=O X;have q:=O J.hole_eq;rw[Z] at q;have b:=O D;have i:=O V;obtain⟨p,r⟩:=zX9 t.ptr
 have qc:=O r;rw[r] at b D q ⊢;obtain⟨pc,z,I,qb⟩:=nmPt D.pt;rw[z.out];have o:(aE (.slice none 0 0) zPt).length=35:=rfl;have s:=jD;obtain⟨P,j⟩:=zX9 (aE (.slice none 0 0) zPt)
 have y:Hid (∀u∈P,u.oneCell'=true):=O (by rw[←j];exact cE zPt);have C:=O j;rw[j] at o s;have G:=O s;clear j s;have h:=lN w;obtain⟨m,H⟩:∃m:Nat,4 ^ l=m:=⟨_,rfl⟩
 have Q:=O H
 have qa:m≤64/\1≤m:=by
  have:l=0\/l=1\/l=2\/l=3:=by omega
  rcases this with rfl|rfl|rfl|rfl<;>omega
 have qe:0≤(l:Int):=by omega
 have R:(4:Int) ^ l=(m:Int):=by rw[←H];exact_mod_cast rfl
 rw[R] at Y hw;have qd:decide (max f 0 ≥ min g (m:Int))=false:=decide_eq_false Y;clear D r V J X H R Z;have A:=b;have F:=i;have E:=n;go_in
 go_wp2_with refine bxM h (pc.toArray) ?_
 intro b6 w1 d h;replace b:=pK b d;replace i:=O (i.keep0 d);replace n:=O (cS.keep0 n.out d);clear d
 go_wp2_with refine alM h aZ ?_
 intro b10 L d h;replace b:=pK b d;replace i:=O (i.keep0 d);replace n:=O (cS.keep0 n.out d);clear d;go_wp2_with fail;refine((by rw[←Q.out];exact kG L l hl:Ka L (aH L (.int .i64 (m:Int))))).mono ?_;rintro e M ⟨rfl,d⟩;replace h:=kL h d;replace b:=pK b d;replace i:=O (i.keep0 d);replace n:=O (cS.keep0 n.out d);clear d
 go_wp2_with refine ldQ (h.b 1) I ?_
 refine((by rw[←z.out];exact bK M pv p b.pt:Ka M (aN M p.hole))).mono ?_;rintro e N ⟨rfl,d⟩;replace h:=kL h d;replace b:=pK b d;replace i:=O (i.keep0 d);replace n:=O (cS.keep0 n.out d);clear d;rw[q.out];go_wp2_with fail;refine((by rw[←Q.out];exact kG N l hl:Ka N (aH N (.int .i64 (m:Int))))).mono ?_;rintro e w5 ⟨rfl,d⟩;replace h:=kL h d;replace b:=pK b d;replace i:=O (i.keep0 d);replace n:=O (cS.keep0 n.out d);clear d
 go_wp2_with ((with_reducible show WL _ _);first
  | refine bld 30 #[] [] (.agg P.toArray) G.out ?_
  | refine stW (h.b 0) o aG (szP9 o) y.out ?_)
 intro w6 d W;replace h:=O (h.set 0 d W);replace b:=O (aU.keep0 A.out h.keep);replace i:=O (F.keep0 h.keep);replace n:=O (cS.keep0 E.out h.keep);clear d W;have x:=O (h.b 0);have HP:Hid (bE w c B pv (some .hole) S (.returned (.tuple #[.agg P.toArray,.int .i64 0])) w6):=O (by rw[←C.out];exact bE.hole i.out h.keep);clear h i n b;go_wp2_with fail;refine bodyPost_ret (aT rfl _ _ b10 _ _ _ _ rfl x.out aI rfl (by rw[List.size_toArray,o];exact bX)) rfl ?_;exact HP.out
structure lF(w W0:World)(B:Nat->Prop)(c b4 b5 b6 b10 b12 l:Nat)(S:Kor)(t:Tr)(f g:Int)(pv:Value)(vs:Nat->Value)(k:Nat)(ch:Bool)(wr:World)(K:Nat->Tr)(T:Kor)(B':Nat->Prop)(vs':Nat->Value):Prop where
 eq:gG (bY l) (4 ^ l) S t f g k=(some (K,ch),T)
 ki:KI wr c T B'
 new:bL wr B' vs' (fun i=>(K i).ptr)
 old:bL wr B' vs (fun i=>(t.kid i).ptr)
 pt:aU wr B' pv t.ptr
 cl:cS wr B' b4 b5 c
 h12:wr.heap[b12]?=some (.cells (bS ((l+1:Nat):Int) vs' (fun i=>(K i).ptr)).toArray 89 (0,0))
 h6:wr.heap[b6]?=some (.cells (aE pv t.ptr).toArray 30 (0,0))
 h10:wr.heap[b10]?=some (.cells aX.toArray 30 (0,0))
 sub:∀i,B' i->B i\/W0.heap.size≤i
 clo:Cl w wr B B'
 off:∀q,q<4->∀i,(vs' q).ownBlock=some i->i≠b6/\i≠b10/\i≠b12
 keep:aA (fun i=>B i\/i=b12) W0 wr
theorem lF.loc{wr:World}
 (h:lF w W0 B c b4 b5 b6 b10 b12 l S t f g pv vs k ch wr K T B' vs') (q:aA aB w W0) (m:∀i,B i->i<w.heap.size) (n:w.heap.size≤b6/\b6<W0.heap.size) (d:w.heap.size≤b10/\b10<W0.heap.size) (j:w.heap.size≤b12/\b12<W0.heap.size) (r:b12≠b10) (s:b12≠b6) (u:b10≠b6) :
 Loc B B' w wr [(b12,(bS ((l+1:Nat):Int) vs' (fun i=>(K i).ptr)).toArray,89),(b10,aX.toArray,30),(b6,(aE pv t.ptr).toArray,30)]:=by
 refine⟨q.trans' h.keep (fun _ _ h=>h.elim) (fun i y e=>e.elim id fun e=>by omega),fun x b=>?_,?_,fun x b=>?_,fun x b o=>?_⟩
 ·simp only[List.mem_cons,List.not_mem_nil,or_false] at b
  rcases b with rfl|rfl|rfl
  ·exact j.1
  ·exact d.1
  ·exact n.1
 ·simp[r,s,u]
 ·simp only[List.mem_cons,List.not_mem_nil,or_false] at b
  rcases b with rfl|rfl|rfl
  ·exact h.h12
  ·exact h.h10
  ·exact h.h6
 ·simp only[List.mem_cons,List.not_mem_nil,or_false] at b
  have:=h.sub _ o;rcases b with rfl|rfl|rfl
  ·exact this.elim (fun e=>by have:=m _ e;simp only at this;omega) (fun e=>by simp only at e;omega)
  ·exact this.elim (fun e=>by have:=m _ e;simp only at this;omega) (fun e=>by simp only at e;omega)
  ·exact this.elim (fun e=>by have:=m _ e;simp only at this;omega) (fun e=>by simp only at e;omega)
theorem lF.step{wr:World}
 (h:lF w W0 B c b4 b5 b6 b10 b12 l S t f g pv vs k ch wr K T B' vs'){A x:World}{u:Tr}{j:Nat->Prop}(e:bY l T (t.kid k) (f-k*4 ^ l) (g-k*4 ^ l)=(some u,U))
 (ki:KI A c U j) (pt:aU A j v u.ptr) (sub:∀i,j i->B' i\/wr.heap.size≤i) (clo:Cl wr A B' j) (P:aA B' wr A) (C:aA (fun i=>i=b12) A x)
 (h12:x.heap[b12]?=some (.cells (bS ((l+1:Nat):Int) (fQ vs' k v) (fQ (fun i=>(K i).ptr) k u.ptr)).toArray 89 (0,0)))
 (E:v=vs k\/dM wr v) (z:∀q,q<4->∀i,(vs q).ownBlock=some i->i≠b6/\i≠b10/\i≠b12) (M:k<4) (D:∀i,pv.ownBlock=some i->i≠b12) (F:b4≠b12/\b5≠b12) (J:∀i,B i->i<w.heap.size)
 (V:w.heap.size≤b6/\b6<W0.heap.size) (G:w.heap.size≤b10/\b10<W0.heap.size) (H:w.heap.size≤b12/\b12<W0.heap.size) (Q:b12≠b10) (R:b12≠b6) :
 lF w W0 B c b4 b5 b6 b10 b12 l S t f g pv vs (k+1) (ch || !(t.kid k).ptr.eqB u.ptr) x (eN K k u) U j (fQ vs' k v):=by
 have N:=h.keep.size;have r:∀i,B' i->i≠b6/\i≠b10/\i≠b12:=fun i b=>(h.sub i b).elim (fun e=>by have:=J i e;omega) fun e=>by omega
 have n:∀i,j i->i≠b6/\i≠b10/\i≠b12:=fun i b=>(sub i b).elim (r i) fun e=>by omega
 have y:∀i,v.ownBlock=some i->i≠b6/\i≠b10/\i≠b12:=fun i b=>by
  rcases E with rfl|E
  ·exact z k M i b
  ·have:=E i b;omega
 have d:aA (fun i=>B' i\/i=b12) wr x:=P.trans' C (fun _ _ h=>.inl h) (fun i _ e=>.inr e)
 refine⟨?_,ki.keepT C fun i e L=>(n i L).2.2 e,fun q s=>?_,fun q s=>(h.old q s).grow (T:=fun i=>i=b12) d (fun i b=>(z q s i b).2.2) sub,h.pt.grow (T:=fun i=>i=b12) d D sub,?_,by rw[←Fc];exact h12,
  d.blk h.h6 (fun e=>e.elim (fun e=>(r _ e).1 rfl) (fun e=>R e.symm)),d.blk h.h10 (fun e=>e.elim (fun e=>(r _ e).2.1 rfl) (fun e=>Q e.symm)),fun i b=>(sub i b).elim (h.sub i) fun e=>.inr (by omega),
  (h.clo.trans clo).onT C fun i b=>(n i b).2.2,fun q s i b=>?_,h.keep.tT d (fun i b e=>e.elim (fun e=>(h.sub i e).imp id fun e=>by omega) .inr)⟩
 ·unfold gG
  rw[h.eq];simp only[];rw[e]
 ·show aU x j (fQ vs' k v q) (eN K k u q).ptr
  by_cases e:q=k
  ·subst e;rw[nT,eU];exact pt.keepT C fun i b=>(y i b).2.2
  ·rw[nU _ _ e,eA _ _ e];exact(h.new q s).grow (T:=fun i=>i=b12) d (fun i b=>(h.off q s i b).2.2) sub
 ·have o4:=h.cl.o4;have o5:=h.cl.o5
  have m:∀{i},Off wr B' i->¬(j i)/\i<x.heap.size:=fun {i} o=>⟨fun e=>(sub i e).elim o.1 fun e=>by have:=o.2;omega,by have:=o.2;have:=d.size;omega⟩
  exact⟨d.blk h.cl.c (fun e=>e.elim o4.1 F.1),h.cl.y.imp fun T I=>d.blk I (fun e=>e.elim o5.1 F.2),m o4,m o5⟩
 ·by_cases e:q=k
  ·subst e;rw[nT] at b;exact y i b
  ·rw[nU _ _ e] at b;exact h.off q s i b
theorem Br{cut:Kor->Tr->Int->Int->Option Tr×Kor}{W:Int}:∀{i j:Nat},gG cut W S t f g j=(none,U)->j≤i->gG cut W S t f g i=(none,U)
 | 0,j,h,b=>by
   obtain rfl:j=0:=by omega
   exact h
 | i+1,j,h,b=>by
   by_cases e:j=i+1
   ·subst e;exact h
   ·unfold gG
    rw[Br (i:=i) h (by omega)]
theorem lF.fail{wr:World}
 (h:lF w W0 B c b4 b5 b6 b10 b12 l S t f g pv vs k ch wr K T B' vs') (b:k<4)(e:bY l T (t.kid k) (f-k*4 ^ l) (g-k*4 ^ l)=(none,U)):gG (bY l) (4 ^ l) S t f g 4=(none,U):=by
 refine Br (j:=k+1) ?_ (by omega);unfold gG;rw[h.eq];simp only[];rw[e]
theorem lF.kids{wr:World}
 (h:lF w W0 B c b4 b5 b6 b10 b12 l S t f g pv vs k ch wr K T B' vs') (n:l≤2) (b:S.Bd) (d:Tr.Ok S (l+1) t) (m:k≤4):Beh S T/\∀i,i<4->Tr.Ok T l (K i):=by
 obtain⟨e,j⟩:=BW (C:=fun _ _ _=>True) b d (fun b d h=>tJ (by omega) b d h) k m h.eq;exact⟨e,(j K ch rfl).1⟩
def Qj(l:Nat):Prop:=∀(w:World) (c:Nat) (S:Kor) (B:Nat->Prop),KI w c S B->∀(b4 b5:Nat) (pv:Value) (t:Tr) (f g:Int),(-1000≤f/\f≤1000)->(-1000≤g/\g≤1000)->Tr.Ok S l t->aU w B pv t.ptr->cS w B b4 b5 c ->
 Calls prog 49 #[.agg (aE pv t.ptr).toArray,.int .i64 (l:Int),.int .i64 f,.int .i64 g,.pointer b4,.pointer b5] w (bE w c B pv (bY l S t f g).1 (bY l S t f g).2)
theorem Lq(q3:l≤2)(IH:Qj l)(hK:KI w c S B)(pv:Value)(t:Tr)(f g:Int)(hf:-1000≤f/\f≤1000)(hg:-1000≤g/\g≤1000)(ht:Tr.Ok S (l+1) t)(hp:aU w B pv t.ptr)(hc:cS w B b4 b5 c)(hh:t.isHole=false)(he:¬min g (4 ^ (l+1))≤max f 0)(hw:¬min g (4 ^ (l+1))-max f 0=4 ^ (l+1)):Calls prog 49 #[.agg (aE pv t.ptr).toArray,.int .i64 ((l+1:Nat):Int),.int .i64 f,.int .i64 g,.pointer b4,.pointer b5] w (bE w c B pv (bY (l+1) S t f g).1 (bY (l+1) S t f g).2):=by
 have HT:=O ht;have Z:=O hc;have xe:=O IH;have I:=O (fun i (e:B i)=>hK.lt e);have zw:=O hK.bd;have za:=O (And.intro hc.o4.2 hc.o5.2);have qf:=O (fun i s=>(hp.off i s).2.lt);have zi:=O ht.hole_eq;rw[hh] at zi;have y:=O hp;have HK:=O hK;obtain⟨p,zt⟩:=zX9 t.ptr
 have ql:=O zt;rw[zt] at y hp zi ⊢;obtain⟨pc,qk,qo,xm⟩:=nmPt hp.pt;rw[qk.out];have q9:(aE (.slice none 0 0) zPt).length=35:=rfl;have zu:=jD;obtain⟨zp,qh⟩:=zX9 (aE (.slice none 0 0) zPt)
 have z2:Hid (∀u∈zp,u.oneCell'=true):=O (by rw[←qh];exact cE zPt);have z5:=O qh;rw[qh] at q9 zu;have xr:=O zu;clear qh zu;have j:=lN w;obtain⟨m,hm⟩:∃m:Nat,4 ^ (l+1)=m:=⟨_,rfl⟩
 have HM:=O hm;have hl:l+1≤3:=by omega
 have xv:m≤64/\1≤m:=by
  have:l=0\/l=1\/l=2:=by omega
  rcases this with rfl|rfl|rfl<;>omega
 have x2:0≤((l+1:Nat):Int):=by omega
 have em:(4:Int) ^ (l+1)=(m:Int):=by rw[←hm];exact_mod_cast rfl
 have zh:Hid (bY (l+1) S t f g=match gG (bY l) (4 ^ l) S t (max f 0) (min g (m:Int)) 4 with
  | (none,T)=>(none,T)
  | (some (k,ch),T)=>if ch then T.lay (l+1) k else (some t,T)):=O (by
  show (if t.isHole || decide (min g (4 ^ (l+1))≤max f 0) then (some t,S) else if min g (4 ^ (l+1))-max f 0=4 ^ (l+1) then (some .hole,S) else _)=_;rw[hh,decide_eq_false he,if_neg (by decide),if_neg hw,em];rfl)
 rw[em] at he hw;have x0:decide (max f 0 ≥ min g (m:Int))=false:=decide_eq_false he;clear hp zt hK ht hc hm em hh IH;go_in
 go_wp2_with refine bxM j (pc.toArray) ?_
 intro b6 w1 b j;replace y:=pK y b;replace HK:=O (HK.keep0 b);replace Z:=O (cS.keep0 Z.out b);clear b
 go_wp2_with refine alM j aZ ?_
 intro b10 w2 b j;replace y:=pK y b;replace HK:=O (HK.keep0 b);replace Z:=O (cS.keep0 Z.out b);clear b;go_wp2_with fail;refine((by rw[←HM.out];exact kG w2 (l+1) hl:Ka w2 (aH w2 (.int .i64 (m:Int))))).mono ?_;rintro e w3 ⟨rfl,b⟩;replace j:=kL j b;replace y:=pK y b;replace HK:=O (HK.keep0 b);replace Z:=O (cS.keep0 Z.out b);clear b
 go_wp2_with refine ldQ (j.b 1) qo ?_
 refine((by rw[←qk.out];exact bK w3 pv p y.pt:Ka w3 (aN w3 p.hole))).mono ?_;rintro e w4 ⟨rfl,b⟩;replace j:=kL j b;replace y:=pK y b;replace HK:=O (HK.keep0 b);replace Z:=O (cS.keep0 Z.out b);clear b;rw[zi.out];go_wp2_with fail;refine((by rw[←HM.out];exact kG w4 (l+1) hl:Ka w4 (aH w4 (.int .i64 (m:Int))))).mono ?_;rintro e w5 ⟨rfl,b⟩;replace j:=kL j b;replace y:=pK y b;replace HK:=O (HK.keep0 b);replace Z:=O (cS.keep0 Z.out b);clear b;have c1:w5.cell? ⟨b4,0,none⟩=some (.pointer c):=(aC (i:=0) Z.c rfl)
 go_wp2_with refine ldQ (j.b 1) qo ?_
 clear c1;have xw:=O j.keep.size;have xg:=O (And.intro (j.lt 0).2 (j.lt 1).2);refine((by rw[←qk.out,←ql.out];exact xS HK.out q3 pv t HT.out (by rw[ql.out];exact y.pt):Ka w5 (eE w5 B l t))).mono ?_;rintro e w6 ⟨vs,rfl,qz,zg,b⟩;have qq:=O qz;have qa:=O zg;have q5:=cP ((l+1:Nat):Int) vs qz.nv;have zb:=cQ ((l+1:Nat):Int) qz.nv;obtain⟨nn,qd⟩:=zX9 (bS ((l+1:Nat):Int) vs (fun i=>(t.kid i).ptr))
 have xl:Hid (∀u∈nn,u.oneCell'=true):=O (by rw[←qd];exact zb);have xi:=O qd;rw[qd] at q5 ⊢;obtain⟨tc,qy⟩:=zX9 (tL vs (fun i=>(t.kid i).ptr))
 have z1:Hid (nn=.int .i64 ((l+1:Nat):Int)::tc):=O (by rw[←qd,←qy];rfl);have xp:=O qy;have xu:tc.length=140:=by have h:=q5;rw[z1.out,List.length_cons] at h;omega
 have xj:=O (fun q (hq:q<4) i s=>((qz q hq).off i s).2.lt);clear zb qd qz zg qy;replace j:=kL j b;replace y:=pK y b;replace HK:=O (HK.keep0 b);replace Z:=O (cS.keep0 Z.out b);clear b
 go_wp2_with ((with_reducible show WL _ _);refine alW gV q5 cW (by rw[q5];exact cU) xl.out ?_)
 intro b12 w8 E b A
 have zl:=O (show w6.heap.size≤b12 from Nat.le_of_eq E);replace j:=lW j E b A;replace y:=pK y b;replace HK:=O (HK.keep0 b);replace Z:=O (cS.keep0 Z.out b);replace qq:=O (bL.keep0 qq.out b);clear E b A
 go_wp2_with ((with_reducible show WL _ _);refine ldM b12 1 tc (by have h:=aD (j.b 0);rw[z1.out] at h;exact vB h) underlying87 (by rw[xu];exact N9) ?_)
 have zn:=O (show ∀q,q<4->∀i,(vs q).ownBlock=some i->i≠b6/\i≠b10/\i≠b12 from fun q hq i s=>by (have:=qa.out q hq i s;have:=xj.out q hq i s;have:=xg.out;have:=zl.out;omega));have M:=O (show b12≠b10/\b12≠b6/\b10≠b6 from⟨bH j.nd (i:=1) rfl 0 (by decide) rfl,bH j.nd (i:=2) rfl 0 (by decide) rfl,bH j.nd (i:=2) rfl 1 (by decide) rfl⟩);have xo:Hid (∃K T B' vs',lF w w8 B c b4 b5 b6 b10 b12 l S t (max f 0) (min g (m:Int)) pv vs 0 false w8 K T B' vs'):=O ⟨t.kid,S,B,vs,rfl,HK.out,qq.out,qq.out,by rw[ql.out];exact y.out,Z.out,by (have h:=j.b 0;rw[←xi.out] at h;exact h),by (have h:=j.b 2;rw[←qk.out,←ql.out] at h;exact h),j.b 1,fun _ h=>.inl h,Cl.refl _ _ _ j.keep,zn.out,aA.refl _ _⟩;have Q:=O (And.intro (j.lt 0) (And.intro (j.lt 1) (j.lt 2)));have qi:=O j.keep;have xy:=O (fun i s=>(y.off i s).2);have xx:=O qf.out;clear j HK y Z qq
 go_loopw [14,56] (fun ch i wr=>∃(k:Nat) (cb:Bool),k≤4/\ch=.bool cb/\i=.int .i64 (k:Int)/\Hid (∃K T B' vs',lF w w8 B c b4 b5 b6 b10 b12 l S t (max f 0) (min g (m:Int)) pv vs k cb wr K T B' vs')) (fun _ i _=>4-(intOf i).toNat)
 case atStart=>exact⟨0,false,by omega,rfl,rfl,xo⟩
 case round =>
  obtain⟨k,cb,b,rfl,rfl,zx⟩:=hrel;obtain⟨K,T,B',vs',F⟩:=zx.out
  by_cases N:k<4
  ·have L:=O F.ki;have z:=O (F.old k N);have J:=O F.cl;have d:=O F
   have j:=O (F.loc qi.out I.out Q.2.2 Q.2.1 Q.1 M.1 M.2.1 M.2.2);have R:=O (aA.refl aB wr);obtain⟨W,hW⟩:∃W:Nat,4 ^ l=W:=⟨_,rfl⟩
   have z7:W≤16:=by
    have:l=0\/l=1\/l=2:=by omega
    rcases this with rfl|rfl|rfl<;>omega
   have HW:=O hW;obtain⟨kw,zr⟩:∃q:Nat,k*W=q:=⟨_,rfl⟩
   have xt:kw≤48:=by rw[←zr];exact Nat.le_trans (Nat.mul_le_mul (by omega:k≤3) z7) (by decide)
   have xa:(k:Int)*(W:Int)=(kw:Int):=by rw[←zr];push_cast;rfl
   have qp:Hid ((k:Int)*(4:Int) ^ l=(kw:Int)):=O (by rw[←xa,←hW];push_cast;rfl);have qw:=aF (v:=vs k) z.pt.sum;have zd:=aL z.pt;have zo:=G4 F.old.nv N;obtain⟨qc,qe⟩:=zX9 (aE (vs k) ((t.kid k).ptr))
   have xn:Hid (∀u∈qc,u.oneCell'=true):=O (by rw[←qe];exact zd);have z3:=O qe;rw[qe] at qw;rw[xp.out,qe] at zo;have xd:=O zo;obtain⟨⟨r,U⟩,qx⟩:∃q,bY l T (t.kid k) (max f 0-(kw:Int)) (min g (m:Int)-(kw:Int))=q:=⟨_,rfl⟩
   have X:=O qx;have xq:=O ((HT.kid N).ext (F.kids q3 zw.out HT.out b).1.ext);have zq:(0:Int)≤(k:Int):=by omega
   have x1:(k:Int)<4:=by omega
   have xz:=HM.out;have q0:=O (And.intro F.sub F.keep.size);clear qe zd F zo hW zr qx
   go_wp2_with ((with_reducible show WL _ _);first
    | refine idx 87 30 4 35 k _ .i64 _ (.tmp 55) (.tmp 56) underlying87 N aI rfl wV ?_;rw[xd.out]
    | refine alA aZ ?_)
   intro z6 wa E zq zf
   go_wp2_with refine stW zf qw aG (szP9 qw) xn.out ?_
   intro wb b A;replace b:=tX zq b (fun i s e=>by omega);have xk:=O (show wr.heap.size≤z6 from Nat.le_of_eq E);replace j:=O (j.new (fun k h=>L.lt h) E b A);replace L:=O (L.keep0 b);replace z:=pK z b;replace J:=O (cS.keep0 J.out b);replace R:=O (R.trans b);clear E b A zq zf;go_wp2_with fail;refine((by rw[←HW.out];exact kG wb l (by omega):Ka wb (aH wb (.int .i64 (W:Int))))).mono ?_;rintro e wc ⟨rfl,b⟩;replace j:=kL j b;replace L:=O (L.keep0 b);replace z:=pK z b;replace J:=O (cS.keep0 J.out b);replace R:=O (R.trans b);clear b;have c1:wc.cell? ⟨b5,0,none⟩=some (.func (.func 49) #[] #[.pointer b4,.pointer b5]):=(by obtain⟨T9,h9⟩:=J.y;exact aC (i:=0) h9 rfl)
   go_wp2_with refine ldQ (j.b 0) qw ?_
   clear c1;refine((by have h:=xe.out wc c T B' L.out b4 b5 (vs k) (t.kid k) (max f 0-(kw:Int)) (min g (m:Int)-(kw:Int)) (by omega) (by omega) xq.out z.out J.out;rw[X.out,z3.out] at h;exact h:Ka wc (bE wc c B' (vs k) r U))).mono ?_;rintro e wd ⟨v,B2,qm,P,qv,H,qt,qn,b⟩;have C:=O P;have n:=O qv;have V:=O (show ∀i,B2 i->B' i\/wr.heap.size≤i from fun i s=>(H i s).imp id fun h=>Nat.le_trans R.size h);have qa:=O (qn.imp id fun h=>h.from R.size);have o:=O ((Cl.refl wr wc B' R.out).trans qt);replace R:=O (R.any.trans b);have ze:=O (fun i s=>(P.off i s).2.lt);replace z:=O (z.keep b H);replace j:=O (j.turn b (fun i s e=>(q0.1 i e).elim id fun e=>by have:=qi.size;omega) (fun i s A=>(H i A).elim id fun e=>by omega));have D:=aF (v:=v) P.pt.sum;have qb:=aL P.pt;obtain⟨rc,G⟩:=zX9 (aE v (eJ r))
   have qj:Hid (∀u∈rc,u.oneCell'=true):=O (by rw[←G];exact qb);have qr:=O G;rw[G] at D qm;subst qm;clear G qb P qv H qt qn b L J;rcases r with _|u
   ·go_wp2_with refine alW aZ D aG (szP9 D) qj.out ?_
    intro q1 wf E b A
    have zm:=O (show wd.heap.size≤q1 from Nat.le_of_eq E);replace j:=O (j.new (fun k h=>n.lt h) E b A);replace z:=pK z b;replace n:=O (n.keep0 b);replace C:=pK C b;replace R:=O (R.trans (aA.any b));replace o:=O (Cl.onT o.out b fun _ _=>id);clear E b A
    go_wp2_with ((with_reducible show WL _ _);first
     | refine bld 30 #[] [] (.agg zp.toArray) xr.out ?_
     | refine stW (j.b 3) q9 aG (szP9 q9) z2.out ?_)
    intro w9 b A;have Y:=O A;have e0:bY (l+1) S t f g=(none,U):=by rw[zh.out,d.fail (k:=k) N (by rw[qp.out];exact X.out)]
    have HP:Hid (bE w c B pv (bY (l+1) S t f g).1 (bY (l+1) S t f g).2 (.returned (.tuple #[.agg zp.toArray,.int .i64 15])) w9):=O (by
     rw[e0,←z5.out];have hg:=Q.out;have hz:=q0.out;have nb:∀i,B2 i->i≠b10:=fun i s e=>(V i s).elim (fun h=>(hz.1 i h).elim (fun h=>by have:=I.out i h;omega) fun h=>by omega) fun h=>by omega
     refine⟨_,B2,rfl,aU.hole _ _,n.keepT b fun i e A=>nb i A e,fun i s=>(V i s).elim (fun h=>(hz.1 i h).imp id fun h=>by omega) fun h=>.inr (by omega),(d.clo.trans o.out).onT b nb,.inr (dM.nil w),?_⟩;exact((j.keep).tT b (fun i s e=>by omega)))
    clear b A j n C z R o d e0;go_wp2_with fail;refine bodyPost_ret (aT rfl _ _ b10 _ _ _ _ rfl Y.out aI rfl (by rw[List.size_toArray,q9];exact bX)) rfl ?_;exact HP.out
   ·go_wp2_with refine alW aZ D aG (szP9 D) qj.out ?_
    intro q1 wf E b A
    have zm:=O (show wd.heap.size≤q1 from Nat.le_of_eq E);replace j:=O (j.new (fun k h=>n.lt h) E b A);replace z:=pK z b;replace n:=O (n.keep0 b);replace C:=pK C b;replace R:=O (R.trans (aA.any b));replace o:=O (Cl.onT o.out b fun _ _=>id);clear E b A
    cases cb with
     | true =>
       go_wp2_with ((with_reducible show WL _ _);first
        | refine ldQ (j.b 0) D ?_
        | refine sta 30 (.tmp 93) (.tmp 91) b12 (1+k*35) rc (j.b 2) (by rw[List.size_toArray,cP _ _ d.new.nv,D];omega) (szP9 D) qj.out ?_)
       intro w9 b A;rw[←qr.out,show eJ (some u)=u.ptr from rfl,E4 d.new.nv _ N (show u.ptr.sum.length=32 from C.pt.sum)] at A
       have zk:Hid (∃K T B' vs',lF w w8 B c b4 b5 b6 b10 b12 l S t (max f 0) (min g (m:Int)) pv vs (k+1) true w9 K T B' vs'):=O ⟨eN K k u,U,B2,fQ vs' k v,by
        have h:=d.step (by rw[qp.out];exact X.out) n.out C.out V.out o.out R.out b A qa.out zn.out N (fun i s=>by have:=qf.out i s;have:=Q.out;omega) (by have:=za.out;have:=Q.out;omega) I.out Q.2.2 Q.2.1 Q.1 M.1 M.2.1;rw[show (true || !(t.kid k).ptr.eqB u.ptr)=true from by rw[Bool.true_or]] at h;exact h⟩
       clear b A j n C z R o d V qa X q0;go_wp2
       go_roundw
       case rel=>exact⟨k+1,true,by omega,rfl,by go_num,zk⟩
       case measure=>simp[intOf];omega
     | false =>
       obtain⟨eb,z9⟩:=zX9 ((t.kid k).ptr.eqB u.ptr)
       have zy:=O z9;clear z9
       go_wp2_with ((with_reducible show WL _ _);first
        | refine aK (by rfl) 30 (.tmp 16) rfl z6 0 rfl qc _ (aD (j.b 1)) aI rfl (szP9 qw) ?_
        | refine aK (by rfl) 30 (.tmp 18) rfl q1 0 rfl rc _ (aD (j.b 0)) aI rfl (szP9 D) ?_)
       refine((by rw[←z3.out,←qr.out];exact uO wf (vs k) v (t.kid k).ptr u.ptr z.pt C.pt:Ka wf (aN wf ((t.kid k).ptr.eqB u.ptr)))).mono ?_;rintro e wg ⟨rfl,b⟩;replace j:=kL j b;replace z:=pK z b;replace n:=O (n.keep0 b);replace C:=pK C b;replace R:=O (R.trans (aA.any b));replace o:=O (Cl.onT o.out b fun _ _=>id);clear b;rw[zy.out]
       go_wp2_with ((with_reducible show WL _ _);first
        | refine ldQ (j.b 0) D ?_
        | refine sta 30 (.tmp 93) (.tmp 91) b12 (1+k*35) rc (j.b 2) (by rw[List.size_toArray,cP _ _ d.new.nv,D];omega) (szP9 D) qj.out ?_)
       intro w9 b A;rw[←qr.out,show eJ (some u)=u.ptr from rfl,E4 d.new.nv _ N (show u.ptr.sum.length=32 from C.pt.sum)] at A
       have zk:Hid (∃K T B' vs',lF w w8 B c b4 b5 b6 b10 b12 l S t (max f 0) (min g (m:Int)) pv vs (k+1) (!eb) w9 K T B' vs'):=O ⟨eN K k u,U,B2,fQ vs' k v,by
        have h:=d.step (by rw[qp.out];exact X.out) n.out C.out V.out o.out R.out b A qa.out zn.out N (fun i s=>by have:=qf.out i s;have:=Q.out;omega) (by have:=za.out;have:=Q.out;omega) I.out Q.2.2 Q.2.1 Q.1 M.1 M.2.1;rw[show (false || !(t.kid k).ptr.eqB u.ptr)=(!eb) from by rw[zy.out,Bool.false_or]] at h;exact h⟩
       clear b A j n C z R o d V qa X q0;go_wp2
       go_roundw
       case rel=>exact⟨k+1,(!eb),by omega,rfl,by go_num,zk⟩
       case measure=>simp[intOf];omega
  ·obtain rfl:k=4:=by omega
   have zz:=O (show wr.heap[b6]?=some (.cells pc.toArray 30 (0,0)) from by have h:=F.h6;rw[ql.out,qk.out] at h;exact h);have zv:=O F.h10;have d:=O F;clear F zx N;cases cb with
   | true =>
     have L:=O d.ki;have zj:=O d.new;have J:=O d.cl;have xf:=O (d.kids q3 zw.out HT.out (by omega)).2;have xb:=cP ((l+1:Nat):Int) vs' zj.nv;have z0:=O (d.loc qi.out I.out Q.2.2 Q.2.1 Q.1 M.1 M.2.1 M.2.2);obtain⟨mc,qg⟩:=zX9 (bS ((l+1:Nat):Int) vs' (fun i=>(K i).ptr))
     have xh:=O qg;have j:Hid (Loc B B' w wr [(b12,mc.toArray,89),(b10,aX.toArray,30),(b6,(aE pv t.ptr).toArray,30)]):=O (by rw[←qg];exact z0.out);rw[qg] at xb;obtain⟨⟨r,U⟩,qx⟩:∃q,T.lay (l+1) K=q:=⟨_,rfl⟩
     have X:=O qx;clear qg z0 qx;have c1:wr.cell? ⟨b4,0,none⟩=some (.pointer c):=(aC (i:=0) J.c rfl)
     go_wp2_with ((with_reducible show WL _ _);refine ldR (j.b 0) underlying89 (by rw[xb];exact cU) ?_)
     clear c1;refine((by rw[←xh.out];have h:=E5 L.out q3 K xf.out vs' zj.out;rw[X.out] at h;exact h:Ka wr (bE wr c B' (.slice none 0 0) r U))).mono ?_;rintro e wa ⟨v,B2,qm,P,qv,H,qt,qn,b⟩;have C:=O P;have n:=O qv;have V:=O H;have qa:=O qn;have o:=O qt;have ze:=O (show ∀i,v.ownBlock=some i->i≠b10 from fun i s e=>qn.elim (fun h=>by rw[h] at s;cases s) fun h=>by have:=h i s;have:=Q.out;have:=d.keep.size;omega);replace j:=O (j.turn b (fun i s e=>(d.sub i e).elim id fun e=>by have:=qi.size;omega) (fun i s A=>(H i A).elim id fun e=>by omega));have D:=aF (v:=v) P.pt.sum;have qb:=aL P.pt;obtain⟨rc,G⟩:=zX9 (aE v (eJ r))
     have qj:Hid (∀u∈rc,u.oneCell'=true):=O (by rw[←G];exact qb);have qr:=O G;obtain⟨er,qu⟩:=zX9 (eY r)
     have xc:=O qu;rw[G] at D qm;rw[qu] at qm;subst qm;clear G qu qb P qv H qt qn b L J zj
     go_wp2_with refine stW (j.b 1) D aG (szP9 D) qj.out ?_
     intro w9 b A;have Y:=O A;have e0:bY (l+1) S t f g=(r,U):=by rw[zh.out,d.eq];exact X.out
     have HP:Hid (bE w c B pv (bY (l+1) S t f g).1 (bY (l+1) S t f g).2 (.returned (.tuple #[.agg rc.toArray,.int .i64 er])) w9):=O (by
      rw[e0,←qr.out,←xc.out];have hg:=Q.out;have hz:=d.keep.size;have hw:=qi.size;have sub:∀i,B2 i->B i\/w8.heap.size≤i:=fun i s=>(V i s).elim (d.sub i) fun h=>.inr (by omega)
      have nb:∀i,B2 i->i≠b10:=fun i s e=>(sub i s).elim (fun h=>by have:=I.out i h;omega) fun h=>by omega
      refine⟨v,B2,rfl,C.keepT b ze.out,n.keepT b fun i e A=>nb i A e,fun i s=>(sub i s).imp id fun h=>by omega,(d.clo.trans o.out).onT b nb,.inr (qa.elim (fun e=>by rw[e];exact dM.nil w) fun h=>h.from (by omega)),?_⟩;exact((j.keep).tT b (fun i s e=>by omega)))
     clear b A j n C o d e0 V;go_wp2_with fail;refine bodyPost_ret (aT rfl _ _ b10 _ _ _ _ rfl Y.out aI rfl (by rw[List.size_toArray,D];exact bX)) rfl ?_;exact HP.out
   | false =>
     go_wp2_with (first
      | refine ldP b6 0 pc (aD zz.out) qo ?_
      | refine stW zv.out qo aG (szP9 qo) xm.out ?_)
     intro w9 b A;have Y:=O A;have e0:bY (l+1) S t f g=(some t,T):=by rw[zh.out,d.eq];rfl
     have HP:Hid (bE w c B pv (bY (l+1) S t f g).1 (bY (l+1) S t f g).2 (.returned (.tuple #[.agg pc.toArray,.int .i64 0])) w9):=O (by
      rw[e0,←qk.out,←ql.out];have hg:=Q.out;have nb:∀i,B' i->i≠b10:=fun i s e=>(d.sub i s).elim (fun h=>by have:=I.out i h;omega) fun h=>by omega
      refine⟨pv,B',rfl,d.pt.keepT b fun i s e=>by (have:=qf.out i s;omega),d.ki.keepT b fun i e A=>nb i A e,fun i s=>(d.sub i s).imp id fun h=>by omega,d.clo.onT b nb,.inl rfl,?_⟩;exact((qi.trans' d.keep (fun _ _ h=>h.elim) (fun i s e=>e.elim id fun e=>by omega)).tT b (fun i s e=>by omega))
      )
     clear b A zz zv d e0;go_wp2_with fail;refine bodyPost_ret (aT rfl _ _ b10 _ _ _ _ rfl Y.out aI rfl (by rw[List.size_toArray,qo];exact bX)) rfl ?_;exact HP.out
theorem Hb:∀l,l≤3->Qj l
 | 0,n=>fun w c S B b b4 b5 pv t f g e i m j d=>by
   have o:(4:Int) ^ 0=1:=rfl
   by_cases h:(t.isHole || decide (min g 1≤max f 0))=true
   ·rw[show bY 0 S t f g=(some t,S) from by unfold bY;rw[if_pos h]]
    rw[Bool.or_eq_true,decide_eq_true_eq] at h;exact C6 b pv t 0 n f g e i m j d (by rw[o];exact h)
   ·rw[show bY 0 S t f g=(some .hole,S) from by unfold bY;rw[if_neg h]]
    rw[Bool.or_eq_true,not_or,decide_eq_true_eq] at h;exact C7 b pv t 0 n f g e i m j d (by simpa using h.1) (by rw[o];exact h.2) (by rw[o];omega)
 | l+1,n=>fun w c S B b b4 b5 pv t f g e i m j d=>by
   by_cases h:(t.isHole || decide (min g (4 ^ (l+1))≤max f 0))=true
   ·rw[show bY (l+1) S t f g=(some t,S) from by unfold bY;rw[if_pos h]]
    rw[Bool.or_eq_true,decide_eq_true_eq] at h;exact C6 b pv t (l+1) n f g e i m j d h
   ·by_cases q:min g (4 ^ (l+1))-max f 0=4 ^ (l+1)
    ·rw[show bY (l+1) S t f g=(some .hole,S) from by unfold bY;rw[if_neg h,if_pos q]]
     rw[Bool.or_eq_true,not_or,decide_eq_true_eq] at h;exact C7 b pv t (l+1) n f g e i m j d (by simpa using h.1) h.2 q
    ·rw[Bool.or_eq_true,not_or,decide_eq_true_eq] at h
     exact Lq (by omega) (Hb l (by omega)) b pv t f g e i m j d (by simpa using h.1) h.2 q
theorem QU:Hid (∀w,(zeroValue 114).run prog w=.ok .nilFunc w):=O fun w=>by kernel_rfl
theorem NA(hK:KI w c S B)(pv:Value)(t:Tr)(ht:Tr.Ok S 3 t)(hp:aU w B pv t.ptr)(f g:Nat)(q5:f≤g)(hg:g≤64):Calls prog 21 #[.pointer c,.agg (aE pv t.ptr).toArray,.int .i64 (f:Int),.int .i64 (g:Int)] w (bE w c B (.slice none 0 0) (bY 3 S t f g).1 (bY 3 S t f g).2):=by
 have HT:=O ht;have E:=O (fun i (e:B i)=>hK.lt e);have qr:=O hK.bd;have m:=O hp;have z:=O hK;have qv:=O (fun i (y:pv.ownBlock=some i)=>(hp.off i y).2.lt);have q0:¬((f:Int)<0):=by omega
 have q1:¬((f:Int) > (g:Int)):=by omega
 have q3:¬((g:Int) > 64):=by omega
 obtain⟨p,X⟩:=zX9 t.ptr
 have Q:=O X;rw[X] at m hp ⊢;obtain⟨pc,P,qq,qz⟩:=nmPt hp.pt;rw[P.out];have J:(aE (.slice none 0 0) zPt).length=35:=rfl;have Z:=jD;obtain⟨zp,C⟩:=zX9 (aE (.slice none 0 0) zPt)
 have qi:Hid (∀u∈zp,u.oneCell'=true):=O (by rw[←C];exact cE zPt);have ql:=O C;rw[C] at J Z;have qx:=O Z;clear C Z;have d:=lN w;obtain⟨⟨r,T⟩,Y⟩:∃q,bY 3 S t f g=q:=⟨_,rfl⟩
 have qk:=O Y;rw[Y];clear hp X hK ht Y;have qj:=m;have qt:=z;go_in
 go_wp2_with refine bxM d (#[.pointer c]) ?_
 intro b4 w1 b d;replace m:=pK m b;replace z:=O (z.keep0 b);clear b
 go_wp2_with refine bxM d (pc.toArray) ?_
 intro b5 w2 b d;replace m:=pK m b;replace z:=O (z.keep0 b);clear b
 go_wp2_with refine alM d aZ ?_
 intro b8 w3 b d;replace m:=pK m b;replace z:=O (z.keep0 b);clear b;have c1:=cD d 2
 go_wp2_with refine ldQ (d.b 1) qq ?_
 clear c1;refine((by rw[←P.out];exact qD z.out pv p m.pt (by rw[←Q.out];exact HT.root):Ka w3 (aH w3 (.int .i64 0)))).mono ?_;rintro e w4 ⟨rfl,b⟩;replace d:=kL d b;replace m:=pK m b;replace z:=O (z.keep0 b);clear b
 go_wp2_with refine alS d QU ?_
 intro R w5 b d;replace m:=pK m b;replace z:=O (z.keep0 b);clear b
 go_wp2_with refine stV (.func (.func 49) #[] #[.pointer b4,.pointer R]) (d.b 0) ?_
 intro w6 b o;replace d:=O (d.set 0 b o);replace m:=O (aU.keep0 qj.out d.keep);replace z:=O (qt.keep0 d.keep);clear b o;have qc:=O (cS.mk (d.b 3) ⟨_,d.b 0⟩ ⟨fun e=>by have:=E.out _ e;have:=(d.lt 3).1;omega,(d.lt 3).2⟩ ⟨fun e=>by have:=E.out _ e;have:=(d.lt 0).1;omega,(d.lt 0).2⟩:cS w6 B b4 R c);have HG:=O (And.intro (d.lt 0) (And.intro (d.lt 1) (And.intro (d.lt 2) (d.lt 3))));have c1:=cD d 0
 go_wp2_with refine ldQ (d.b 2) qq ?_
 clear c1;refine((by rw[←P.out,←Q.out];have h:=Hb 3 (Nat.le_refl _) w6 c S B z.out b4 R pv t f g (by omega) (by omega) HT.out (by rw[Q.out];exact m.out) qc.out;rw[qk.out] at h;exact h:Ka w6 (bE w6 c B pv r T))).mono ?_;rintro e w7 ⟨v,B2,qo,I,qn,F,qm,qp,b⟩;have s:=O I;have j:=O qn;have qb:=O (show ∀i,B2 i->B i\/w.heap.size≤i from fun i y=>(F i y).imp id fun h=>Nat.le_trans d.keep.size h);have n:=O ((Cl.refl w w6 B d.keep).trans qm);have qy:=O (show ∀i,v.ownBlock=some i->i≠b8 from fun i y e=>qp.elim (fun h=>by rw[h] at y;have:=qv.out i y;have:=HG.out;omega) fun h=>by have:=h i y;have:=HG.out;omega);replace d:=O ((d.wide E.out).turn b (fun _ _ h=>h) (fun i y o=>(F i o).elim id fun e=>by omega));have D:=aF (v:=v) I.pt.sum;have M:=aL I.pt;obtain⟨rc,A⟩:=zX9 (aE v (eJ r))
 have qg:Hid (∀u∈rc,u.oneCell'=true):=O (by rw[←A];exact M);have qw:=O A;rw[A] at D qo;subst qo;clear A M I qn F qm qp b z m qc;rcases r with _|u
 ·go_wp2_with refine alW aZ D aG (szP9 D) qg.out ?_
  intro b12 w9 G b o
  replace d:=O (d.new (fun k h=>j.lt h) G b o);replace j:=O (j.keep0 b);replace s:=pK s b;replace n:=O (Cl.onT n.out b fun _ _=>id);clear G b o
  go_wp2_with ((with_reducible show WL _ _);first
   | refine bld 30 #[] [] (.agg zp.toArray) qx.out ?_
   | refine stW (d.b 2) J aG (szP9 J) qi.out ?_)
  intro w9 b o;have N:=O o
  have HP:Hid (bE w c B (.slice none 0 0) none T (.returned (.tuple #[.agg zp.toArray,.int .i64 15])) w9):=O (by
   rw[←ql.out];have hg:=HG.out;have nb:∀i,B2 i->i≠b8:=fun i y e=>(d.aq 2) (e▸y)
   exact⟨_,B2,rfl,aU.hole _ _,j.keepT b fun i e o=>nb i o e,qb.out,n.onT b nb,.inl rfl,(d.keep).tT b (fun i y e=>by omega)⟩)
  clear b o d j s n;go_wp2_with fail;refine bodyPost_ret (aT rfl _ _ b8 _ _ _ _ rfl N.out aI rfl (by rw[List.size_toArray,J];exact bX)) rfl ?_;exact HP.out
 ·go_wp2_with refine alW aZ D aG (szP9 D) qg.out ?_
  intro b12 w9 G b o
  replace d:=O (d.new (fun k h=>j.lt h) G b o);replace j:=O (j.keep0 b);replace s:=pK s b;replace n:=O (Cl.onT n.out b fun _ _=>id);clear G b o;have qa:=O (show u.ptr.addrs.length≤65536 from by have:=(iF (Tr.Ok.may3 (show Tr.Ok T 3 u from((tJ (Nat.le_refl 3) qr.out HT.out qk.out).2 u rfl).1))).1;omega)
  go_wp2_with refine ldQ (d.b 0) D ?_
  have qu:=O d.keep.size;go_wp2_with fail;refine((by rw[←qw.out];exact Av (fun i e=>j.lt e) v u.ptr s.pt qa.out:Ka w9 (tM w9 B2 u.ptr))).mono ?_;rintro e wa ⟨ov,rfl,W,H,b⟩;have qh:=O W;have qe:=O (H.from qu.out);have qd:=O (show ∀i,ov.ownBlock=some i->i≠b8 from fun i y e=>by have:=H i y;have:=(d.lt 2).2;omega);obtain⟨oc,L,V,qf⟩:=nmPt W.pt;rw[L.out];clear W H;replace d:=kL d b;replace j:=O (j.keep0 b);replace s:=pK s b;replace n:=O (Cl.onT n.out b fun _ _=>id);clear b
  go_wp2_with refine stW (d.b 2) V aG (szP9 V) qf.out ?_
  intro w9 b o;have N:=O o
  have HP:Hid (bE w c B (.slice none 0 0) (some u) T (.returned (.tuple #[.agg oc.toArray,.int .i64 0])) w9):=O (by
   rw[←L.out];have hg:=HG.out;have nb:∀i,B2 i->i≠b8:=fun i y e=>(d.aq 2) (e▸y)
   exact⟨ov,B2,rfl,qh.keepT b qd.out,j.keepT b fun i e o=>nb i o e,qb.out,n.onT b nb,.inr qe.out,(d.keep).tT b (fun i y e=>by omega)⟩)
  clear b o d j s n qh;go_wp2_with fail;refine bodyPost_ret (aT rfl _ _ b8 _ _ _ _ rfl N.out aI rfl (by rw[List.size_toArray,V];exact bX)) rfl ?_;exact HP.out
theorem vJ(w:World)(l:Nat)(d:l≤3):Calls prog 39 #[.int .i64 (l:Int)] w (aH w (.int .i64 ((4 ^ l:Nat):Int))):=by
 have b:=lN w;rcases l with _|_|_|_|l
 ·go_in
  go_wp2;go_ret;exact aH.of b.keep
 ·go_in
  go_wp2;go_ret;exact aH.of b.keep
 ·go_in
  go_wp2;go_ret;exact aH.of b.keep
 ·go_in
  go_wp2;go_ret;exact aH.of b.keep
 ·omega
theorem Jj(pv:Value)(y:PtV w pv zPt)(l:Nat):Calls prog 38 #[.pointer c,.agg (aE pv zPt).toArray,.int .i64 ((l+1:Nat):Int)] w (eE w B l .hole):=by
 obtain⟨p,n⟩:=zX9 zPt
 have I:Hid (p.hole=true):=O (by rw[←n];exact jC);rw[n] at y ⊢;have b:=O y;obtain⟨L,q,E,J⟩:=nmPt y;rw[q.out];have j:(bS ((l+1:Nat):Int) (fun _=>.slice none 0 0) (fun _=>zPt)).length=141:=rfl;have m:=B6 ((l+1:Nat):Int);obtain⟨H,h⟩:=zX9 (bS ((l+1:Nat):Int) (fun _=>.slice none 0 0) (fun _=>zPt))
 have D:Hid (∀u∈H,u.oneCell'=true):=O (by rw[←h];exact cQ (w:=w) _ fun _ _=>vE w);have C:=O h;rw[h] at j m;have o:=O m;obtain⟨lv,s⟩:=zX9 (((l+1:Nat):Int))
 rw[s] at o ⊢;have d:=lN w;clear y h m n s;have r:=b;go_in
 go_wp2_with refine bxM d (L.toArray) ?_
 intro b4 M i d;replace b:=O (b.keep i fun _ _=>id);clear i
 go_wp2_with refine alM d gV ?_
 intro b6 F i d;replace b:=O (b.keep i fun _ _=>id);clear i
 go_wp2_with refine ldQ (d.b 1) E ?_
 refine((by rw[←q.out];exact bK F pv p b.out:Ka F (aN F p.hole))).mono ?_;rintro e N ⟨rfl,i⟩;replace d:=kL d i;replace b:=O (b.keep i fun _ _=>id);clear i;rw[I.out]
 go_wp2_with ((with_reducible show WL _ _);first
  | refine bld 89 #[(0,.tmp 14)] [(0,.int .i64 lv)] (.agg H.toArray) o.out ?_
  | refine stW (d.b 0) j cW (by rw[j];exact cU) D.out ?_)
 intro P i G;replace d:=O (d.set 0 i G);replace b:=O (r.keep d.keep fun _ _=>id);clear i G;have z:=O (d.b 0);have A:=O d.keep;clear d b;go_wp2_with fail;refine bodyPost_ret (aT rfl _ _ b6 _ _ _ _ rfl z.out underlying89 rfl (by rw[List.size_toArray,j];exact cU)) rfl ?_;exact⟨fun _=>.slice none 0 0,(by rw[←C.out];rfl),bL.hole _ B,fun _ _=>dM.nil w,A.out⟩
theorem Jk(hK:KI w c S B)(pv:Value)(p:Pt)(hp:PtV w pv p)(l:Nat)(hl:l≤2)(k:Nat->Tr)(hg:jV S p (l+1) (cX (l+1) (fI k)))(E:∀i,i<4->Tr.Ok S l (k i)):Calls prog 38 #[.pointer c,.agg (aE pv p).toArray,.int .i64 ((l+1:Nat):Int)] w (eE w B l (.node p k)):=by
 have HH:Hid (p.hole=false):=O hg.ne_hole;have d:=O hp;have s:=O hK;have HG:=O hg;have H:=O E;have G:=O (fun i (e:B i)=>hK.lt e);obtain⟨pc,D,P,qe⟩:=nmPt hp;rw[D.out];have Z:Hid (cX (l+1) (fI k)=nb (l+1) (fun i=>(k i).ptr)):=O (Tr.Ok.nb_eq (l+1) E).symm;have qd:0≤((l+1:Nat):Int):=by omega
 have m:=lN w;clear hp hg E hK;go_in
 go_wp2_with refine bxM m (pc.toArray) ?_
 intro b4 w1 b m;replace d:=O (d.keep b fun _ _=>id);replace s:=O (s.keep0 b);clear b
 go_wp2_with refine alM m gV ?_
 intro b6 w2 b m;replace d:=O (d.keep b fun _ _=>id);replace s:=O (s.keep0 b);clear b
 go_wp2_with refine ldQ (m.b 1) P ?_
 refine((by rw[←D.out];exact bK w2 pv p d.out:Ka w2 (aN w2 p.hole))).mono ?_;rintro e w3 ⟨rfl,b⟩;replace m:=kL m b;replace d:=O (d.keep b fun _ _=>id);replace s:=O (s.keep0 b);clear b;rw[HH.out]
 go_wp2_with refine ldQ (m.b 1) P ?_
 refine((by rw[←D.out];exact KI.get s.out d.out HG.out:Ka w3 (gH w3 (cX (l+1) (fI k))))).mono ?_;rintro e w4 ⟨v1,rfl,R,b⟩;rw[Z.out] at R;obtain⟨va,vc,rfl,-,-⟩:=(Rd.of_owns R).form;have Q:=O R;clear R;replace m:=kL m b;replace d:=O (d.keep b fun _ _=>id);replace s:=O (s.keep0 b);clear b;go_wp2_with fail;have M:=O m.keep.size;have Y:=O (m.lt 0).2;refine((zI w4 (.slice va 256 vc) (l+1) (fun i=>(k i).ptr) (by omega) (by omega) (fun i A=>(H i A).sl) (fun i A=>by have:=(H i A).fit;exact this) (Rd.of_owns Q.out))).mono ?_;rintro e w5 ⟨vs,rfl,r,b⟩;have qa:=O (fun j (hj:j<4) i (A:(vs j).ownBlock=some i) (e:i=b6)=>by have h1:=((r j hj).2 i A).1;have h2:=Y.out;omega:∀j,j<4->∀i,(vs j).ownBlock=some i->¬i=b6);have I:=O (fun q (hq:q<4) i (A:(vs q).ownBlock=some i)=>by have:=((r q hq).2 i A).1;have:=M.out;omega:∀q,q<4->dM w (vs q));have z:=O (r.nval (B:=B) (fun i e=>by have:=G.out i e;have:=M.out;omega));have n:=cP ((l+1:Nat):Int) vs r.nv;have C:=cQ ((l+1:Nat):Int) r.nv;obtain⟨nn,o⟩:=zX9 (bS ((l+1:Nat):Int) vs (fun i=>(k i).ptr))
 have L:Hid (∀u∈nn,u.oneCell'=true):=O (by rw[←o];exact C);have J:=O o;rw[o] at n ⊢;clear C o r;replace m:=kL m b;replace d:=O (d.keep b fun _ _=>id);replace s:=O (s.keep0 b);replace Q:=O (b.owns Q.out fun _ _=>id);clear b;have X:=O m.keep;have y:=O (m.b 0);have W:=O (m.lt 0);replace m:=O (Loc.nil aB aB w5);have qc:=z;have qb:=y;clear d s Q
 go_wp2_with ((with_reducible show WL _ _);refine alW gV n cW (by rw[n];exact cU) L.out ?_)
 intro b10 w7 N b F
 replace m:=lW m N b F;replace z:=O (bL.keep0 z.out b);replace y:=O (b.blk y.out id);clear N b F;have c1:w7.cell? ⟨b10,0,none⟩=some (.int .i64 ((l+1:Nat):Int)):=aC (i:=0) (m.b 0) (by rw[←J.out];rfl)
 go_wp2_with ((with_reducible show WL _ _);first
  | refine ldR (m.b 0) underlying89 (by rw[n];exact cU) ?_
  | refine sta 89 (.tmp 6) (.tmp 40) b6 0 nn y.out (by rw[List.size_toArray,cW,n];omega) (by rw[n];exact cU) L.out ?_)
 clear c1;intro w9 b F;rw[aS _ _ (by rw[List.size_toArray,cW,n])] at F;have HP:Hid (eE w B l (.node p k) (.returned (.tuple #[.agg nn.toArray,.int .i64 0])) w9):=O ⟨vs,by rw[←J.out];rfl,fun i A=>(z i A).keepT b (fun j hj e=>qa.out i A j hj e),I.out,(X.trans m.keep).tT b (fun i A e=>by have:=W.1;omega)⟩;have V:=O F;clear F b m z y;go_wp2_with fail;refine bodyPost_ret (aT rfl _ _ b6 _ _ _ _ rfl V.out underlying89 rfl (by rw[List.size_toArray,n];exact cU)) rfl ?_;exact HP.out
theorem sB(h:KI w c S B)(i:l≤2)(pv:Value)(t:Tr)(d:Tr.Ok S (l+1) t)(e:PtV w pv t.ptr):Calls prog 38 #[.pointer c,.agg (aE pv t.ptr).toArray,.int .i64 ((l+1:Nat):Int)] w (eE w B l t):=by
 cases t with
 | hole=>exact Jj pv e l
 | leaf p b=>exact d.elim
 | node p k=>exact Jk h pv p e l i k d.1 d.2.1
theorem sC(w:World)(x:Int):Calls prog 26 #[.int .i64 x] w fun e w'=>∃g,e=.returned (.func (.func 68) #[] #[.pointer (some ⟨g,0,none⟩)])/\w'.heap[g]?=some (.cells #[.int .i64 x] 3 (0,0))/\w.heap.size≤g/\aA aB w w':=by
 go_in;have b:=lN w
 go_wp2_with refine bxM b (#[.int .i64 x]) ?_
 intro b1 h d b;clear d;go_wp2;go_ret;exact⟨b1,rfl,b.b 0,(b.lt 0).1,b.keep⟩
theorem kZ{g:Nat}{x:Int}(q:w.heap[g]?=some (.cells #[.int .i64 x] 3 (0,0)))(pv:Value)(p:Pt)(n:PtV w pv p):Calls prog 68 #[.agg (aE pv p).toArray,.pointer g] w (aN w (decide (x<p.birth))):=by
 have o:=aF (v:=pv) n.sum;have e:=aL n;have j:(aE pv p).toArray[1]?=some (.int .i64 p.birth):=rfl;obtain⟨A,b⟩:=zX9 (aE pv p)
 obtain⟨z,d⟩:=zX9 p.birth
 rw[b] at o e j ⊢;rw[d] at j ⊢;have u:=O j;have m:=O q;clear b d e j q n;have h:=lN w;go_in
 go_wp2_with refine bxM h (A.toArray) ?_
 intro y s r h;replace m:=O (r.blk m.out id);clear r;have c1:s.cell? ⟨y,1,none⟩=some (.int .i64 z):=aC (i:=1) (h.b 0) u.out;have c2:s.cell? ⟨g,0,none⟩=some (.int .i64 x):=cell_of_one m.out;go_wp2;go_ret;exact⟨rfl,h.keep⟩
def dN(v:Value)(p:Pt)(a:Int):List Value:=aE v p++[.int .i64 a]
theorem kH(h:p.sum.length=32):(dN v p a).length=36:=by unfold dN;rw[List.length_append,aF h];rfl
theorem kI(h:PtV w v p):∀u∈dN v p a,u.oneCell'=true:=by
 intro u b;rcases List.mem_append.1 b with b|b
 ·exact aL h u b
 ·rw[List.mem_singleton] at b
  subst b;rfl
theorem Qk(v u:Value)(p:Pt)(a:Int):spl (dN v p a).toArray 0 [u]=(dN u p a).toArray:=rfl
theorem eQ{b:Nat}{t:TypeId}{fr:Nat×Nat}(h:w.heap[b]?=some (.cells (dN v p a).toArray t fr)):w.rangeAt b 0 (aE v p):=fun j u d =>
 aC h (by
  rw[List.getElem?_toArray,Nat.zero_add];unfold dN;rw[List.getElem?_append_left (List.getElem?_eq_some_iff.1 d).1];exact d)
def vK(w:World)(B:Nat->Prop)(p:Pt)(e:Ending)(w':World):Prop:=∃v,e=.returned (.tuple #[.agg (aE v p).toArray,.bool true])/\aU w' B v p/\dM w v/\aA aB w w'
theorem Fi(hB:∀k,B k->k<w.heap.size)(pv:Value)(p:Pt)(F:PtV w pv p)(hl:p.addrs.length≤65536)(at_:Int):Calls prog 27 #[.agg (dN pv p at_).toArray] w (vK w B p):=by
 have M:=O hB;have qd:=O hl;have I:=O F.ads;have A:=O F.sum;have j:=O F;have Y:=kH (v:=pv) (a:=at_) F.sum;have y:=kI (a:=at_) F;obtain⟨pc,m⟩:=zX9 (dN pv p at_)
 have qi:Hid (∀u∈pc,u.oneCell'=true):=O (by rw[←m];exact y);have V:=O m;rw[m] at Y ⊢;clear y m;have qf:Hid (∃r,pc=pv::r):=O ⟨_,V.symm⟩;have d:=lN w;clear F hl hB;have qh:=j;go_in
 go_wp2_with refine bxM d (pc.toArray) ?_
 intro b1 w1 b d;replace j:=O (j.keep b fun _ _=>id);clear b
 go_wp2_with refine alM d aZ ?_
 intro Z w2 b d;replace j:=O (j.keep b fun _ _=>id);clear b;have c1:w2.cell? ⟨b1,0,none⟩=some (pv):=(by obtain⟨r,e⟩:=qf.out;exact aC (i:=0) (d.b 1) (by rw[e];rfl))
 go_wp2_with fail;clear c1;have X:=O d.keep.size;have W:=O (And.intro (d.lt 0).2 (d.lt 1).2);refine(oN w2 pv p.addrs j.rd qd.out).mono ?_;rintro e w3 ⟨v1,rfl,C,b⟩;obtain⟨G,H,rfl,-,-⟩:=(Rd.of_owns C).form;have D:Hid (aU w3 B (.slice G p.addrs.length H) p):=O ⟨⟨Rd.of_owns C,I.out,A.out⟩,fun i o=>⟨fun e=>by have:=aW C o;have:=M.out i e;have:=X.out;omega,by obtain⟨cur,hc⟩:=aJ C o;exact⟨_,_,hc⟩⟩⟩;have R:Hid (dM w (.slice G p.addrs.length H)):=O (fun i o=>by have:=aW C o;have:=X.out;omega);have Q:=O (fun(i:Nat) (o:(Value.slice G p.addrs.length H).ownBlock=some i)=>show ¬i=b1/\¬i=Z from⟨fun e=>by have:=aW C o;have:=W.2;omega,fun e=>by have:=aW C o;have:=W.1;omega⟩);have J:=O (b.blk (d.b 1) id);have L:=O (b.blk (d.b 0) id);have HG:=O (And.intro (d.lt 1).1 (d.lt 0).1);have P:Hid (b1≠Z):=O (fun e=>bH (i:=0) d.nd rfl 1 (by decide) rfl e);have qb:=O (d.keep.trans b);clear C;clear b d j
 go_wp2_with ((with_reducible show WL _ _);refine sta 26 (.tmp 9) (.tmp 7) b1 0 [.slice G p.addrs.length H] J.out (by rw[List.size_toArray,Y];simp) (by kernel_rfl) (one9) ?_)
 intro w6 b E;rw[←V.out,Qk] at E;have s:=O (eQ E);have x:=O (b.blk L.out P.symm);have z:=O (D.keepT b (fun i o=>(Q i o).1));have N:=O (qb.tT b (fun i o e=>by have:=HG.1;omega));clear b E J L;have q:=aF (v:=.slice G p.addrs.length H) A.out;obtain⟨qc,n⟩:=zX9 (aE (.slice G p.addrs.length H) p)
 have qe:Hid (∀u∈qc,u.oneCell'=true):=O (by rw[←n];exact aL D.pt);have qg:=O n;rw[n] at q s;clear n D
 go_wp2_with ((with_reducible show WL _ _);first
  | refine ldP b1 0 qc s.out q ?_
  | refine sta 30 (.tmp 2) (.tmp 11) Z 0 qc x.out (by rw[List.size_toArray,aG,q];omega) (szP9 q) qe.out ?_)
 intro w8 b E;rw[aS _ _ (by rw[List.size_toArray,aG,q])] at E;have HP:Hid (vK w B p (.returned (.tuple #[.agg qc.toArray,.bool true])) w8):=O ⟨_,by rw[←qg.out],z.keepT b (fun i o=>(Q i o).2),R.out,N.tT b (fun i o e=>by have:=HG.2;omega)⟩;have qa:=O E;clear b E s x z N;go_wp2_with fail;refine bodyPost_ret (aT rfl _ _ Z _ _ _ _ rfl qa.out aI rfl (by rw[List.size_toArray,q];exact bX)) rfl ?_;exact HP.out
theorem zL(L:KI w c S B){g:Nat}(pv:Value)(p:Pt)(A:PtV w pv p)(Q:p.root=true)(M:w.heap[g]?=some (.cells (aE pv p).toArray 30 (0,0))):Calls prog 36 #[.pointer c,.slice g 1 1] w (aH w (.int .i64 0)):=by
 have C:=O (by have:=L.bd.c1;omega:¬((S.cp:Nat):Int)=0);have G:=O L;have s:=O A;have V:=O Q;have m:=aF (v:=pv) A.sum;have o:=aL A;obtain⟨R,h⟩:=zX9 (aE pv p)
 have I:Hid (∀u∈R,u.oneCell'=true):=O (by rw[←h];exact o);have J:=O h;rw[h] at m M;have D:=O M;have x:=s;have E:=D;clear o h M A Q L;have j:=lN w;go_in;go_wp2_with fail;refine((KI.copies G.out:Ka w (aH w (.int .i64 (S.cp:Int))))).mono ?_;rintro e w1 ⟨rfl,d⟩;replace j:=kL j d;replace G:=O (KI.keep0 G.out d);replace s:=O (s.keep d fun _ _=>id);replace D:=O (d.blk D.out id);clear d;have r:=C.out;have X:decide (((S.cp:Nat):Int)=0)=false:=decide_eq_false r;have Y:(((S.cp:Nat):Int) == 0)=false:=by rw[beq_eq_false_iff_ne];exact r
 go_wp2_with fail
 go_loopw [13] (fun i wr=>∃k:Nat,k≤1/\i=.int .i64 (k:Int)/\Hid (aA aB w wr)) (fun i _=>1-(intOf i).toNat)
 case atStart=>exact⟨0,by omega,rfl,O j.keep⟩
 case round =>
 clear j;obtain⟨k,d,rfl,n⟩:=hrel
 by_cases W:k<1
 ·obtain rfl:k=0:=by omega
  have j:=lN wr;have b:=O (x.keep n.out fun _ _=>id);have F:=O (n.blk E.out id)
  go_wp2_with (first
   | refine ldP g 0 R (aD F.out) m ?_
   | refine alA aZ ?_)
  intro b6 wl y z q
  go_wp2_with refine stW q m aG (szP9 m) I.out ?_
  intro N d P;replace d:=tX z d (fun i Z e=>by omega);replace j:=lW j y d P;replace b:=O (b.keep d fun _ _=>id);clear y d P z q
  go_wp2_with refine ldQ (j.b 0) m ?_
  refine((by rw[←J.out];exact sU N pv p b.out V.out:Ka N (aH N (.int .i64 0)))).mono ?_;rintro e wn ⟨rfl,d⟩;replace j:=kL j d;replace b:=O (b.keep d fun _ _=>id);clear d;have H:=O (n.trans j.keep);go_wp2
  go_roundw
  case rel=>exact⟨1,by omega,by go_num,H⟩
  case measure=>simp[intOf]
 ·obtain rfl:k=1:=by omega
  go_wp2;go_ret;exact⟨rfl,n.out⟩
end
end Go.Proofs.YtoeinblfcbpcmaaGreat
