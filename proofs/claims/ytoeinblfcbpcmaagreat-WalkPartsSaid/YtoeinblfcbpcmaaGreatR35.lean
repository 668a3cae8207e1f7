import Derived.Test.YtoeinblfcbpcmaaGreatR34
namespace Go.Proofs.YtoeinblfcbpcmaaGreat
open Tryz
set_option maxHeartbeats 0
set_option maxRecDepth 100000
set_option linter.unusedVariables false
section
open Go.RowKit Go.Maps Go.ChangeMaps
theorem Ci(w:World):Calls prog 4 #[] w (Ji w):=by
 have T:(aE (.slice none 0 0) zPt).length=35:=rfl;have ql:=jD;obtain⟨zp,A⟩:=zX9 (aE (.slice none 0 0) zPt)
 have qr:Hid (∀u∈zp,u.oneCell'=true):=O (by rw[←A];exact cE zPt);have X:=O A;rw[A] at T ql;have qd:=O ql;clear A ql;go_in;go_wp2_with fail;refine((Dn w)).mono ?_;rintro e w1 ⟨c,zg,G,u1,H,S,B,rfl,q0,q3,q5,zo,qf,qg,q1,hB,a⟩;have zi:=O hB;have zl:=O a;have qw:=O q3;have F:=O q5;have E:=O q1;have d:=O (Cs.start2 q0 qf qg);obtain⟨rc,qc,W,qp⟩:=nmP qf;obtain⟨sc,D,v,qq⟩:=nmP qg;rw[qc.out,D.out];clear q0 q3 q5 zo qf qg q1 hB a
 go_wp2_with refine alA aZ ?_
 intro b2 w2 f a k;replace d:=O (d.new (trivial) f a k);clear f a k
 go_wp2_with refine alA aZ ?_
 intro b3 w3 f a k;replace d:=O (d.new (trivial) f a k);clear f a k
 go_wp2_with refine stW (d.b 1) W aG (szP9 W) qp.out ?_
 intro w4 a k;replace d:=O (d.set 1 a k);clear a k
 go_wp2_with refine stW (d.b 0) v aG (szP9 v) qq.out ?_
 intro w5 a k;replace d:=O (d.set 0 a k);clear a k
 go_wp2_with ((with_reducible show WL _ _);first
  | refine bld 30 #[] [] (.agg zp.toArray) qd.out ?_
  | refine alA aZ ?_)
 intro b5 w6 f qz qa
 go_wp2_with ((with_reducible show WL _ _);first
  | refine bld 30 #[] [] (.agg zp.toArray) qd.out ?_
  | refine stW qa T aG (szP9 T) qr.out ?_)
 intro w7 a k;replace a:=tX qz a (fun i hi e=>by omega);replace d:=O (d.new (trivial) f a k);clear f a k qz qa
 go_wp2_with ((with_reducible show WL _ _);first
  | refine ldQ (d.b 0) T ?_
  | refine bld 30 #[] [] (.agg zp.toArray) qd.out ?_)
 refine((by rw[←X.out];exact rI d.ki (.slice none 0 0) .hole (Tr.ok_hole _ 3) (aU.hole _ _):Ka w7 (dR w7 (cR 3 .hole)))).mono ?_;rintro e w8 ⟨ea,zm,rfl,P,j,t,a⟩;have N:=dR.row P j t;have qn:=O N.1;have qo:=O P;obtain⟨zv,zw,rfl,-,-⟩:=(Rd.of_owns j).form;have K:Hid (zm.length=0):=O (N.2.trans (by rw[sD];rfl));rw[←N.2,K.out];rw[←N.2,K.out] at qn;clear P j t N qn qo K;replace d:=O (d.keeps a);clear a
 go_wp2_with refine ldQ (d.b 1) v ?_
 refine((by rw[←D.out];exact xX d.ki G H F.out (d.pv0 1) 1:Ka w8 (dR w8 ((thr (aV 1) 3 H 0).map (·.1))))).mono ?_;rintro e w9 ⟨ta,qm,rfl,P,j,t,a⟩;have Q:=dR.row P j t;have g:=O Q.1;have qt:=O P;obtain⟨zq,zr,rfl,-,-⟩:=(Rd.of_owns j).form;have s:Hid (qm.length=4):=O (Q.2.trans (by have h:=congrArg List.length E.s1;rw[List.length_map] at h;exact h));rw[←Q.2,s.out];rw[←Q.2,s.out] at g;clear P j t Q;replace d:=O (d.keeps a);clear a
 go_wp2_with refine ldQ (d.b 1) v ?_
 refine((by rw[←D.out];exact xX d.ki G H F.out (d.pv0 1) 2:Ka w9 (dR w9 ((thr (aV 2) 3 H 0).map (·.1))))).mono ?_;rintro e wa ⟨tb,zt,rfl,P,j,t,a⟩;have R:=dR.row P j t;have qu:=O R.1;have qv:=O P;obtain⟨zz,z0,rfl,-,-⟩:=(Rd.of_owns j).form;have L:Hid (zt.length=0):=O (R.2.trans (by rw[E.s2];rfl));rw[←R.2,L.out];rw[←R.2,L.out] at qu;clear P j t R qu qv L;replace d:=O (d.keeps a);replace g:=O (g.keep0 a);clear a
 go_wp2_with refine ldQ (d.b 1) v ?_
 refine((by rw[←D.out];exact vS d.ki G H F.out (d.pv0 1) 0:Ka wa (fR wa (bks (aV 0) 3 H 0)))).mono ?_;rintro e wb ⟨na,rfl,j,a⟩;rw[E.b0] at j;obtain⟨q9,za,rfl,-,-⟩:=(Rd.of_owns j).form;have m:Hid (Rd wb 1 (.slice q9 2 za) ([5,6]:List Int).length (([5,6]:List Int).map fun x=>.int .i64 x)):=O (yQ j rfl);clear j;replace d:=O (d.keeps a);replace g:=O (g.keep0 a);clear a;go_wp2_with fail;refine((BC wb (.slice zq 4 zr) qm g.out (by rw[s.out];decide))).mono ?_;rintro e wc ⟨lv,rfl,j,a⟩;rw[s.out] at j;obtain⟨la,lc,rfl,-,-⟩:=(Rd.of_owns j).form;have C:Hid (Rd wc 1 (.slice la 4 lc) ([3,2,1,0]:List Int).length (([3,2,1,0]:List Int).map fun x=>.int .i64 x)):=O (Hk (qs:=qm) (by rw[s.out];exact j) (by have h:=E.s1;rw[←qt.out,List.map_map] at h;exact h));clear j;replace d:=O (d.keeps a);replace g:=O (g.keep0 a);replace m:=O (m.keep a fun _ _=>id);clear a;obtain⟨wd,qh,a,k,-⟩:=aP wc #[.int .i64 3,.int .i64 2,.int .i64 1,.int .i64 0] 3;obtain⟨qx,f⟩:=zX9 wc.heap.size
 rw[f] at k;have y:Hid (Rd wd 1 (.slice qx 4 4) ([3,2,1,0]:List Int).length (([3,2,1,0]:List Int).map fun x=>.int .i64 x)):=O (qN k rfl rfl (by decide));replace d:=O (d.keeps a);have U:=O f;replace g:=O (g.keep0 a);replace m:=O (m.keep a fun _ _=>id);replace C:=O (C.keep a fun _ _=>id);clear a k f;go_wp2_with fail;clear qh;rw[U.out];go_wp2_with fail;refine((by have h:=iV wd (.slice la 4 lc) (.slice qx 4 4) [3,2,1,0] [3,2,1,0] C.out y.out;rw[decide_eq_true rfl] at h;exact h:Ka wd (aN wd true))).mono ?_;rintro e we ⟨rfl,a⟩;replace d:=O (d.keeps a);replace g:=O (g.keep0 a);replace m:=O (m.keep a fun _ _=>id);replace C:=O (C.keep a fun _ _=>id);replace y:=O (y.keep a fun _ _=>id);clear a;clear C y;obtain⟨wf,qi,a,k,-⟩:=aP we #[.int .i64 5,.int .i64 6] 3;obtain⟨qy,f⟩:=zX9 we.heap.size
 rw[f] at k;have z:Hid (Rd wf 1 (.slice qy 2 2) ([5,6]:List Int).length (([5,6]:List Int).map fun x=>.int .i64 x)):=O (qN k rfl rfl (by decide));replace d:=O (d.keeps a);have V:=O f;replace g:=O (g.keep0 a);replace m:=O (m.keep a fun _ _=>id);clear a k f;go_wp2_with fail;clear qi;rw[V.out];go_wp2_with fail;refine((by have h:=iV wf (.slice q9 2 za) (.slice qy 2 2) [5,6] [5,6] m.out z.out;rw[decide_eq_true rfl] at h;exact h:Ka wf (aN wf true))).mono ?_;rintro e wg ⟨rfl,a⟩;replace d:=O (d.keeps a);replace g:=O (g.keep0 a);replace m:=O (m.keep a fun _ _=>id);replace z:=O (z.keep a fun _ _=>id);clear a;clear m z;clear g
 go_wp2_with (first
  | refine ldQ (d.b 2) W ?_
  | refine ldQ (d.b 1) v ?_)
 refine((by rw[←D.out,←qc.out];exact vU d.ki zg G u1 H qw.out F.out (d.pv0 0) (d.pv0 1):Ka wg (fR wg (unl 3 u1 H 0)))).mono ?_;rintro e wh ⟨nb,rfl,j,a⟩;rw[E.un] at j;obtain⟨zb,zd,rfl,-,-⟩:=(Rd.of_owns j).form;have n:Hid (Rd wh 1 (.slice zb 1 zd) ([6]:List Int).length (([6]:List Int).map fun x=>.int .i64 x)):=O (yQ j rfl);clear j;replace d:=O (d.keeps a);clear a
 go_wp2_with (first
  | refine ldQ (d.b 1) v ?_
  | refine ldQ (d.b 1) v ?_)
 refine((by rw[←D.out];exact vU d.ki G G H H F.out F.out (d.pv0 1) (d.pv0 1):Ka wh (fR wh (unl 3 H H 0)))).mono ?_;rintro e wi ⟨nc,rfl,j,a⟩;rw[mA] at j;obtain⟨zx,zy,rfl,-,-⟩:=(Rd.of_owns j).form;clear j;replace d:=O (d.keeps a);replace n:=O (n.keep a fun _ _=>id);clear a
 go_wp2_with (first
  | refine ldQ (d.b 2) W ?_
  | refine ldQ (d.b 0) T ?_)
 refine((by rw[←X.out,←qc.out];exact vU d.ki zg (.slice none 0 0) u1 .hole qw.out (Tr.ok_hole _ 3) (d.pv0 0) (aU.hole _ _):Ka wi (fR wi (unl 3 u1 .hole 0)))).mono ?_;rintro e wj ⟨nd,rfl,j,a⟩;rw[E.uh] at j;obtain⟨ze,zf,rfl,-,-⟩:=(Rd.of_owns j).form;have o:Hid (Rd wj 1 (.slice ze 1 zf) ([5]:List Int).length (([5]:List Int).map fun x=>.int .i64 x)):=O (yQ j rfl);clear j;replace d:=O (d.keeps a);replace n:=O (n.keep a fun _ _=>id);clear a;obtain⟨wk,qj,a,k,-⟩:=aP wj #[.int .i64 6] 3;obtain⟨Y,f⟩:=zX9 wj.heap.size
 rw[f] at k;have q:Hid (Rd wk 1 (.slice Y 1 1) ([6]:List Int).length (([6]:List Int).map fun x=>.int .i64 x)):=O (qN k rfl rfl (by decide));replace d:=O (d.keeps a);have I:=O f;replace n:=O (n.keep a fun _ _=>id);replace o:=O (o.keep a fun _ _=>id);clear a k f;go_wp2_with fail;clear qj;rw[I.out];go_wp2_with fail;refine((by have h:=iV wk (.slice zb 1 zd) (.slice Y 1 1) [6] [6] n.out q.out;rw[decide_eq_true rfl] at h;exact h:Ka wk (aN wk true))).mono ?_;rintro e wl ⟨rfl,a⟩;replace d:=O (d.keeps a);replace n:=O (n.keep a fun _ _=>id);replace o:=O (o.keep a fun _ _=>id);replace q:=O (q.keep a fun _ _=>id);clear a;clear n q;obtain⟨wm,qk,a,k,-⟩:=aP wl #[.int .i64 5] 3;obtain⟨Z,f⟩:=zX9 wl.heap.size
 rw[f] at k;have r:Hid (Rd wm 1 (.slice Z 1 1) ([5]:List Int).length (([5]:List Int).map fun x=>.int .i64 x)):=O (qN k rfl rfl (by decide));replace d:=O (d.keeps a);have J:=O f;replace o:=O (o.keep a fun _ _=>id);clear a k f;go_wp2_with fail;clear qk;rw[J.out];go_wp2_with fail;refine((by have h:=iV wm (.slice ze 1 zf) (.slice Z 1 1) [5] [5] o.out r.out;rw[decide_eq_true rfl] at h;exact h:Ka wm (aN wm true))).mono ?_;rintro e wn ⟨rfl,a⟩;replace d:=O (d.keeps a);replace o:=O (o.keep a fun _ _=>id);replace r:=O (r.keep a fun _ _=>id);clear a;clear o r
 go_wp2_with ((with_reducible show WL _ _);first
  | refine bld 59 #[(0,.const (.int .i64 0)),(1,.const (.int .i64 5))] [(0,.int .i64 0),(1,.int .i64 5)] (.agg (aO ⟨0,5⟩).toArray) Pk ?_
  | refine bsA 26 59 (.tmp 140) underlying26 qR (by omega) (aO ⟨0,5⟩) rfl (by omega) ?_)
 intro M wo f a k;have qb:=O (QT k);replace d:=O (d.new trivial f a k);clear f a k;obtain⟨gc,p⟩:=zX9 (aE (.slice M 1 1) p05)
 have zu:=O p;have zn:gc.length=35:=by rw[←p];exact aF qb.sum
 have zj:Hid (∀u∈gc,u.oneCell'=true):=O (by rw[←p];exact aL qb.out);have zk:Hid (kO wo (.pointer c) gc 2):=O (by rw[←p];exact NU d.ki _ _ qb.out Ny Pj (by decide));have qe:=Nz M;rw[p] at qe;have zh:=O qe;clear p qe
 go_wp2_with ((with_reducible show WL _ _);refine bld 30 #[(0,.tmp 141),(1,.const (.int .i64 1)),(2,.const (.int .i64 2))] [(0,.slice M 1 1),(1,.int .i64 1),(2,.int .i64 2)] (.agg gc.toArray) zh.out ?_)
 refine((FN zk.out rfl zn zj.out:Ka wo (aH wo (.tuple #[.slice none 0 0,.int .i64 2])))).mono ?_;rintro e wp ⟨rfl,a⟩;replace d:=O (d.keeps a);clear a;go_wp2_with fail;refine((Gw wp)).mono ?_;rintro e wq ⟨rfl,a⟩;replace d:=O (d.keeps a);clear a;have HP:=O (d.fin zi.out zl.out);clear d;go_wp2;go_ret;exact⟨rfl,HP.out⟩
end
end Go.Proofs.YtoeinblfcbpcmaaGreat
