import Derived.Test.YtoeinblfcbpcmaaGreatR35
import Derived.Test.YtoeinblfcbpcmaaGreatR36
namespace Go.Proofs.YtoeinblfcbpcmaaGreat
open Go.Proofs.Tryz
set_option maxHeartbeats 0
set_option maxRecDepth 100000
set_option linter.unusedVariables false
section
open Go.ChangeShapes Go.WideShapes Go.ChangeAt Go.RowKit
theorem own:ownKnob prog.godebug=none:=by kernel_rfl
theorem Hp:laidOutB prog=true:=by kernel_rfl
def FL(x:GrV):Prop:=wH x.e.n/\wH x.e.many
theorem yC{cs l:List Value}{o k:Nat}(m:Nat)(h:(cs.drop o).take k=l)(a:o+k=m):cs.drop o=l++cs.drop m:=by
 rw[←h,←a,←List.drop_drop];exact(List.take_append_drop k (cs.drop o)).symm
section
variable {H:Type}{enc:TypeId×Value->H}{w:World}{base:Nat}{spare:Nat->Bool}{held:Bool}{xT:Nat}
variable{cs:List Value}{x:DataW H×List MemPlace}
theorem Qz{t:TypeId}{fs:List (String×TypeId×Nat)}(k:prog.underlying t=some (.struct (prog.fieldsOf t)))
 (hF:(prog.fieldsOf t).toList.map (fun f=>(f.name,f.type,f.offset))=fs) (h:DataW.trod enc prog w base spare held xT t cs=some x) :
 cs.length=prog.cellsOf t/\∃m,∀(i:Nat) (n:String) (u:TypeId) (o:Nat),fs[i]?=some (n,u,o)->∃y,DataW.trod enc prog w base spare held m u ((cs.drop o).take (prog.cellsOf u))=some y:=by
 obtain⟨p,m,-,-,j,l,e⟩:=DataW.trod_struct k h;refine⟨j,m,fun i n u o c=>?_⟩;rw[←hF,List.getElem?_map] at c;obtain⟨f,a,b⟩:=Option.map_eq_some_iff.1 c;have d:=e i f (by simpa using a);cases b
 have g:i<p.length:=by
  have:=(List.getElem?_eq_some_iff.1 a).1;rw[l];simpa using this
 rw[List.getElem?_eq_getElem g] at d;exact⟨_,d⟩
theorem Rf:prog.cellsOf 3=1:=by kernel_rfl
theorem cU8:prog.cellsOf 5=1:=by kernel_rfl
theorem Q0:prog.cellsOf 4=1:=by kernel_rfl
theorem cGr:prog.cellsOf 38=5:=by kernel_rfl
theorem uGr:prog.underlying 38=some (.struct (prog.fieldsOf 38)):=by kernel_rfl
theorem fGr : (prog.fieldsOf 38).toList.map (fun f => (f.name, f.type, f.offset)) = [("N", 3, 0), ("Many", 3, 1), ("Cut", 4, 2), ("Commit", 4, 3), ("B", 5, 4)] := by kernel_rfl
theorem LP(h:DataW.trod enc prog w base spare held xT 3 cs=some x):∃a:Int,wH a/\cs=[.int .i64 a]:=by
 obtain⟨a,b,-,c⟩:=DataW.trod_int underlying3 h;exact⟨a,bounds_i64 c,b⟩
theorem PE(h:DataW.trod enc prog w base spare held xT 5 cs=some x):∃b:UInt8,cs=[vb b]:=by
 obtain⟨a,c,rfl,d⟩:=DataW.trod_int underlying5 h;have e:=bounds_u8 d;refine⟨UInt8.ofNat a.toNat,?_⟩;rw[c];unfold vb;simp;omega
theorem Q1(h:DataW.trod enc prog w base spare held xT 38 cs=some x):∃a:GrV,FL a/\cs=lG a:=by
 obtain⟨u,m,b⟩:=Qz uGr fGr h;rw[cGr] at u;obtain⟨_,h0⟩:=b 0 _ _ _ rfl;obtain⟨_,q⟩:=b 1 _ _ _ rfl;obtain⟨_,r⟩:=b 2 _ _ _ rfl;obtain⟨_,s⟩:=b 3 _ _ _ rfl;obtain⟨_,t⟩:=b 4 _ _ _ rfl;obtain⟨k,v,c⟩:=LP h0;obtain⟨l,y,d⟩:=LP q;obtain⟨n,e,-⟩:=DataW.trod_bool underlying4 r;obtain⟨o,f,-⟩:=DataW.trod_bool underlying4 s;obtain⟨p,g⟩:=PE t;rw[Rf] at c d;rw[Q0] at e f;rw[cU8] at g;refine⟨⟨⟨k,l,n,p⟩,o⟩,⟨v,y⟩,?_⟩;have j:=yC 1 c rfl;rw[yC 2 d rfl,yC 3 e rfl,yC 4 f rfl,yC 5 g rfl,List.drop_eq_nil_of_le (i:=5) (by omega)] at j;exact j
theorem Gy{a:Option Addr}{len b:Nat}(h:DataW.trod enc prog w base spare held xT 22 [.slice a len b]=some x) :
 ∃l:List GrV,l.length=len/\(∀y∈l,FL y)/\Rd w 5 (.slice a len b) len (DY l):=
 FK (f:=lG) (ok:=FL) underlying22 cGr (by decide) (fun y d=>rfl) (fun n cs x c=>Q1 c) h
end
theorem Q2{w:World}{v:Value}{l:List GrV}(h:Rd w 5 v l.length (DY l)){k:Nat}{x:GrV}(i:l[k]?=some x):∃g o b,v=.slice (some ⟨g,o,none⟩) l.length b/\w.rangeAt g (o+k*5) (lG x):=by
 obtain⟨h0,a,b,rfl,q,r,s,m⟩:=h;have p:=(List.getElem?_eq_some_iff.1 i).1;obtain⟨g,o,rfl,n⟩:=m (by rw[h0];omega);refine⟨g,o,b,rfl,fun j u e=>?_⟩;have c:j<5:=(List.getElem?_eq_some_iff.1 e).1;have d:=sX (f:=lG) (k:=5) (l:=l) (fun _ _=>rfl) k i j c;rw[e] at d;have:=n (k*5+j) u d
 rwa [←Nat.add_assoc] at this
end
section
open Go.RowKit Go.Maps Go.ChangeMaps
theorem Cj(W:World)(va:Value)(la:List GrV)(ua:∀y∈la,FL y)(xb:Rd W 5 va la.length (DY la))(n:Int)(v7:-9223372036854775808≤n)(v8:n≤9223372036854775807):Calls prog 3 #[va,.int .i64 n] W (Ji W):=by
 obtain⟨oa,oc,rfl,-,-⟩:=xb.form;have ul:la.length≤maxLen:=by obtain⟨_,_,-,h1,h2⟩:=xb.form;omega
 unfold maxLen at ul;obtain⟨N,qz⟩:=zX9 la.length
 have xr:=O qz;have vr:=O xb;have u2:=O ua;rw[qz] at vr ul ⊢;clear xb qz ua;have vg:=O (And.intro v7 v8);clear v7 v8;go_in;have ql:=O (aA.refl aB W);go_wp2_with fail;refine((Ci W)).mono ?_;rintro e w1 ⟨rfl,z⟩;replace ql:=O (ql.trans z);clear z;go_wp2_with fail;refine((Bp w1 200 (by omega))).mono ?_;rintro e w2 ⟨c,M,B,rfl,z6,hB,z⟩;have xp:Hid (∀k,B k->W.heap.size≤k):=O (fun k h=>Nat.le_trans ql.size (hB k h));replace ql:=O (ql.trans z);have a:=O (Cs.start z6).hole0;clear z6 hB z;rcases Nat.lt_or_ge 40 N with u8|u8
 ·have xx:(40:Int)<(N:Int):=by omega
  have d1:decide ((40:Int)<(N:Int))=true:=decide_eq_true xx;go_wp2;go_ret;exact⟨rfl,ql.out⟩
 ·have xx:¬(40:Int)<(N:Int):=by omega
  have d1:decide ((40:Int)<(N:Int))=false:=decide_eq_false xx
  go_wp2_with refine alA Jw ?_
  intro b7 w3 qh z hb;replace a:=O (a.new (trivial) qh z hb);clear qh z hb;go_wp2_with fail;have Z:Hid (Wel (⟨2,200,2,[],M,0⟩:Kor) .hole (fun _=>0)):=O (Wel.hole a.ki.bd)
  go_loopw [8] (fun i wr=>∃(k:Nat) (S:Kor) (B':Nat->Prop) (v:Value) (t:Tr) (bl:Nat->UInt8) (tc:Nat->Bool),k≤N/\i=.int .i64 (k:Int)/\Hid (Wel S t bl/\S.txg≤0+k/\S.cp=2)/\Hid (Cs B w2 c S B' [(v,t.ptr)] wr [(b7,(eP v t.ptr bl tc).toArray,34)])) (fun i _=>N-(intOf i).toNat)
  case atStart=>exact⟨0,_,B,_,.hole,fun _=>0,fun _=>false,Nat.zero_le _,rfl,O ⟨Z.out,Int.le_refl _,rfl⟩,a⟩
  case round =>
  clear a Z;obtain⟨k,S,B',v,t,bl,tc,z,rfl,Z,a⟩:=hrel;rcases Nat.lt_or_ge k N with zw|zw
  ·have z6:(k:Int)<(N:Int):=by omega
   have zu:(0:Int)≤(k:Int):=by omega
   obtain⟨x,hx⟩:∃x,la[k]?=some x:=⟨la[k]'(by rw[xr.out];exact zw),List.getElem?_eq_getElem _⟩
   have v1:=O (u2 x (List.mem_of_getElem? hx));have q5:=vr.out;rw[←xr.out] at q5;obtain⟨g,o,v3,hv,zf⟩:=Q2 q5 hx;rw[xr.out] at hv;have e1:oa=some ⟨g,o,none⟩:=by cases hv;rfl
   subst e1;have jd:g<W.heap.size:=World.block_lt_of_cell? W _ (zf 0 _ rfl);have uy:Hid (∀i,B' i->i≠g):=O (fun i e h=>(a.bb i e).elim (fun h2=>by have:=xp.out i h2;omega) fun h2=>by have:=ql.size;omega);have HX:=O ((a.fin xp.out ql.out).rangeAt2 zf id);obtain⟨ec,za⟩:=zX9 (lG x)
   have vc:=O za;have jc:ec.length=5:=by rw[←za];rfl
   rw[za] at HX;have vz:Hid (S.txg+1<2147483648):=O (by have h1:=Z.2.1;omega);obtain⟨gc,qe,xw,vi⟩:=yP (a.pv0 0).pt bl tc;rw[qe.out] at a;clear za hx q5 hv zf jd;go_wp2_with fail;apply E7 (R:=fun(b9:Nat) (dc:List Value) (v2:Value) D=>Hid (∃B2 T u qg qi,eP v2 u.ptr qg qi=dc/\yB S t bl tc T u qg qi/\Cs B w2 c T B2 ((v2,u.ptr)::[(v,t.ptr)]) D ((b9,dc.toArray,34)::[(b7,gc.toArray,34)])))
   case h =>
    refine vI (B') a (by kernel_rfl) ?_;intro w4 SW F E J a;replace HX:=O (J.rangeAt2 HX.out id);clear J;have Y:=a;have u7:=HX;refine tna 0 (.pointer (some ⟨c,0,none⟩)) rfl (sD9 E a) ?_;refine tnd 1 (.agg gc.toArray) rfl (ldD 34 (.tmp 7) b7 0 gc _ (fun D h=>aD (Y.own (F D h) 0)) pI (by rw[xw];exact gE)) (sD9 E a) ?_;refine tna 2 (.slice (some ⟨g,o,none⟩) N oc) rfl (sD9 E a) ?_;refine tna 3 (.int .i64 (k:Int)) rfl (sD9 E a) ?_;refine tnb 4 (.pointer (some ⟨g,o+k*5,none⟩)) rfl (sD9 E a) ?_;refine tnd 5 (.agg ec.toArray) rfl (ldD 38 (.tmp 50) g (o+k*5) ec _ (fun D h=>(F D h).rangeAt2 u7.out (fun e=>uy.out _ e rfl)) QZ (by rw[jc];exact Qy)) (sD9 E a) ?_;refine gL (k:=6) (l:=10) rfl rfl (by kernel_rfl) ?_ ?_
    ·go_wp2_with fail
     refine((by rw[←qe.out,←vc.out];exact FH a.ki vz.out v t bl Z.1 (a.pv0 0) tc x v1.out:Ka w4 (oF w4 c B' S t bl tc v))).mono ?_;rintro e w5 ⟨v2,B2,T,u,qg,qi,rfl,qu,q0,qv,zr,zx,zv⟩;have qy:=O qu;replace a:=O (a.laid1 (fun _ _ e=>e) q0 qv zr (zx.imp (fun e=>⟨_,List.mem_cons_self ..,e⟩) id) zv);obtain⟨dc,qx,qm,qo⟩:=yP q0.pt qg qi;rw[qx.out];clear qu q0 qv zr zx zv;go_wp2_with fail;refine⟨E _ a.dr,?_⟩;refine tna 7 (.tuple #[.agg dc.toArray,.bool true]) rfl (sD9 E a) ?_;refine tnb 8 (.agg dc.toArray) rfl (sD9 E a) ?_;refine tnb 9 (.bool true) rfl (sD9 E a) ?_;refine wA9 10 ?_;refine alD a E 34 (.agg zgw.toArray) (zgw.toArray) Jw ?_;intro b9 w6 xt z a;clear z;refine wA9 11 ?_;refine stD a E 0 rfl 34 (.tmp 9) (.tmp 53) dc (.inl xt) (by first|rfl|simp[qm,tY]) (by rw[qm];exact gE) qo.out ?_;intro w7 a;refine tna 12 (.bool true) rfl (sD9 E a) ?_;refine wpAnyH_done (by kernel_rfl) ?_ _;refine noP ?_;exact⟨rfl,b9,dc,v2,rfl,O ⟨B2,T,u,qg,qi,qx.out,qy.out,a.toCs⟩⟩
    ·refine alD a E 34 (.agg zgw.toArray) (zgw.toArray) Jw ?_
     intro b9 w5 xt z a;replace HX:=O (z.rangeAt2 HX.out id);clear z;refine wA9 6 ?_;go_wp2_with fail;refine((by rw[←qe.out,←vc.out];exact FH a.ki vz.out v t bl Z.1 (a.pv0 0) tc x v1.out:Ka w5 (oF w5 c B' S t bl tc v))).mono ?_;rintro e w6 ⟨v2,B2,T,u,qg,qi,rfl,qu,q0,qv,zr,zx,zv⟩;have qy:=O qu;replace a:=O (a.laid1 (fun _ _ e=>e) q0 qv zr (zx.imp (fun e=>⟨_,List.mem_cons_self ..,e⟩) id) zv);obtain⟨dc,qx,qm,qo⟩:=yP q0.pt qg qi;rw[qx.out];clear qu q0 qv zr zx zv;go_wp2_with fail;refine⟨E _ a.dr,?_⟩;refine tna 7 (.tuple #[.agg dc.toArray,.bool true]) rfl (sD9 E a) ?_;refine tnb 8 (.agg dc.toArray) rfl (sD9 E a) ?_;refine tnb 9 (.bool true) rfl (sD9 E a) ?_;refine wA9 11 ?_;refine stD a E 0 rfl 34 (.tmp 9) (.tmp 53) dc (.inl xt) (by first|rfl|simp[qm,tY]) (by rw[qm];exact gE) qo.out ?_;intro w7 a;refine tna 12 (.bool true) rfl (sD9 E a) ?_;refine wpAnyH_done (by kernel_rfl) ?_ _;refine noP ?_;exact⟨rfl,b9,dc,v2,rfl,O ⟨B2,T,u,qg,qi,qx.out,qy.out,a.toCs⟩⟩
   case hR =>
    rintro b9 dc v2 w8 HF;obtain⟨B2,T,u,qg,qi,z2,qu,hl⟩:=HF.out;replace a:=O hl;have qx:=O z2;have qy:=O qu;have qm:dc.length=163:=by rw[←z2];exact oE (a.pv0 0).pt.sum _ _
    have qo:Hid (∀u∈dc,u.oneCell'=true):=O (by rw[←z2];exact FF (a.pv0 0).pt _ _);clear z2 qu hl HF HX
    go_wp2_with (first
     | refine ldR (a.b 0) pI (by rw[qm];exact gE) ?_
     | refine stW (a.b 1) qm xw (by rw[qm];exact gE) qo.out ?_)
    intro w9 z hb;replace a:=O (a.set 1 z hb);clear z hb;go_wp2
    go_roundw
    case rel=>exact⟨k+1,T,B2,v2,u,qg,qi,by omega,by go_num,O ⟨qy.wel,by have h1:=qy.txg;have h2:=Z.2.1;omega,by rw[qy.ext.cp];exact Z.2.2⟩,O (by rw[qx.out];exact a.tail.sub (fun r hr=>by rcases List.mem_cons.1 hr with rfl|hr;exact List.mem_cons_self ..;exact List.mem_cons_of_mem _ (List.mem_cons_of_mem _ hr)))⟩
    case measure=>simp[intOf];omega
  ·obtain rfl:N=k:=by omega
   obtain⟨gc,qe,xw,vi⟩:=yP (a.pv0 0).pt bl tc;rw[qe.out] at a;obtain⟨pc,qp,z9,jk⟩:=nmP (a.pv0 0);have vn:=O (a.pv0 0).pt.sum;obtain⟨x9,ug⟩:∃x:Int,n % 45=x:=⟨_,rfl⟩
   have u6:=O ug;obtain⟨X,xz⟩:=zX9 (t.many 3)
   have ve:=O xz;have vf:Hid ((t.many 3:Int)=(X:Int)):=O (by rw[xz]);clear ug xz;go_wp2_with fail;refine(Ac wr n 45 (by omega) (by omega) vg.1 vg.2).mono ?_;rintro e wa ⟨rfl,rfl⟩;rw[u6.out]
   go_wp2_with refine ldP b7 0 pc (qp.out▸qM (a.b 0) qe.out) z9 ?_
   refine((by rw[←qp.out];exact rI a.ki v t Z.1.kept.ok (a.pv0 0):Ka wr (dR wr (cR 3 t)))).mono ?_;rintro e wb ⟨ta,C,rfl,hq,ho,zq,z⟩;have zg:=dR.row hq ho zq;have qj:=O hq;obtain⟨qb,xn⟩:=zX9 C.length
   have xi:Hid (C.length≤1000):=O (by rw[zg.2];rw[←NE Z.1.kept.ok 0];exact yL Z.1.kept.ok);obtain⟨j9,ka,rfl,-,-⟩:=(Rd.of_owns ho).form;have L:=O xn;rw[←zg.2,L.out];rw[←zg.2,L.out] at zg;have qr:=O zg.1;clear hq ho zq zg xn;replace a:=O (a.keeps z);clear z
   go_wp2_with refine ldP b7 0 pc (qp.out▸qM (a.b 0) qe.out) z9 ?_
   refine((by rw[←qp.out];exact xX a.ki v t Z.1.kept.ok (a.pv0 0) x9:Ka wb (dR wb ((thr (aV x9) 3 t 0).map (·.1))))).mono ?_;rintro e wc ⟨tb,x5,rfl,hq,ho,zq,z⟩;have zh:=dR.row hq ho zq;have vw:=O hq;obtain⟨j7,xo⟩:=zX9 x5.length
   have vu:Hid (x5.length≤1000):=O (by rw[zh.2];rw[List.length_map];exact yL Z.1.kept.ok);obtain⟨kb,kc,rfl,-,-⟩:=(Rd.of_owns ho).form;have q9:=O xo;rw[←zh.2,q9.out];rw[←zh.2,q9.out] at zh;have qf:=O zh.1;clear hq ho zq zh xo;replace a:=O (a.keeps z);replace qr:=O (qr.keep0 z);clear z
   go_wp2_with refine ldP b7 0 pc (qp.out▸qM (a.b 0) qe.out) z9 ?_
   refine((by rw[←qp.out];exact Lg a.ki v t Z.1.kept.ok (a.pv0 0):Ka wc (CZ wc t))).mono ?_;rintro e wd ⟨rfl,z⟩;replace a:=O (a.keeps z);replace qr:=O (qr.keep0 z);replace qf:=O (qf.keep0 z);clear z;rw[vf.out]
   have uw:Hid (∀x∈C,x.2.addrs.length≤20):=O (fun x hx=>by
    rw[Z.1.cps x.2 (by rw[←qj.out];exact List.mem_map.2 ⟨x,hx,rfl⟩),Z.2.2];decide)
   obtain⟨np,x0⟩:=zX9 ((iB (gW C)).length)
   have u1:=O x0;have je:np=2*qb:=by rw[←x0,Az qj.out,Z.1.apart Z.2.2,←qj.out,List.length_map,L.out]
   have j1:qb≤1000:=by rw[←L.out];exact xi.out
   have e2:((np:Int) == 2*(qb:Int))=true:=by rw[beq_iff_eq];omega
   have e3:decide ((np:Int)=2*(qb:Int))=true:=decide_eq_true (by omega);have e4:((np:Int) != 2*(qb:Int))=false:=by rw[bne,e2];rfl
   clear x0 je;go_wp2_with fail;refine((by rw[←L.out];have h:=qr.out;rw[←L.out] at h;exact BB wd _ C h xi.out uw.out:Ka wd (nD wd (iB (gW C))))).mono ?_;rintro e we ⟨av,rfl,ho,z⟩;obtain⟨pa,j8,rfl,-,-⟩:=(Rd.of_owns ho).form;rw[u1.out];clear ho;replace a:=O (a.keeps z);replace qr:=O (qr.keep0 z);replace qf:=O (qf.keep0 z);clear z;have I:=O (aA.refl aB we);have xj:=qr;have vx:=qf;obtain⟨wf,x2,z,hb,-⟩:=aP we #[.int .i64 0,.int .i64 0,.int .i64 0,.int .i64 2147483649,.int .i64 2147483649] 3;obtain⟨qa,qh⟩:=zX9 we.heap.size
   rw[qh] at hb;have ur:=O qh;have uq:Hid (we.heap.size≤qa):=O (Nat.le_of_eq qh);have u0:=a;replace a:=O (a.keeps z);have K:Hid (wf.heap[qa]?=some (.cells (bsC (iU bs0 ((C.take 0).map (·.2)))).toArray 3 (0,0))):=O hb;replace I:=O z;clear qh z hb;go_wp2_with fail;clear x2;rw[ur.out];clear e2 e3 e4
   go_loopw [18,19,20] (fun s u i wr=>∃(k m:Nat) (pa:Option Addr) (V:Nat),k≤qb/\s=.slice pa m V/\u=.int .i64 (rN ((C.take k).map (·.2)):Int)/\i=.int .i64 (k:Int)/\Hid ((nwQ x9 (C.take k)).length=m)/\Hid (aA aB we wr)/\Hid (wr.heap[qa]?=some (.cells (bsC (iU bs0 ((C.take k).map (·.2)))).toArray 3 (0,0)))/\Hid (wr.ownsRow we.heap.size 30 35 (.slice pa m V) m ((nwQ x9 (C.take k)).flatMap fun x=>aE x.1 x.2))) (fun _ _ i _=>qb-(intOf i).toNat)
   case atStart=>exact⟨0,0,none,0,Nat.zero_le _,rfl,rfl,rfl,O rfl,I,K,O (World.ownsRow_nil _ _ _ _)⟩
   case round =>
   clear I K a;obtain⟨k,m,pa,V,z,rfl,rfl,rfl,HM,I,K,HO⟩:=hrel;rcases Nat.lt_or_ge k qb with xy|xy
   ·have zu:(0:Int)≤(k:Int):=by omega
    have ju:(k:Int)<(qb:Int):=by omega
    obtain⟨⟨pv,p⟩,hx⟩:∃x,C[k]?=some x:=⟨C[k]'(by rw[L.out];exact xy),List.getElem?_eq_getElem (by rw[L.out];exact xy)⟩
    have ui:=List.mem_of_getElem? hx;have hP:=xj.keep0 I.out;rw[←L.out] at hP;have qq:Hid (PtV wr pv p):=O (hP.at_ _ ui);obtain⟨g,o,v3,he,hr⟩:=yN (f:=fun(x:Value×Pt)=>aE x.1 x.2) (s:=35) (fun y hy=>aF (hP.at_ y hy).sum) (by decide) hP.rd hx;rw[L.out] at he;injection he with ja zt jb
    subst ja;have HX:=O hx;obtain⟨lv,z7,v6,zy,z0⟩:=PD Z.1 qj.out hx;dsimp only at z7 zy z0;obtain⟨bi,zz⟩:=zX9 p.birth
    obtain⟨q,hq⟩:=zX9 (iU bs0 ((C.take k).map (·.2)) (lv+1))
    obtain⟨cn,xv⟩:=zX9 (rN ((C.take k).map (·.2)))
    have zj:=O xv;have zk:=O z7;have zi:=O zz;have jj:cn≤1000:=by rw[←xv];have h1:=PC ((C.take k).map (·.2));rw[List.length_map,List.length_take] at h1;omega
    rw[zz] at zy z0;rw[hq] at z0;rw[zj.out];have q3:=aF (v:=pv) qq.sum;obtain⟨qc,qk⟩:=zX9 (aE pv p)
    have vj:Hid (∀u∈qc,u.oneCell'=true):=O (by rw[←qk];exact aL qq.out);have u5:=O qk;have zb:Hid (qc.toArray[1]?=some (.int .i64 bi)):=O (by rw[←qk,←zz];rfl);have qw:Hid (qc.toArray[2]?=some (.int .i64 (lv:Int))):=O (by rw[←qk,←z7];rfl);have q5:wr.rangeAt g (o+k*35) (aE pv p):=hr;rw[qk] at q5 q3;have HR:=O q5;have vq:Hid ((bsC (iU bs0 ((C.take k).map (·.2)))).toArray[lv+1]?=some (.int .i64 q)):=O (by rw[←hq];exact Pz _ (by omega));obtain⟨l1,jw⟩:∃l:Nat,(lv:Int)+1=(l:Int):=⟨lv+1,by omega⟩
    have uz:Hid (lv+1=l1):=O (by omega);rw[uz.out] at vq;have jy:(l1:Int)<5:=by omega
    have jx:(lv:Int)<5:=by omega
    have jv:(0:Int)≤(lv:Int):=by omega
    have jz:(0:Int)≤(l1:Int):=by omega
    have jh:IntKind.i64.wrap (l1:Int)=(l1:Int):=by rw[IntWalk.i64_in _ (by omega)]
    have jn:decide ((lv:Int)<0)=false:=decide_eq_false (by omega);have jo:decide ((3:Int)<(lv:Int))=false:=decide_eq_false (by omega);have jp:decide (bi<1)=false:=decide_eq_false (by omega);have jq:decide (q<bi)=false:=decide_eq_false (by omega);have xh:Hid (lv<5):=O (by omega);have ut:Hid (qa<wr.heap.size):=O (lt_of_block K.out);have u3:Hid (∀i,(Value.slice pa m V).ownBlock=some i->i<wr.heap.size):=O (fun i h=>by obtain⟨c1,h1⟩:=aJ HO.out h;exact lt_of_block h1);have a:=lN wr;clear hx ui hP hr q5 qk zt jb xv z7 zz hq v6 zy z0
    go_wp2_with (first
     | refine ldP g (o+k*35) qc HR.out q3 ?_
     | refine alA aZ ?_)
    intro G wh qh zu xl
    go_wp2_with refine stW xl q3 aG (szP9 q3) vj.out ?_
    intro wi z hb;replace z:=tX zu z (fun i hi e=>by omega);replace a:=lW a qh z hb;replace qq:=O (qq.keep z fun _ _=>id);replace HR:=O (z.rangeAt HR.out);replace HO:=O (z.owns HO.out fun _ _=>id);replace I:=O (I.trans z);replace K:=O (z.blk K.out id);clear qh z hb zu xl;go_wp2_with fail;go_wp2_with fail;refine dwA aB (by kernel_rfl) ?_;intro wj S F E d J;replace a:=O (a.keeps J);replace qq:=O (qq.keep J fun _ _=>id);replace HO:=O (J.owns HO.out fun _ _=>id);replace I:=O (I.trans J);replace K:=O (J.blk K.out id);clear J;have Y:=a;have vo:=qq;have u4:=HO;have vd:=I;have xe:=K;refine tnb 0 (.pointer (some ⟨G,2,none⟩)) rfl d ?_;refine tnd 1 (.int .i64 (lv:Int)) rfl (.inl ⟨by rfl,fun D A=>by have c:World.cell? D ⟨G,2,none⟩=some (.int .i64 (lv:Int)):=(aC (i:=2) ((F D A).blk (Y.b 0) id) qw.out);go_simp⟩) d ?_;refine tnb 2 (.bool false) rfl d ?_;refine tna 3 (.bool false) rfl d ?_;refine tnb 4 (.pointer (some ⟨G,2,none⟩)) rfl d ?_;refine tnd 5 (.int .i64 (lv:Int)) rfl (.inl ⟨by rfl,fun D A=>by have c:World.cell? D ⟨G,2,none⟩=some (.int .i64 (lv:Int)):=(aC (i:=2) ((F D A).blk (Y.b 0) id) qw.out);go_simp⟩) d ?_;refine tnb 6 (.bool false) rfl d ?_;refine tna 7 (.bool false) rfl d ?_;refine tna 8 (.bool false) rfl d ?_;refine tnb 9 (.pointer (some ⟨G,1,none⟩)) rfl d ?_;refine tnd 10 (.int .i64 bi) rfl (.inl ⟨by rfl,fun D A=>by have c:World.cell? D ⟨G,1,none⟩=some (.int .i64 bi):=(aC (i:=1) ((F D A).blk (Y.b 0) id) zb.out);go_simp⟩) d ?_;refine tnb 11 (.bool false) rfl d ?_;refine tna 12 (.bool false) rfl d ?_;refine tna 13 (.bool false) rfl d ?_;refine tnb 14 (.pointer (some ⟨G,1,none⟩)) rfl d ?_;refine tnd 15 (.int .i64 bi) rfl (.inl ⟨by rfl,fun D A=>by have c:World.cell? D ⟨G,1,none⟩=some (.int .i64 bi):=(aC (i:=1) ((F D A).blk (Y.b 0) id) zb.out);go_simp⟩) d ?_;refine tna 16 (.slice qa 5 5) rfl d ?_;refine tnb 17 (.pointer (some ⟨G,2,none⟩)) rfl d ?_;refine tnd 18 (.int .i64 (lv:Int)) rfl (.inl ⟨by rfl,fun D A=>by have c:World.cell? D ⟨G,2,none⟩=some (.int .i64 (lv:Int)):=(aC (i:=2) ((F D A).blk (Y.b 0) id) qw.out);go_simp⟩) d ?_;refine tnb 19 (.int .i64 (l1:Int)) rfl d ?_;refine tnd 20 (.pointer (some ⟨qa,l1,none⟩)) rfl (.inl ⟨by rfl,fun _ _=>by have hq:¬((5:Int)≤(l1:Int)):=(by omega);go_simp⟩) d ?_;refine tnd 21 (.int .i64 q) rfl (.inl ⟨by rfl,fun D A=>by have c:World.cell? D ⟨qa,l1,none⟩=some (.int .i64 q):=(F D A).cell (aC (i:=l1) xe.out vq.out) id;go_simp⟩) d ?_;refine tnb 22 (.bool false) rfl d ?_;refine tna 23 (.bool false) rfl d ?_;refine wpAnyH_done (by kernel_rfl) ?_ _;clear d F E Y vo u4 vd xe;clear jh;have c1:wj.cell? ⟨G,2,none⟩=some (.int .i64 (lv:Int)):=(aC (i:=2) (a.b 0) qw.out)
    have c2:wj.cell? ⟨G,1,none⟩=some (.int .i64 bi):=(aC (i:=1) (a.b 0) zb.out)
    go_wp2_with ((with_reducible show WL _ _);refine sta 3 (.tmp 141) (.tmp 140) qa lv [.int .i64 bi] K.out (by rw[List.size_toArray,Ch];have:=xh.out;show lv+1≤5;omega) (by kernel_rfl) (by intro v hv;rw[List.mem_singleton] at hv;rw[hv];rfl) ?_)
    clear c1 c2;intro wk z hb;have v4:mV (iU bs0 ((C.take k).map (·.2))) p=iU bs0 ((C.take (k+1)).map (·.2)):=(LN HX.out bs0).symm;rw[PA _ p zk.out zi.out xh.out,←List.map_take,v4] at hb;have x6:Hid (wr.heap.size≤G):=O (a.lt 0).1;have qd:=O (z.blk (a.b 0) (fun e=>by have h1:=(a.lt 0);have h2:=ut.out;omega))
    replace HO:=O (z.owns HO.out fun j hj e=>by
     obtain⟨c1,h1⟩:=aJ HO.out hj;rw[e,K.out] at h1;cases h1)
    replace I:=O (I.trans' z (U:=aB) (fun _ _ h=>h) fun i hi e=>by have:=uq.out;omega);replace K:=O hb;replace a:=O (Loc.nil aB aB wk);clear z hb qq v4;rcases Decidable.em (x9<bi) with hn|hn
    ·have jf:decide (x9<bi)=true:=decide_eq_true hn
     have zm:=O hn;have j0:m≤1000:=by rw[←HM.out];unfold nwQ;exact Nat.le_trans (List.length_filter_le _ _) (by rw[List.length_take];omega)
     have ud:=I.size;have vh:=HO;obtain⟨um,uf,z5,xu,-⟩:=aP wk qc.toArray 30;obtain⟨bx,z1⟩:=zX9 wk.heap.size
     rw[z1] at xu;have vt:Hid (Rd um 35 (.slice bx 1 1) 1 qc):=O (dX (n:=1) (size:=35) xu (by rw[q3]) (by unfold maxLen;omega));have vm:=O (z5.owns vh.out fun _ _=>id);have ue:=z5.size;have ze:=O z5;have uu:=O z1;clear xu z5;have c1:wk.cell? ⟨G,1,none⟩=some (.int .i64 bi):=(aC (i:=1) qd.out zb.out)
     go_wp2_with (first
      | ((with_reducible show WL (some 147) (.load 30 _));refine ldP G 0 qc (aD qd.out) q3 ?_)
      | ((with_reducible show WL _ (.buildSlice _ 1 _));refine bZ rfl 40 30 (.tmp 147) rfl underlying40 lK (by decide) qc q3 (by decide) rfl ?_;rw[uf,z1])
      | (at_builtin;refine aM rfl (.tmp 146) (.tmp 148) 40 rfl we.heap.size 30 (.agg aX.toArray) 35 72 underlying40 lK rfl (by decide) (.slice pa m V) m ((nwQ x9 (C.take k)).flatMap fun x=>aE x.1 x.2) rfl vm.out (.slice bx 1 1) 1 qc rfl vt.out vj.out (by unfold maxLen;omega) (by omega) (by omega) ?_))
     clear c1;intro v2 xc x1 z3 jg u9;obtain⟨gp,cp,rfl⟩:=ownsRow_succ x1;clear uf z1 jg vt vm;have zo:Hid (xc.ownsRow we.heap.size 30 35 (.slice gp (m+1) cp) (m+1) ((nwQ x9 (C.take (k+1))).flatMap fun x=>aE x.1 x.2)):=O (by rw[Ho HX.out (by rw[zi.out];exact zm.out),List.flatMap_append,List.flatMap_cons,List.flatMap_nil,List.append_nil,u5.out];exact x1);have zl:Hid ((nwQ x9 (C.take (k+1))).length=m+1):=O (by rw[Ho HX.out (by rw[zi.out];exact zm.out),List.length_append,HM.out];rfl)
     have xm:∀(i:Nat) (cur:Array Value) (T:TypeId),T≠30->um.heap[i]?=some (.cells cur T (0,0))->¬(Value.slice pa m V).ownBlock=some i:=fun i cur T hT h1 e=>by
      obtain⟨c2,h2⟩:=aJ (ze.owns HO.out fun _ _=>id) e;rw[h1] at h2;injection h2 with h2
      injection h2 with h3 h4
      exact hT h4
     have xd:=O (z3.blk (ze.blk K.out id) (xm _ _ _ (by decide) (ze.blk K.out id)));have xg:=O ((I.trans ze.out).trans' z3 (U:=aB) (fun _ _ h=>h) fun i hi e=>by have:=aW HO.out e;omega);have x7:Hid (∃cur,xc.heap[G]?=some (.cells cur 30 (0,0))/\cur[2]?=some (.int .i64 (lv:Int))):=O ⟨_,z3.blk (ze.blk qd.out id) (fun e=>by have:=u3.out _ e;have:=x6.out;omega),qw.out⟩;clear x1 z3 u9 ue ze uu ud xm HO vh I K;rcases Nat.eq_zero_or_pos lv with h0|h0
     ·have x3:((lv:Int) == 0)=true:=by rw[beq_iff_eq];omega
      have x4:decide ((lv:Int)=0)=true:=decide_eq_true (by omega);have c1:xc.cell? ⟨G,2,none⟩=some (.int .i64 (lv:Int)):=(by obtain⟨cur,h1,h2⟩:=x7.out;exact aC (i:=2) h1 h2)
      go_wp2_with fail;clear c1
      go_roundw
      case rel=>exact⟨k+1,m+1,some ⟨gp,0,none⟩,cp,by omega,rfl,(by rw[sE HX.out,zj.out,zk.out,if_pos (by omega)];go_num),by go_num,zl,xg,xd,zo⟩
      case measure=>simp[intOf];omega
     ·have x3:((lv:Int) == 0)=false:=by rw[beq_eq_false_iff_ne];omega
      have x4:decide ((lv:Int)=0)=false:=decide_eq_false (by omega);have c1:xc.cell? ⟨G,2,none⟩=some (.int .i64 (lv:Int)):=(by obtain⟨cur,h1,h2⟩:=x7.out;exact aC (i:=2) h1 h2)
      go_wp2_with fail;clear c1
      go_roundw
      case rel=>exact⟨k+1,m+1,some ⟨gp,0,none⟩,cp,by omega,rfl,(by rw[sE HX.out,zj.out,zk.out,if_neg (by omega)];rfl),by go_num,zl,xg,xd,zo⟩
      case measure=>simp[intOf];omega
    ·have jf:decide (x9<bi)=false:=decide_eq_false hn
     have zm:=O hn;have zl:Hid ((nwQ x9 (C.take (k+1))).length=m):=O (by rw[LO HX.out (by rw[zi.out];exact zm.out)];exact HM.out);have zo:Hid (wk.ownsRow we.heap.size 30 35 (.slice pa m V) m ((nwQ x9 (C.take (k+1))).flatMap fun x=>aE x.1 x.2)):=O (by rw[LO HX.out (by rw[zi.out];exact zm.out)];exact HO.out);rcases Nat.eq_zero_or_pos lv with h0|h0
     ·have x3:((lv:Int) == 0)=true:=by rw[beq_iff_eq];omega
      have x4:decide ((lv:Int)=0)=true:=decide_eq_true (by omega);have c1:wk.cell? ⟨G,2,none⟩=some (.int .i64 (lv:Int)):=aC (i:=2) qd.out qw.out;have c2:wk.cell? ⟨G,1,none⟩=some (.int .i64 bi):=aC (i:=1) qd.out zb.out;go_wp2_with fail;clear c1 c2
      go_roundw
      case rel=>exact⟨k+1,m,pa,V,by omega,rfl,(by rw[sE HX.out,zj.out,zk.out,if_pos (by omega)];go_num),by go_num,zl,I,K,zo⟩
      case measure=>simp[intOf];omega
     ·have x3:((lv:Int) == 0)=false:=by rw[beq_eq_false_iff_ne];omega
      have x4:decide ((lv:Int)=0)=false:=decide_eq_false (by omega);have c1:wk.cell? ⟨G,2,none⟩=some (.int .i64 (lv:Int)):=aC (i:=2) qd.out qw.out;have c2:wk.cell? ⟨G,1,none⟩=some (.int .i64 bi):=aC (i:=1) qd.out zb.out;go_wp2_with fail;clear c1 c2
      go_roundw
      case rel=>exact⟨k+1,m,pa,V,by omega,rfl,(by rw[sE HX.out,zj.out,zk.out,if_neg (by omega)];rfl),by go_num,zl,I,K,zo⟩
      case measure=>simp[intOf];omega
   ·obtain rfl:qb=k:=by omega
    have vy:Hid (C.take qb=C):=O (List.take_of_length_le (by rw[L.out];exact Nat.le_refl _));rw[vy.out] at HM HO;have ux:Hid (rN ((C.take qb).map (·.2))=X):=O (by rw[vy.out,qj.out,NS,Z.1.nums.2.1,ve.out]);rw[ux.out];replace a:=O (u0.keeps I.out);have zn:Hid (rL wr (.slice pa m V) (nwQ x9 C)):=O ⟨by rw[HM.out];exact Rd.of_owns HO.out,fun x hx=>(xj.keep0 I.out).at_ x (List.mem_filter.1 hx).1⟩;replace qf:=O (vx.keep0 I.out);obtain⟨U,hU⟩:=zX9 (jQ 3 t 0)
    have HU:=O hU;have qt:Hid (U.length=X):=O (by rw[←hU,Z.1.nums.2.1];exact ve.out);have x8:Hid (bks (aV 0) 3 t 0=U):=O (by rw[Hj Z.1.kept.ok,hU]);have j2:X≤64:=by rw[←qt.out,←x8.out];exact Hf
    clear hU
    go_wp2_with refine ldP b7 0 pc (qp.out▸qM (a.b 0) qe.out) z9 ?_
    refine((by rw[←qp.out,←x8.out];exact vS a.ki v t Z.1.kept.ok (a.pv0 0) 0:Ka wr (fR wr U))).mono ?_;rintro e wl ⟨xa,rfl,ho,z⟩;obtain⟨uo,qn,rfl,-,-⟩:=(Rd.of_owns ho).form;rw[qt.out] at ho ⊢;have P:=O (Rd.of_owns ho);clear ho;replace a:=O (a.keeps z);replace zn:=O (zn.keep0 z);replace qf:=O (qf.keep0 z);clear z;have e5:((X:Int) == (X:Int))=true:=by simp
    go_wp2_with fail;refine((by rw[←q9.out,←HM.out];have h:=qf.out;rw[←q9.out] at h;have h2:=zn.out;rw[←HM.out] at h2;exact Gx wl _ _ x5 (nwQ x9 C) h h2 (by rw[PB,vw.out,qj.out,Z.1.newer]) vu.out:Ka wl (aN wl true))).mono ?_;rintro e wm ⟨rfl,z⟩;replace a:=O (a.keeps z);replace zn:=O (zn.keep0 z);replace qf:=O (qf.keep0 z);replace P:=O (P.keep z fun _ _=>id);clear z;have jl:=P;go_wp2_with fail
    go_loopw [24] (fun i D=>∃k:Nat,k≤X/\i=.int .i64 (k:Int)/\Hid (Rd D 1 (.slice uo X qn) X (jR U))/\Hid (Cs B w2 c S B' [(v,t.ptr)] D [(b7,gc.toArray,34)])) (fun i _=>X-(intOf i).toNat)
    case atStart=>exact⟨0,Nat.zero_le _,rfl,P,a⟩
    case round =>
    clear a P;obtain⟨k,z,rfl,P,a⟩:=hrel;rcases Nat.lt_or_ge k X with zw|zw
    ·have z6:(k:Int)<(X:Int):=by omega
     have zu:(0:Int)≤(k:Int):=by omega
     obtain⟨y,hy⟩:∃y,U[k]?=some y:=⟨U[k]'(by rw[qt.out];exact zw),List.getElem?_eq_getElem _⟩
     obtain⟨uj,uk⟩:=Z.1.nums.2.2 y (by rw[HU.out];exact List.mem_of_getElem? hy);obtain⟨g,o,v3,he,zf⟩:=Ob (by rw[qt.out];exact P.out) hy;rw[qt.out] at he;obtain rfl:uo=some ⟨g,o,none⟩:=by cases he;rfl
     obtain⟨q1,uc⟩:∃q:Int,((bl y).toNat:Int)=q:=⟨_,rfl⟩
     have vp:Hid (vb (bl y)=.int .u8 q1):=O (by unfold vb;rw[uc]);have v9:q1≠0:=fun e=>uk (UInt8.toNat_inj.1 (by show (bl y).toNat=0;omega))
     have zy:(q1 == 0)=false:=by simp[v9]
     have jr:decide (q1=0)=false:=decide_eq_false v9;have j5:(0:Int)≤(y:Int):=by omega
     have j6:(y:Int)<64:=by omega
     have d3:decide ((y:Int)<0)=false:=decide_eq_false (by omega);have d4:decide ((64:Int)≤(y:Int))=false:=decide_eq_false (by omega);have zd:=O zf;have xk:=O uj;have jm:=O hy;clear uk he zf uc;rcases Nat.eq_zero_or_pos k with hz|hz
     ·have d5:decide ((0:Int)<(k:Int))=false:=decide_eq_false (by omega)
      have HZ:=O hz;clear hz;go_wp2_with fail;go_wp2_with fail;refine dwA aB (by kernel_rfl) ?_;intro wn S F E d J;replace a:=O (a.keeps J);replace zd:=O (J.cell zd.out id);replace P:=O (P.keep J fun _ _=>id);clear J;have Y:=a;have Q:=zd;have zp:=P;refine tna 0 (.slice (some ⟨g,o,none⟩) X qn) rfl d ?_;refine tna 1 (.int .i64 (k:Int)) rfl d ?_;refine tnd 2 (.pointer (some ⟨g,o+k,none⟩)) rfl (.inl ⟨by rfl,fun _ _=>by have hq:¬((X:Int)≤(k:Int)):=(by omega);go_simp⟩) d ?_;refine tnd 3 (.int .i64 (y:Int)) rfl (.inl ⟨by rfl,fun D A=>by have c:World.cell? D ⟨g,o+k,none⟩=some (.int .i64 (y:Int)):=(F D A).cell Q.out id;go_simp⟩) d ?_;refine tnb 4 (.bool false) rfl d ?_;refine tna 5 (.bool false) rfl d ?_;refine tna 6 (.slice (some ⟨g,o,none⟩) X qn) rfl d ?_;refine tna 7 (.int .i64 (k:Int)) rfl d ?_;refine tnd 8 (.pointer (some ⟨g,o+k,none⟩)) rfl (.inl ⟨by rfl,fun _ _=>by have hq:¬((X:Int)≤(k:Int)):=(by omega);go_simp⟩) d ?_;refine tnd 9 (.int .i64 (y:Int)) rfl (.inl ⟨by rfl,fun D A=>by have c:World.cell? D ⟨g,o+k,none⟩=some (.int .i64 (y:Int)):=(F D A).cell Q.out id;go_simp⟩) d ?_;refine tnb 10 (.bool false) rfl d ?_;refine tna 11 (.bool false) rfl d ?_;refine tna 12 (.bool false) rfl d ?_;refine tna 13 (.slice (some ⟨g,o,none⟩) X qn) rfl d ?_;refine tna 14 (.int .i64 (k:Int)) rfl d ?_;refine tnd 15 (.pointer (some ⟨g,o+k,none⟩)) rfl (.inl ⟨by rfl,fun _ _=>by have hq:¬((X:Int)≤(k:Int)):=(by omega);go_simp⟩) d ?_;refine tnd 16 (.int .i64 (y:Int)) rfl (.inl ⟨by rfl,fun D A=>by have c:World.cell? D ⟨g,o+k,none⟩=some (.int .i64 (y:Int)):=(F D A).cell Q.out id;go_simp⟩) d ?_;refine tnb 17 (.pointer (some ⟨b7,35,none⟩)) rfl d ?_;refine tnd 18 (.pointer (some ⟨b7,35+y,none⟩)) rfl (.inl ⟨by rfl,fun _ _=>by have hq:¬((64:Int)≤(y:Int)):=(by omega);go_simp⟩) d ?_;refine tnd 19 (.int .u8 q1) rfl (.inl ⟨by rfl,fun D A=>by have c:World.cell? D ⟨b7,35+y,none⟩=some (.int .u8 q1):=(vp.out▸Hl vn.out ((F D A).blk (Y.b 0) id) qe.out xk.out);go_simp⟩) d ?_;refine tnb 20 (.bool false) rfl d ?_;refine tna 21 (.bool false) rfl d ?_;refine tna 22 (.bool false) rfl d ?_;refine tna 23 (.int .i64 (k:Int)) rfl d ?_;refine tnd 24 (.bool false) rfl (.inl ⟨by rfl,fun _ _=>by have hz:=HZ.out;go_simp⟩) d ?_;refine tna 25 (.bool false) rfl d ?_;refine tnc 26 undef rfl d ?_;refine tnc 27 undef rfl d ?_;refine tnc 28 undef rfl d ?_;refine tnc 29 undef rfl d ?_;refine tnc 30 undef rfl d ?_;refine tnc 31 undef rfl d ?_;refine tnc 32 undef rfl d ?_;refine tnc 33 undef rfl d ?_;refine tnc 34 undef rfl d ?_;refine tnc 35 undef rfl d ?_;refine tna 36 (.bool false) rfl d ?_;refine tna 37 (.bool false) rfl d ?_;refine wpAnyH_done (by kernel_rfl) ?_ _;clear d F E Y Q zp;go_wp2
      go_roundw
      case rel=>exact⟨k+1,by omega,by go_num,P,a⟩
      case measure=>simp[intOf];omega
     ·have d5:decide ((0:Int)<(k:Int))=true:=decide_eq_true (by omega)
      obtain⟨j,hj⟩:∃j:Nat,(k:Int)-1=(j:Int):=⟨k-1,by omega⟩
      obtain⟨u,hu⟩:∃u,U[j]?=some u:=⟨U[j]'(by rw[qt.out];omega),List.getElem?_eq_getElem _⟩
      obtain⟨g2,o2,ji,zt,v5⟩:=Ob (by rw[qt.out];exact P.out) hu;rw[qt.out] at zt;obtain⟨rfl,rfl⟩:g=g2/\o=o2:=by cases zt;exact⟨rfl,rfl⟩
      have j3:u<y:=by
       have h1:=Z.1.nums.1;rw[HU.out,List.pairwise_iff_getElem] at h1;obtain⟨a1,rfl⟩:=List.getElem?_eq_some_iff.1 hu;obtain⟨a2,rfl⟩:=List.getElem?_eq_some_iff.1 hy;exact h1 j k a1 a2 (by omega)
      have d6:decide ((y:Int)≤(u:Int))=false:=decide_eq_false (by omega);have xq:=O v5;have js:(0:Int)≤(j:Int):=by omega
      have jt:(j:Int)<(X:Int):=by omega
      have j4:IntKind.i64.wrap (j:Int)=(j:Int):=by rw[IntWalk.i64_in _ (by omega)]
      have HZ:=O hz;clear hu zt v5 hz;go_wp2_with fail;go_wp2_with fail;refine dwA aB (by kernel_rfl) ?_;intro wn S F E d J;replace a:=O (a.keeps J);replace zd:=O (J.cell zd.out id);replace P:=O (P.keep J fun _ _=>id);replace xq:=O (J.cell xq.out id);clear J;have Y:=a;have Q:=zd;have zp:=P;have xf:=xq;refine tna 0 (.slice (some ⟨g,o,none⟩) X qn) rfl d ?_;refine tna 1 (.int .i64 (k:Int)) rfl d ?_;refine tnd 2 (.pointer (some ⟨g,o+k,none⟩)) rfl (.inl ⟨by rfl,fun _ _=>by have hq:¬((X:Int)≤(k:Int)):=(by omega);go_simp⟩) d ?_;refine tnd 3 (.int .i64 (y:Int)) rfl (.inl ⟨by rfl,fun D A=>by have c:World.cell? D ⟨g,o+k,none⟩=some (.int .i64 (y:Int)):=(F D A).cell Q.out id;go_simp⟩) d ?_;refine tnb 4 (.bool false) rfl d ?_;refine tna 5 (.bool false) rfl d ?_;refine tna 6 (.slice (some ⟨g,o,none⟩) X qn) rfl d ?_;refine tna 7 (.int .i64 (k:Int)) rfl d ?_;refine tnd 8 (.pointer (some ⟨g,o+k,none⟩)) rfl (.inl ⟨by rfl,fun _ _=>by have hq:¬((X:Int)≤(k:Int)):=(by omega);go_simp⟩) d ?_;refine tnd 9 (.int .i64 (y:Int)) rfl (.inl ⟨by rfl,fun D A=>by have c:World.cell? D ⟨g,o+k,none⟩=some (.int .i64 (y:Int)):=(F D A).cell Q.out id;go_simp⟩) d ?_;refine tnb 10 (.bool false) rfl d ?_;refine tna 11 (.bool false) rfl d ?_;refine tna 12 (.bool false) rfl d ?_;refine tna 13 (.slice (some ⟨g,o,none⟩) X qn) rfl d ?_;refine tna 14 (.int .i64 (k:Int)) rfl d ?_;refine tnd 15 (.pointer (some ⟨g,o+k,none⟩)) rfl (.inl ⟨by rfl,fun _ _=>by have hq:¬((X:Int)≤(k:Int)):=(by omega);go_simp⟩) d ?_;refine tnd 16 (.int .i64 (y:Int)) rfl (.inl ⟨by rfl,fun D A=>by have c:World.cell? D ⟨g,o+k,none⟩=some (.int .i64 (y:Int)):=(F D A).cell Q.out id;go_simp⟩) d ?_;refine tnb 17 (.pointer (some ⟨b7,35,none⟩)) rfl d ?_;refine tnd 18 (.pointer (some ⟨b7,35+y,none⟩)) rfl (.inl ⟨by rfl,fun _ _=>by have hq:¬((64:Int)≤(y:Int)):=(by omega);go_simp⟩) d ?_;refine tnd 19 (.int .u8 q1) rfl (.inl ⟨by rfl,fun D A=>by have c:World.cell? D ⟨b7,35+y,none⟩=some (.int .u8 q1):=(vp.out▸Hl vn.out ((F D A).blk (Y.b 0) id) qe.out xk.out);go_simp⟩) d ?_;refine tnb 20 (.bool false) rfl d ?_;refine tna 21 (.bool false) rfl d ?_;refine tna 22 (.bool false) rfl d ?_;refine tna 23 (.int .i64 (k:Int)) rfl d ?_;refine tnd 24 (.bool true) rfl (.inl ⟨by rfl,fun _ _=>by have hz:=HZ.out;go_simp⟩) d ?_;refine tna 25 (.bool true) rfl d ?_;refine tna 26 (.slice (some ⟨g,o,none⟩) X qn) rfl d ?_;refine tna 27 (.int .i64 (k:Int)) rfl d ?_;refine tnd 28 (.pointer (some ⟨g,o+k,none⟩)) rfl (.inl ⟨by rfl,fun _ _=>by have hq:¬((X:Int)≤(k:Int)):=(by omega);go_simp⟩) d ?_;refine tnd 29 (.int .i64 (y:Int)) rfl (.inl ⟨by rfl,fun D A=>by have c:World.cell? D ⟨g,o+k,none⟩=some (.int .i64 (y:Int)):=(F D A).cell Q.out id;go_simp⟩) d ?_;refine tna 30 (.slice (some ⟨g,o,none⟩) X qn) rfl d ?_;refine tna 31 (.int .i64 (k:Int)) rfl d ?_;refine tnb 32 (.int .i64 (j:Int)) rfl d ?_;refine tnd 33 (.pointer (some ⟨g,o+j,none⟩)) rfl (.inl ⟨by rfl,fun _ _=>by have hq:¬((X:Int)≤(j:Int)):=(by omega);go_simp⟩) d ?_;refine tnd 34 (.int .i64 (u:Int)) rfl (.inl ⟨by rfl,fun D A=>by have c:World.cell? D ⟨g,o+j,none⟩=some (.int .i64 (u:Int)):=(F D A).cell xf.out id;go_simp⟩) d ?_;refine tnb 35 (.bool false) rfl d ?_;refine tna 36 (.bool false) rfl d ?_;refine tna 37 (.bool false) rfl d ?_;refine wpAnyH_done (by kernel_rfl) ?_ _;clear d F E Y Q zp xf;go_wp2
      go_roundw
      case rel=>exact⟨k+1,by omega,by go_num,P,a⟩
      case measure=>simp[intOf];omega
    ·obtain rfl:X=k:=by omega
     have HP:=O (a.fin xp.out ql.out);clear a;go_wp2;go_ret;exact⟨rfl,HP.out⟩
end
section
open Go.ChangeShapes Go.WideShapes Go.ChangeAt Go.RowKit
theorem AE(os:Os)(i:os.Started)(H:Type)(enc:TypeId×Value->H) :
 ReturnsInHanded {} Tryz.checked os 3 .any (Rows.walkPartsSpec.pre6 enc prog f3 Rows.walkPartsRow.domain false) (Rows.walkPartsSpec.post enc prog f3 false true false false):=by
 refine returnsInHanded_of_change (C:=Tryz.checked) own i (by kernel_rfl) func3
  (ChangeSpec.witness6 (enc:=enc) (C:=Tryz.checked) false ⟨#[],#[.slice none 0 0,.int .i64 0],[]⟩ 64 (by kernel_rfl) (by kernel_rfl) (by kernel_rfl) (by kernel_rfl)) ?_
 intro W base args V gs B f N P _;have d:∀(j:Nat) t v,f3.params[j]?=some t->args[j]?=some v->Value.okWide prog W .any base t v:=f;have D:=N;obtain⟨p,q,o,Z,rfl,qa,qb⟩:=N;have M:DataW.TrodAll enc prog W 0 (fun _=>true) true f3.params.toList args.toList V p:=o;rw[params3] at M d;obtain⟨S,qc,d0,X,p0,q0,b,rfl,rfl,h0,r0⟩:=trodAll_cons M;obtain⟨T,qd,d1,Y,p1,q1,c,rfl,rfl,L,r1⟩:=trodAll_cons r0;obtain⟨A,rfl,rfl⟩:=trodAll_nil r1;obtain rfl:args=#[S,T]:=by apply Array.toList_inj.1;rw[b];simp only[c,A]
 clear b c A;obtain⟨rfl,rfl⟩:=trodVars_none Z;obtain⟨U,g,n,rfl⟩:=okWide_slice underlying22 (d 0 22 S rfl rfl);obtain⟨J,rfl⟩:=okWide_int underlying3 (d 1 3 T rfl rfl);have Q:=h0;have G:∀x∈p0,x.block<W.heap.size:=by obtain⟨m,F⟩:=Q;exact DataW.trod_lt m _ _ _ F
 have R:=L;have I:∀x∈p1,x.block<W.heap.size:=by obtain⟨m,F⟩:=R;exact DataW.trod_lt m _ _ _ F
 clear o f d
 obtain⟨l0,r,s,z⟩:∃l:List GrV,l.length=g/\(∀y∈l,FL y)/\Rd W 5 (.slice U g n) g (DY l):=by
  obtain⟨xT,E⟩:=h0;exact Gy (by simpa [Value.cells] using E)
 subst r
 have u:-9223372036854775808≤J/\J≤9223372036854775807:=by
  obtain⟨xT,E⟩:=L;obtain⟨a,K,-,wa⟩:=DataW.trod_int underlying3 E;simp[Value.cells] at K;subst K;exact bounds_i64 wa
 refine(Cj W _ l0 s z J u.1 u.2).mono fun e W' ⟨he,hk⟩=>?_
 subst he;have k:=hk.below;exact⟨_,rfl,_,_,_,[],_,[],D,trodAll_mk1 (shut_bool underlying4 _),(trodAll_cons_mk (Below.trod Hp (by kernel_rfl) (of_decide_eq_true (by kernel_rfl)) Q k G) (trodAll_cons_mk (Below.trod Hp (by kernel_rfl) (of_decide_eq_true (by kernel_rfl)) R k I) trodAll_mk0)),rfl,k.frame _,fun h=>by cases h⟩
theorem cV{a b:Bool}(h:a=true)(k:b=true):(a && b)=true:=by rw[h,k];rfl
theorem cl0:(Rows.walkPartsRow.wf (OpenSpec.ofChange Rows.walkPartsSpec))=true:=by kernel_rfl
theorem cl1:(laidOutB Tryz.pinned.checked.prog)=true:=by kernel_rfl
theorem cl2:(mapsRowed Tryz.pinned.checked.prog)=true:=by kernel_rfl
theorem cl3:(f3.params.all (Tryz.pinned.checked.prog.readableRec ·))=true:=by kernel_rfl
theorem cl4:(namedTie Tryz.pinned.checked.prog Rows.walkPartsRow.named Rows.walkPartsSpec.vars)=true:=by kernel_rfl
theorem cl5:(Rows.walkPartsRow.stops == [])=true:=by kernel_rfl
theorem cl6:(Tryz.pinned.checked.prog.stops == [])=true:=by kernel_rfl
theorem cl7:(Rows.walkPartsRow.knobs == [])=true:=by kernel_rfl
theorem cl8:(Tryz.pinned.checked.prog.stopKnobs == [])=true:=by kernel_rfl
theorem cl9:(Rows.walkPartsRow.inPlace == Tryz.pinned.checked.prog.inPlace 3)=true:=by kernel_rfl
theorem Rg:(Rows.walkPartsRow.unfollowed == Tryz.pinned.checked.prog.unfollowed 3)=true:=by kernel_rfl
theorem Rh:(Rows.walkPartsRow.recurses == Tryz.pinned.checked.prog.recurses 3)=true:=by kernel_rfl
theorem Ri:(Rows.walkPartsRow.named == Tryz.pinned.checked.prog.varsNamed 3)=true:=by kernel_rfl
theorem Rj:(Rows.walkPartsRow.maps == (f3.params.toList++Rows.walkPartsSpec.plain.varTypes Tryz.pinned.checked.prog).any (Tryz.pinned.checked.prog.mapsRec ·))=true:=by kernel_rfl
theorem Rk:(Rows.walkPartsRow.ifaces == (f3.params.toList++Rows.walkPartsSpec.plain.varTypes Tryz.pinned.checked.prog).any (Tryz.pinned.checked.prog.ifacesRec ·))=true:=by kernel_rfl
theorem Rl:(Rows.walkPartsRow.mapsOut == Tryz.pinned.checked.prog.mapsAmong f3.resultTypes.toList)=true:=by kernel_rfl
theorem Rm:(Rows.walkPartsRow.loops == (f3.params.toList++Rows.walkPartsSpec.plain.varTypes Tryz.pinned.checked.prog).any (Tryz.pinned.checked.prog.loopsFrom ·))=true:=by kernel_rfl
theorem Rn:(Rows.walkPartsRow.wideKeys == ((f3.params.toList++Rows.walkPartsSpec.plain.varTypes Tryz.pinned.checked.prog)++f3.resultTypes.toList).any (Tryz.pinned.checked.prog.wideKeysFrom ·))=true:=by kernel_rfl
theorem Ro:(Rows.walkPartsSpec.vars.all (Tryz.pinned.checked.prog.varReadable ·))=true:=by kernel_rfl
theorem Rp:(f3.resultTypes.all (fun t=>Tryz.pinned.checked.prog.readableRec t && decide (t<Tryz.pinned.checked.prog.types.size)))=true:=by kernel_rfl
theorem Rq:(Rows.walkPartsRow.ifacesOut == f3.resultTypes.toList.any (Tryz.pinned.checked.prog.ifacesRec ·))=true:=by kernel_rfl
theorem Rr:(Rows.walkPartsRow.loopsOut == f3.resultTypes.toList.any (Tryz.pinned.checked.prog.loopsFrom ·))=true:=by kernel_rfl
theorem Rs:(Rows.walkPartsRow.plainKeys == Tryz.pinned.checked.prog.plainKeys)=true:=by kernel_rfl
theorem Rt:(Rows.walkPartsRow.shortTexts.isNone)=true:=by kernel_rfl
theorem Ru:(Tryz.pinned.checked.prog.stopsHeard)=true:=by kernel_rfl
theorem Rv:(Tryz.pinned.checked.prog.mayEnter)=true:=by kernel_rfl
theorem Rw:(Rows.walkPartsRow.lifted == Tryz.pinned.checked.prog.liftsFinal)=true:=by kernel_rfl
theorem Rx:(Tryz.pinned.checked.prog.make == some Rows.walkPartsRow.make)=true:=by kernel_rfl
theorem Ry:(Rows.walkPartsRow.kinds == (if Rows.walkPartsRow.domain.isEmpty then [] else f3.params.toList.map fun t=>match Tryz.pinned.checked.prog.underlying t with|some (.int k)=>some k|_=>none))=true:=by kernel_rfl
theorem Rz:(Rows.walkPartsRow.pinned == Rows.walkPartsRow.pinnedBy)=true:=by kernel_rfl
theorem RA:(Rows.walkPartsRow.veiled == ((f3.params.toList++Rows.walkPartsSpec.plain.varTypes Tryz.pinned.checked.prog)++f3.resultTypes.toList).any (Tryz.pinned.checked.prog.veiledRec ·))=true:=by kernel_rfl
theorem RB:(Rows.walkPartsRow.veiledFits Tryz.pinned.checked.prog f3.params.toList ((f3.params.toList++Rows.walkPartsSpec.plain.varTypes Tryz.pinned.checked.prog)++f3.resultTypes.toList))=true:=by kernel_rfl
theorem AF:joinedFacts Tryz.pinned.checked.prog 3 f3 Rows.walkPartsSpec Rows.walkPartsRow=true:=by
 unfold joinedFacts;exact(cV (cV (cV (cV (cV (cV (cV (cV (cV (cV (cV (cV (cV (cV (cV (cV (cV (cV (cV (cV (cV (cV (cV (cV (cV (cV (cV (cV (cV (cV (cV cl0 cl1) cl2) cl3) cl4) cl5) cl6) cl7) cl8) cl9) Rg) Rh) Ri) Rj) Rk) Rl) Rm) Rn) Ro) Rp) Rq) Rr) Rs) Rt) Ru) Rv) Rw) Rx) Ry) Rz) RA) RB)
theorem Ck:f3.isWrapper Tryz.pinned.checked.prog Rows.walkPartsRow.wrapper Rows.walkPartsRow.mainSum:=by unfold Func.isWrapper;first|(rw[if_pos (by decide +kernel)];kernel_rfl)|(rw[if_neg (by decide +kernel)];exact⟨rfl,rfl⟩)
theorem BG:Tryz.pinned.checked.prog.funcNamed Rows.walkPartsRow.func=some 3:=by kernel_rfl
theorem walkParts_proved:Rows.WalkPartsSaid:=
 OpenClaim.holds_of_wide 3 f3 rfl rfl rfl rfl rfl rfl rfl ⟨rfl,rfl,rfl,rfl,rfl⟩ rfl rfl rfl rfl rfl BG func3 AF (of_decide_eq_true (by kernel_rfl)) Ck
  (fun os a H enc _=>AE os a H enc)
end
end Go.Proofs.YtoeinblfcbpcmaaGreat
