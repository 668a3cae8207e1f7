import Derived.Test.YtiinnfhjpaeffaaGreatU35
import Derived.Test.YtiinnfhjpaeffaaGreatU36
namespace Go.Proofs.YtiinnfhjpaeffaaGreat
open Go.Proofs.Tryz
set_option maxHeartbeats 0
set_option maxRecDepth 100000
set_option linter.unusedVariables false
section
open Go.ChangeShapes Go.WideShapes Go.ChangeAt Go.RowKit
theorem own:ownKnob prog.godebug=none:=by kernel_rfl
theorem Hc:laidOutB prog=true:=by kernel_rfl
def AQ(x:GrV):Prop:=wO x.e.n/\wO x.e.many
theorem yK{cs l:List Value}{o k:Nat}(m:Nat)(h:(cs.drop o).take k=l)(a:o+k=m):cs.drop o=l++cs.drop m:=by
 rw[←h,←a,←List.drop_drop];exact(List.take_append_drop k (cs.drop o)).symm
section
variable {H:Type}{enc:TypeId×Value->H}{w:World}{base:Nat}{spare:Nat->Bool}{held:Bool}{xT:Nat}
variable{cs:List Value}{x:DataW H×List MemPlace}
theorem P3{t:TypeId}{fs:List (String×TypeId×Nat)}(k:prog.underlying t=some (.struct (prog.fieldsOf t)))
 (hF:(prog.fieldsOf t).toList.map (fun f=>(f.name,f.type,f.offset))=fs) (h:DataW.trod enc prog w base spare held xT t cs=some x) :
 cs.length=prog.cellsOf t/\∃m,∀(i:Nat) (n:String) (u:TypeId) (o:Nat),fs[i]?=some (n,u,o)->∃y,DataW.trod enc prog w base spare held m u ((cs.drop o).take (prog.cellsOf u))=some y:=by
 obtain⟨p,m,-,-,j,l,e⟩:=DataW.trod_struct k h;refine⟨j,m,fun i n u o c=>?_⟩;rw[←hF,List.getElem?_map] at c;obtain⟨f,a,b⟩:=Option.map_eq_some_iff.1 c;have d:=e i f (by simpa using a);cases b
 have g:i<p.length:=by
  have:=(List.getElem?_eq_some_iff.1 a).1;rw[l];simpa using this
 rw[List.getElem?_eq_getElem g] at d;exact⟨_,d⟩
theorem QI:prog.cellsOf 3=1:=by kernel_rfl
theorem cU8:prog.cellsOf 5=1:=by kernel_rfl
theorem Qw:prog.cellsOf 4=1:=by kernel_rfl
theorem cGr:prog.cellsOf 66=5:=by kernel_rfl
theorem uGr:prog.underlying 66=some (.struct (prog.fieldsOf 66)):=by kernel_rfl
theorem fGr : (prog.fieldsOf 66).toList.map (fun f => (f.name, f.type, f.offset)) = [("N", 3, 0), ("Many", 3, 1), ("Cut", 4, 2), ("Commit", 4, 3), ("B", 5, 4)] := by kernel_rfl
theorem LA(h:DataW.trod enc prog w base spare held xT 3 cs=some x):∃a:Int,wO a/\cs=[.int .i64 a]:=by
 obtain⟨a,b,-,c⟩:=DataW.trod_int underlying3 h;exact⟨a,bounds_i64 c,b⟩
theorem Pb(h:DataW.trod enc prog w base spare held xT 5 cs=some x):∃b:UInt8,cs=[vb b]:=by
 obtain⟨a,c,rfl,d⟩:=DataW.trod_int underlying5 h;have e:=bounds_u8 d;refine⟨UInt8.ofNat a.toNat,?_⟩;rw[c];unfold vb;simp;omega
theorem Qx(h:DataW.trod enc prog w base spare held xT 66 cs=some x):∃a:GrV,AQ a/\cs=kZ a:=by
 obtain⟨u,m,b⟩:=P3 uGr fGr h;rw[cGr] at u;obtain⟨_,h0⟩:=b 0 _ _ _ rfl;obtain⟨_,q⟩:=b 1 _ _ _ rfl;obtain⟨_,r⟩:=b 2 _ _ _ rfl;obtain⟨_,s⟩:=b 3 _ _ _ rfl;obtain⟨_,t⟩:=b 4 _ _ _ rfl;obtain⟨k,v,c⟩:=LA h0;obtain⟨l,y,d⟩:=LA q;obtain⟨n,e,-⟩:=DataW.trod_bool underlying4 r;obtain⟨o,f,-⟩:=DataW.trod_bool underlying4 s;obtain⟨p,g⟩:=Pb t;rw[QI] at c d;rw[Qw] at e f;rw[cU8] at g;refine⟨⟨⟨k,l,n,p⟩,o⟩,⟨v,y⟩,?_⟩;have j:=yK 1 c rfl;rw[yK 2 d rfl,yK 3 e rfl,yK 4 f rfl,yK 5 g rfl,List.drop_eq_nil_of_le (i:=5) (by omega)] at j;exact j
theorem Aa{a:Option Addr}{len b:Nat}(h:DataW.trod enc prog w base spare held xT 57 [.slice a len b]=some x) :
 ∃l:List GrV,l.length=len/\(∀y∈l,AQ y)/\Rd w 5 (.slice a len b) len (yY l):=
 FD (f:=kZ) (ok:=AQ) underlying57 cGr (by decide) (fun y d=>rfl) (fun n cs x c=>Qx c) h
end
theorem NL{w:World}{v:Value}{l:List GrV}(h:Rd w 5 v l.length (yY l)){k:Nat}{x:GrV}(i:l[k]?=some x):∃g o b,v=.slice (some ⟨g,o,none⟩) l.length b/\w.rangeAt g (o+k*5) (kZ x):=by
 obtain⟨h0,a,b,rfl,q,r,s,m⟩:=h;have p:=(List.getElem?_eq_some_iff.1 i).1;obtain⟨g,o,rfl,n⟩:=m (by rw[h0];omega);refine⟨g,o,b,rfl,fun j u e=>?_⟩;have c:j<5:=(List.getElem?_eq_some_iff.1 e).1;have d:=tC (f:=kZ) (k:=5) (l:=l) (fun _ _=>rfl) k i j c;rw[e] at d;have:=n (k*5+j) u d
 rwa [←Nat.add_assoc] at this
end
section
open Go.RowKit Go.Maps Go.ChangeMaps
theorem BL(W:World)(va:Value)(la:List GrV)(vg:∀y∈la,AQ y)(z3:Rd W 5 va la.length (yY la))(vp:Value)(lb:List GrV)(vh:∀y∈lb,AQ y)(z5:Rd W 5 vp lb.length (yY lb)):Calls prog 5 #[va,vp] W (NI W):=by
 obtain⟨oa,oc,rfl,-,-⟩:=z3.form;have vn:la.length≤maxLen:=by obtain⟨_,_,-,h1,h2⟩:=z3.form;omega
 unfold maxLen at vn;obtain⟨N,q9⟩:=zX9 la.length
 have xi:=O q9;have x5:=O z3;have v0:=O vg;rw[q9] at x5 vn ⊢;clear z3 q9 vg;obtain⟨ob,od,rfl,-,-⟩:=z5.form;have vo:lb.length≤maxLen:=by obtain⟨_,_,-,h1,h2⟩:=z5.form;omega
 unfold maxLen at vo;obtain⟨M2,zb⟩:=zX9 lb.length
 have xj:=O zb;have x6:=O z5;have v1:=O vh;rw[zb] at x6 vo ⊢;clear z5 zb vh;go_in;have qb:=O (aA.refl aB W);go_wp2_with fail;refine((Gp W)).mono ?_;rintro e w1 ⟨rfl,d⟩;replace qb:=O (qb.trans d);clear d;go_wp2_with fail;refine((Bw w1 200 (by omega))).mono ?_;rintro e w2 ⟨c,M,B,rfl,zj,hB,d⟩;have zm:Hid (∀k,B k->W.heap.size≤k):=O (fun k h=>Nat.le_trans qb.size (hB k h));replace qb:=O (qb.trans d);have b:=O (Cs.start zj).hole0;clear zj hB d;rcases Nat.lt_or_ge 20 N with xq|xq
 ·have zw:(20:Int)<(N:Int):=by omega
  have d1:decide ((20:Int)<(N:Int))=true:=decide_eq_true zw;go_wp2;go_ret;exact⟨rfl,qb.out⟩
 ·have zw:¬(20:Int)<(N:Int):=by omega
  have d1:decide ((20:Int)<(N:Int))=false:=decide_eq_false zw;rcases Nat.lt_or_ge 20 M2 with xr|xr
  ·have zx:(20:Int)<(M2:Int):=by omega
   have d2:decide ((20:Int)<(M2:Int))=true:=decide_eq_true zx;go_wp2;go_ret;exact⟨rfl,qb.out⟩
  ·have zx:¬(20:Int)<(M2:Int):=by omega
   have d2:decide ((20:Int)<(M2:Int))=false:=decide_eq_false zx
   go_wp2_with ((with_reducible show WL _ _);refine al 62 (.agg zgw.toArray) (zgw.toArray) AP ?_)
   intro b7 w3 qn d Y;replace b:=O (b.new (trivial) qn d Y);clear qn d Y;go_wp2_with fail;have A:Hid (Wel (⟨2,200,2,[],M,0⟩:Kor) .hole (fun _=>0)):=O (Wel.hole b.ki.bd)
   go_loopw [8] (fun i wr=>∃(k:Nat) (S8:Kor) (B8:Nat->Prop) (v9:Value) (s:Tr) (bs:Nat->UInt8) (qt:Nat->Bool),k≤N/\i=.int .i64 (k:Int)/\Hid (Wel S8 s bs/\S8.txg≤0+k/\S8.cp=2)/\Hid (Cs B w2 c S8 B8 [(v9,s.ptr)] wr [(b7,(dN v9 s.ptr bs qt).toArray,62)])) (fun i _=>N-(intOf i).toNat)
   case atStart=>exact⟨0,_,B,_,.hole,fun _=>0,fun _=>false,Nat.zero_le _,rfl,O ⟨A.out,Int.le_refl _,rfl⟩,b⟩
   case round =>
   clear b A;obtain⟨k,S8,B8,v9,s,bs,qt,d,rfl,A,b⟩:=hrel;rcases Nat.lt_or_ge k N with K|K
   ·have zj:(k:Int)<(N:Int):=by omega
    have qp:(0:Int)≤(k:Int):=by omega
    obtain⟨x,hx⟩:∃x,la[k]?=some x:=⟨la[k]'(by rw[xi.out];exact K),List.getElem?_eq_getElem _⟩
    have zr:=O (v0 x (List.mem_of_getElem? hx));have ze:=x5.out;rw[←xi.out] at ze;obtain⟨g,o,x9,hv,qk⟩:=NL ze hx;rw[xi.out] at hv;have e1:oa=some ⟨g,o,none⟩:=by cases hv;rfl
    subst e1;have xv:g<W.heap.size:=World.block_lt_of_cell? W _ (qk 0 _ rfl);have xh:Hid (∀i,B8 i->i≠g):=O (fun i e h=>(b.bb i e).elim (fun h2=>by have:=zm.out i h2;omega) fun h2=>by have:=qb.size;omega);have HX:=O ((b.fin zm.out qb.out).rangeAt2 qk id);obtain⟨ec,Z⟩:=zX9 (kZ x)
    have zn:=O Z;have xu:ec.length=5:=by rw[←Z];rfl
    rw[Z] at HX;have zq:Hid (S8.txg+1<2147483648):=O (by have h1:=A.2.1;omega);obtain⟨gc,C,qy,z6⟩:=nJ (b.pv0 0).pt bs qt;rw[C.out] at b;clear Z hx ze hv qk xv;go_wp2_with fail;apply xX (R:=fun(b9:Nat) (E:List Value) (v2:Value) w'=>Hid (∃B2 T u m z,dN v2 u.ptr m z=E/\wA S8 s bs qt T u m z/\Cs B w2 c T B2 ((v2,u.ptr)::[(v9,s.ptr)]) w' ((b9,E.toArray,62)::[(b7,gc.toArray,62)])))
    case h =>
     refine sJ (B8) b (by kernel_rfl) ?_;intro w4 SW V f qh b;replace HX:=O (qh.rangeAt2 HX.out id);clear qh;have qd:=b;have xp:=HX;refine tna 0 (.pointer c) rfl (sD9 f b) ?_;refine tnd 1 (.agg gc.toArray) rfl (ldD 62 (.tmp 7) b7 0 gc _ (fun w' h=>aC (qd.own (V w' h) 0)) lA (by rw[qy];exact dY)) (sD9 f b) ?_;refine tna 2 (.slice (some ⟨g,o,none⟩) N oc) rfl (sD9 f b) ?_;refine tna 3 (.int .i64 (k:Int)) rfl (sD9 f b) ?_;refine tnb 4 (.pointer (some ⟨g,o+k*5,none⟩)) rfl (sD9 f b) ?_;refine tnd 5 (.agg ec.toArray) rfl (ldD 66 (.tmp 59) g (o+k*5) ec _ (fun w' h=>(V w' h).rangeAt2 xp.out (fun e=>xh.out _ e rfl)) NJ (by rw[xu];exact Lv)) (sD9 f b) ?_;refine fY (k:=6) (l:=10) rfl rfl (by kernel_rfl) ?_ ?_
     ·go_wp2_with fail
      refine((by rw[←C.out,←zn.out];exact wB b.ki zq.out v9 s bs A.1 (b.pv0 0) qt x zr.out:Ka w4 (lB w4 c B8 S8 s bs qt v9))).mono ?_;rintro e w5 ⟨v2,B2,T,u,m,z,rfl,F,Q,G,qf,qi,qg⟩;have I:=O F;replace b:=O (b.laid1 (fun _ _ e=>e) Q G qf (qi.imp (fun e=>⟨_,List.mem_cons_self ..,e⟩) id) qg);obtain⟨E,P,j,D⟩:=nJ Q.pt m z;rw[P.out];clear F Q G qf qi qg;go_wp2_with fail;refine⟨f _ b.dr,?_⟩;refine tna 7 (.tuple #[.agg E.toArray,.bool true]) rfl (sD9 f b) ?_;refine tnb 8 (.agg E.toArray) rfl (sD9 f b) ?_;refine tnb 9 (.bool true) rfl (sD9 f b) ?_;refine wA9 10 ?_;refine alD b f 62 (.agg zgw.toArray) (zgw.toArray) AP ?_;intro b9 w6 xt d b;clear d;refine wA9 11 ?_;refine stD b f 0 rfl 62 (.tmp 9) (.tmp 62) E (.inl xt) (by first|rfl|simp[j,kB]) (by rw[j];exact dY) D.out ?_;intro w7 b;refine tna 12 (.bool true) rfl (sD9 f b) ?_;refine wpAnyH_done (by kernel_rfl) ?_ _;refine noP ?_;exact⟨rfl,b9,E,v2,rfl,O ⟨B2,T,u,m,z,P.out,I.out,b.toCs⟩⟩
     ·refine alD b f 62 (.agg zgw.toArray) (zgw.toArray) AP ?_
      intro b9 w5 xt d b;replace HX:=O (d.rangeAt2 HX.out id);clear d;refine wA9 6 ?_;go_wp2_with fail;refine((by rw[←C.out,←zn.out];exact wB b.ki zq.out v9 s bs A.1 (b.pv0 0) qt x zr.out:Ka w5 (lB w5 c B8 S8 s bs qt v9))).mono ?_;rintro e w6 ⟨v2,B2,T,u,m,z,rfl,F,Q,G,qf,qi,qg⟩;have I:=O F;replace b:=O (b.laid1 (fun _ _ e=>e) Q G qf (qi.imp (fun e=>⟨_,List.mem_cons_self ..,e⟩) id) qg);obtain⟨E,P,j,D⟩:=nJ Q.pt m z;rw[P.out];clear F Q G qf qi qg;go_wp2_with fail;refine⟨f _ b.dr,?_⟩;refine tna 7 (.tuple #[.agg E.toArray,.bool true]) rfl (sD9 f b) ?_;refine tnb 8 (.agg E.toArray) rfl (sD9 f b) ?_;refine tnb 9 (.bool true) rfl (sD9 f b) ?_;refine wA9 11 ?_;refine stD b f 0 rfl 62 (.tmp 9) (.tmp 62) E (.inl xt) (by first|rfl|simp[j,kB]) (by rw[j];exact dY) D.out ?_;intro w7 b;refine tna 12 (.bool true) rfl (sD9 f b) ?_;refine wpAnyH_done (by kernel_rfl) ?_ _;refine noP ?_;exact⟨rfl,b9,E,v2,rfl,O ⟨B2,T,u,m,z,P.out,I.out,b.toCs⟩⟩
    case hR =>
     rintro b9 E v2 w8 HF;obtain⟨B2,T,u,m,z,qo,F,hl⟩:=HF.out;replace b:=O hl;have P:=O qo;have I:=O F;have j:E.length=163:=by rw[←qo];exact mM (b.pv0 0).pt.sum _ _
     have D:Hid (∀u∈E,u.oneCell'=true):=O (by rw[←qo];exact AO (b.pv0 0).pt _ _);clear qo F hl HF HX
     go_wp2_with ((with_reducible show WL _ _);first
      | refine wpList_load_mid rfl 62 (.tmp 9) rfl b9 0 rfl E _ (aC (b.b 0)) lA rfl (by rw[j];exact dY) ?_
      | refine sta 62 (.tmp 7) (.tmp 66) b7 0 E (b.b 1) (by first|decide|(rw[j];exact Nat.le_refl _)|simp[j,qy]) (by rw[j];exact dY) D.out ?_)
     intro w9 d Y;rw[aI _ _ (by first|rfl|simp[j,qy])] at Y;replace b:=O (b.set 1 d Y);clear d Y;go_wp2
     go_roundw
     case rel=>exact⟨k+1,T,B2,v2,u,m,z,by omega,by go_num,O ⟨I.wel,by have h1:=I.txg;have h2:=A.2.1;omega,by rw[I.ext.cp];exact A.2.2⟩,O (by rw[P.out];exact b.tail.sub (fun r hr=>by rcases List.mem_cons.1 hr with rfl|hr;exact List.mem_cons_self ..;exact List.mem_cons_of_mem _ (List.mem_cons_of_mem _ hr)))⟩
     case measure=>simp[intOf];omega
   ·obtain rfl:N=k:=by omega
    obtain⟨sc,qz,zf,x2⟩:=nJ (b.pv0 0).pt bs qt;rw[qz.out] at b;obtain⟨pc,qe,zd,v3⟩:=nmP (b.pv0 0);have zp:=O (b.pv0 0).pt.sum
    go_wp2_with ((with_reducible show WL _ _);first
     | refine wpList_load_mid rfl 62 (.tmp 7) rfl b7 0 rfl sc _ (aC (b.b 0)) lA rfl (by rw[zf];exact dY) ?_
     | refine al 62 (.agg zgw.toArray) (zgw.toArray) AP ?_)
    intro X wa qn qp qx
    go_wp2_with ((with_reducible show WL _ _);refine sta 62 (.tmp 11) (.tmp 67) X 0 sc qx (by first|decide|(rw[List.size_toArray,zf];exact Nat.le_refl _)|simp[zf,kB]) (by rw[zf];exact dY) x2.out ?_)
    intro wb d Y;rw[aI _ _ (by first|rfl|(rw[List.size_toArray,zf];rfl)|simp[zf,kB])] at Y;replace d:=tX qp d (fun i hi e=>by omega);replace b:=O (b.new (trivial) qn d Y);clear qn d Y qp qx
    go_wp2_with ((with_reducible show WL _ _);first
     | refine bld 60 #[] [] (.agg zTc.toArray) Cr ?_
     | refine sta 60 (.tmp 69) (.tmp 68) b7 99 zTc (b.b 1) (by rw[List.size_toArray,zf,mP];omega) NK (Cq _) ?_)
    intro wc d Y;rw[←qz.out,show zTc=tcC fun _=>false from rfl,P1 zp.out] at Y;obtain⟨qc,xn,um,ui⟩:=nJ (b.pv0 0).pt bs (fun _=>false);rw[xn.out] at Y;replace b:=O (b.set 1 d Y);clear d Y
    go_wp2_with ((with_reducible show WL _ _);refine wpList_load_mid rfl 27 (.tmp 71) rfl b7 0 rfl pc _ (qe.out▸jB (b.b 1) xn.out) aG rfl (szP9 zd) ?_)
    refine((by rw[←qe.out];exact KI.commit b.ki (by have h1:=A.2.1;omega) v9 s.ptr (b.pv0 0).pt A.1.kept.ok.few 0 (by decide) A.1.kept.ok.comm:Ka wc (vZ wc c S8 B8))).mono ?_;rintro e wd ⟨rfl,M9,B9,vc,zy,xd,-,d⟩;have xz:=O (Kor.com_ext vc);obtain⟨S9,z0⟩:∃S9:Kor,S9=⟨S8.D,S8.Z,S8.cp,S8.L,M9,S8.txg+1⟩:=⟨_,rfl⟩
    rw[←z0] at xz zy;have x7:Hid (S9.txg=S8.txg+1):=O (by rw[z0]);have vw:Hid (S9.cp=2):=O (by rw[z0];exact A.2.2);replace b:=O (b.turned zy xd d);clear vc zy xd d z0;go_wp2_with fail;refine((KI.uber b.ki)).mono ?_;rintro e we ⟨v8,u8,rfl,vi,d⟩;obtain⟨uc,vj⟩:∃uc,cW v8 u8=.int .i64 S9.txg::uc:=⟨_,by unfold cW;rw[vi]⟩
    rw[vj];have v6:=Lx S9.txg uc;clear vj vi;replace b:=O (b.keeps d);clear d;go_wp2_with fail;clear v6;have xo:Hid (Wel S9 s bs):=O (A.1.ext xz.out b.ki.bd);have vu:Hid (∀p∈eP 3 s,p.birth≤S9.txg):=O (fun p hp=>by rw[x7.out];exact O7 A.1.kept.ok A.1.kept.aged p hp);have vt:Hid (S9.txg≤30):=O (by have h1:=A.2.1;have h2:=x7.out;omega);replace b:=O (b.sub (rs':=[(v9,s.ptr),(v9,s.ptr)]) (fun r hr=>(List.mem_cons.1 hr).elim (fun e=>by rw[e];exact List.mem_cons_self ..) id));rw[←xn.out] at b
    go_loopw [13] (fun i wr=>∃(k:Nat) (S:Kor) (B':Nat->Prop) (v:Value) (t:Tr) (bl:Nat->UInt8) (tc:Nat->Bool),k≤M2/\i=.int .i64 (k:Int)/\Hid (Wel S t bl/\S.txg≤30+k/\S.cp=2)/\Hid (Was S9 s S t tc)/\Hid (Cs B w2 c S B' [(v,t.ptr),(v9,s.ptr)] wr [(X,sc.toArray,62),(b7,(dN v t.ptr bl tc).toArray,62)])) (fun i _=>M2-(intOf i).toNat)
    case atStart=>exact⟨0,S9,B9,v9,s,bs,fun _=>false,Nat.zero_le _,rfl,O ⟨xo.out,by have:=vt.out;omega,vw.out⟩,O (Was.refl S9 s),b⟩
    case round =>
    clear b A;obtain⟨k,S,B',v,t,bl,tc,d,rfl,A,zz,b⟩:=hrel;rcases Nat.lt_or_ge k M2 with K|K
    ·have zj:(k:Int)<(M2:Int):=by omega
     have qp:(0:Int)≤(k:Int):=by omega
     obtain⟨x,hx⟩:∃x,lb[k]?=some x:=⟨lb[k]'(by rw[xj.out];exact K),List.getElem?_eq_getElem _⟩
     have zr:=O (v1 x (List.mem_of_getElem? hx));have ze:=x6.out;rw[←xj.out] at ze;obtain⟨g,o,x9,hv,qk⟩:=NL ze hx;rw[xj.out] at hv;have e1:ob=some ⟨g,o,none⟩:=by cases hv;rfl
     subst e1;have xv:g<W.heap.size:=World.block_lt_of_cell? W _ (qk 0 _ rfl);have xh:Hid (∀i,B' i->i≠g):=O (fun i e h=>(b.bb i e).elim (fun h2=>by have:=zm.out i h2;omega) fun h2=>by have:=qb.size;omega);have HX:=O ((b.fin zm.out qb.out).rangeAt2 qk id);obtain⟨ec,Z⟩:=zX9 (kZ x)
     have zn:=O Z;have xu:ec.length=5:=by rw[←Z];rfl
     rw[Z] at HX;have zq:Hid (S.txg+1<2147483648):=O (by have h1:=A.2.1;omega);obtain⟨gc,C,qy,z6⟩:=nJ (b.pv0 0).pt bl tc;rw[C.out] at b;clear Z hx ze hv qk xv;go_wp2_with fail;apply xX (R:=fun(q3:Nat) (E:List Value) (v2:Value) w'=>Hid (∃B2 T u m z,dN v2 u.ptr m z=E/\wA S t bl tc T u m z/\Cs B w2 c T B2 ((v2,u.ptr)::[(v,t.ptr),(v9,s.ptr)]) w' ((q3,E.toArray,62)::[(X,sc.toArray,62),(b7,gc.toArray,62)])))
     case h =>
      refine sJ (B') b (by kernel_rfl) ?_;intro wf SW V f qh b;replace HX:=O (qh.rangeAt2 HX.out id);clear qh;have qd:=b;have xp:=HX;refine tna 0 (.pointer c) rfl (sD9 f b) ?_;refine tnd 1 (.agg gc.toArray) rfl (ldD 62 (.tmp 7) b7 0 gc _ (fun w' h=>aC (qd.own (V w' h) 1)) lA (by rw[qy];exact dY)) (sD9 f b) ?_;refine tna 2 (.slice (some ⟨g,o,none⟩) M2 od) rfl (sD9 f b) ?_;refine tna 3 (.int .i64 (k:Int)) rfl (sD9 f b) ?_;refine tnb 4 (.pointer (some ⟨g,o+k*5,none⟩)) rfl (sD9 f b) ?_;refine tnd 5 (.agg ec.toArray) rfl (ldD 66 (.tmp 89) g (o+k*5) ec _ (fun w' h=>(V w' h).rangeAt2 xp.out (fun e=>xh.out _ e rfl)) NJ (by rw[xu];exact Lv)) (sD9 f b) ?_;refine fY (k:=6) (l:=10) rfl rfl (by kernel_rfl) ?_ ?_
      ·go_wp2_with fail
       refine((by rw[←C.out,←zn.out];exact wB b.ki zq.out v t bl A.1 (b.pv0 0) tc x zr.out:Ka wf (lB wf c B' S t bl tc v))).mono ?_;rintro e wg ⟨v2,B2,T,u,m,z,rfl,F,Q,G,qf,qi,qg⟩;have I:=O F;replace b:=O (b.laid1 (fun _ _ e=>e) Q G qf (qi.imp (fun e=>⟨_,List.mem_cons_self ..,e⟩) id) qg);obtain⟨E,P,j,D⟩:=nJ Q.pt m z;rw[P.out];clear F Q G qf qi qg;go_wp2_with fail;refine⟨f _ b.dr,?_⟩;refine tna 7 (.tuple #[.agg E.toArray,.bool true]) rfl (sD9 f b) ?_;refine tnb 8 (.agg E.toArray) rfl (sD9 f b) ?_;refine tnb 9 (.bool true) rfl (sD9 f b) ?_;refine wA9 10 ?_;refine alD b f 62 (.agg zgw.toArray) (zgw.toArray) AP ?_;intro q3 wh zu d b;clear d;refine wA9 11 ?_;refine stD b f 0 rfl 62 (.tmp 14) (.tmp 92) E (.inl zu) (by first|rfl|simp[j,kB]) (by rw[j];exact dY) D.out ?_;intro wi b;refine tna 12 (.bool true) rfl (sD9 f b) ?_;refine wpAnyH_done (by kernel_rfl) ?_ _;refine noP ?_;exact⟨rfl,q3,E,v2,rfl,O ⟨B2,T,u,m,z,P.out,I.out,b.toCs⟩⟩
      ·refine alD b f 62 (.agg zgw.toArray) (zgw.toArray) AP ?_
       intro q3 wg zu d b;replace HX:=O (d.rangeAt2 HX.out id);clear d;refine wA9 6 ?_;go_wp2_with fail;refine((by rw[←C.out,←zn.out];exact wB b.ki zq.out v t bl A.1 (b.pv0 0) tc x zr.out:Ka wg (lB wg c B' S t bl tc v))).mono ?_;rintro e wh ⟨v2,B2,T,u,m,z,rfl,F,Q,G,qf,qi,qg⟩;have I:=O F;replace b:=O (b.laid1 (fun _ _ e=>e) Q G qf (qi.imp (fun e=>⟨_,List.mem_cons_self ..,e⟩) id) qg);obtain⟨E,P,j,D⟩:=nJ Q.pt m z;rw[P.out];clear F Q G qf qi qg;go_wp2_with fail;refine⟨f _ b.dr,?_⟩;refine tna 7 (.tuple #[.agg E.toArray,.bool true]) rfl (sD9 f b) ?_;refine tnb 8 (.agg E.toArray) rfl (sD9 f b) ?_;refine tnb 9 (.bool true) rfl (sD9 f b) ?_;refine wA9 11 ?_;refine stD b f 0 rfl 62 (.tmp 14) (.tmp 92) E (.inl zu) (by first|rfl|simp[j,kB]) (by rw[j];exact dY) D.out ?_;intro wi b;refine tna 12 (.bool true) rfl (sD9 f b) ?_;refine wpAnyH_done (by kernel_rfl) ?_ _;refine noP ?_;exact⟨rfl,q3,E,v2,rfl,O ⟨B2,T,u,m,z,P.out,I.out,b.toCs⟩⟩
     case hR =>
      rintro q3 E v2 wj HF;obtain⟨B2,T,u,m,z,qo,F,hl⟩:=HF.out;replace b:=O hl;have P:=O qo;have I:=O F;have j:E.length=163:=by rw[←qo];exact mM (b.pv0 0).pt.sum _ _
      have D:Hid (∀u∈E,u.oneCell'=true):=O (by rw[←qo];exact AO (b.pv0 0).pt _ _);clear qo F hl HF HX
      go_wp2_with ((with_reducible show WL _ _);first
       | refine wpList_load_mid rfl 62 (.tmp 14) rfl q3 0 rfl E _ (aC (b.b 0)) lA rfl (by rw[j];exact dY) ?_
       | refine sta 62 (.tmp 7) (.tmp 96) b7 0 E (b.b 2) (by first|decide|(rw[j];exact Nat.le_refl _)|simp[j,qy]) (by rw[j];exact dY) D.out ?_)
      intro wk d Y;rw[aI _ _ (by first|rfl|simp[j,qy])] at Y;replace b:=O (b.set 2 d Y);clear d Y;go_wp2
      go_roundw
      case rel=>exact⟨k+1,T,B2,v2,u,m,z,by omega,by go_num,O ⟨I.wel,by have h1:=I.txg;have h2:=A.2.1;omega,by rw[I.ext.cp];exact A.2.2⟩,O (I.was _ _ zz.out),O (by rw[P.out];exact b.tail.sub (fun r hr=>by rcases List.mem_cons.1 hr with rfl|hr;exact List.mem_cons_self ..;exact List.mem_cons_of_mem _ (List.mem_cons_of_mem _ hr)))⟩
      case measure=>simp[intOf];omega
    ·obtain rfl:M2=k:=by omega
     obtain⟨gc,C,qy,z6⟩:=nJ (b.pv0 0).pt bl tc;rw[C.out] at b;obtain⟨pc,qe,zd,v3⟩:=nmP (b.pv0 0);obtain⟨rc,zi,xx,ug⟩:=nmP (b.pv0 1);have xl:=O (b.pv0 0).pt.sum;obtain⟨U,hU⟩:=zX9 (unl 3 s t 0)
     obtain⟨nU,xw⟩:=zX9 U.length
     have HU:=O hU;have qv:=O xw;have vz:Hid (nU≤64):=O (by rw[←xw,←hU];exact qT);have q0:Hid (Wel S s bs):=O (xo.ext zz.ext A.1.bd);clear hU xw
     go_wp2_with ((with_reducible show WL _ _);first
      | refine wpList_load_mid rfl 27 (.tmp 99) rfl X 0 rfl rc _ (zi.out▸jB (b.b 0) qz.out) aG rfl (szP9 xx) ?_
      | refine wpList_load_mid rfl 27 (.tmp 101) rfl b7 0 rfl pc _ (qe.out▸jB (b.b 1) C.out) aG rfl (szP9 zd) ?_)
     refine((by rw[←zi.out,←qe.out,←HU.out];exact vX b.ki v9 v s t q0.kept.ok A.1.kept.ok (b.pv0 1) (b.pv0 0):Ka wr (iB wr U))).mono ?_;rintro e wl ⟨xa,rfl,L,d⟩;obtain⟨vq,ud,rfl,-,-⟩:=(Rd.of_owns L).form;rw[qv.out] at L ⊢;have qw:=O (Rd.of_owns L);clear L;replace b:=O (b.keeps d);clear d
     go_wp2_with ((with_reducible show WL _ _);first
      | refine wpList_load_mid rfl 27 (.tmp 108) rfl b7 0 rfl pc _ (qe.out▸jB (b.b 1) C.out) aG rfl (szP9 zd) ?_
      | refine wpList_load_mid rfl 27 (.tmp 110) rfl X 0 rfl rc _ (zi.out▸jB (b.b 0) qz.out) aG rfl (szP9 xx) ?_)
     refine((by rw[←zi.out,←qe.out,←HU.out,Fi 3 s t 0];exact vX b.ki v v9 t s A.1.kept.ok q0.kept.ok (b.pv0 0) (b.pv0 1):Ka wl (iB wl U))).mono ?_;rintro e wm ⟨ya,rfl,L,d⟩;obtain⟨ue,uf,rfl,-,-⟩:=(Rd.of_owns L).form;rw[qv.out] at L ⊢;have zs:=O (Rd.of_owns L);clear L;replace b:=O (b.keeps d);replace qw:=O (qw.keep d fun _ _=>id);clear d
     go_wp2_with ((with_reducible show WL _ _);first
      | refine wpList_load_mid rfl 27 (.tmp 117) rfl b7 0 rfl pc _ (qe.out▸jB (b.b 1) C.out) aG rfl (szP9 zd) ?_
      | refine wpList_load_mid rfl 27 (.tmp 119) rfl b7 0 rfl pc _ (qe.out▸jB (b.b 1) C.out) aG rfl (szP9 zd) ?_)
     refine((by rw[←qe.out];exact vX b.ki v v t t A.1.kept.ok A.1.kept.ok (b.pv0 0) (b.pv0 0):Ka wm (iB wm (unl 3 t t 0)))).mono ?_;rintro e wn ⟨nv,rfl,L,d⟩;rw[mK] at L;obtain⟨na,nc,rfl,-,-⟩:=(Rd.of_owns L).form;clear L;replace b:=O (b.keeps d);replace qw:=O (qw.keep d fun _ _=>id);replace zs:=O (zs.keep d fun _ _=>id);clear d;go_wp2_with fail;refine((by have h:=rS wn (.slice vq nU ud) (.slice ue nU uf) (U.map fun(i:Nat)=>(i:Int)) (U.map fun(i:Nat)=>(i:Int)) (by rw[List.length_map,qv.out,←Hb];exact qw.out) (by rw[List.length_map,qv.out,←Hb];exact zs.out);rw[decide_eq_true rfl] at h;exact h:Ka wn (aY wn true))).mono ?_;rintro e wo ⟨rfl,d⟩;replace b:=O (b.keeps d);replace qw:=O (qw.keep d fun _ _=>id);replace zs:=O (zs.keep d fun _ _=>id);clear d;have qm:=O (aA.refl aB wo);have v5:=qw
     go_wp2_with ((with_reducible show WL _ _);first
      | refine bld 60 #[] [] (.agg zTc.toArray) Cr ?_
      | refine al 60 (.agg zTc.toArray) (zTc.toArray) QH ?_)
     intro q5 wp qn qp qx
     go_wp2_with ((with_reducible show WL _ _);first
      | refine bld 60 #[] [] (.agg zTc.toArray) Cr ?_
      | refine sta 60 (.tmp 22) (.tmp 145) q5 0 zTc qx (by first|decide|(rw[List.size_toArray,mP];exact Nat.le_refl _)|simp[mP,mP]) NK (Cq _) ?_)
     intro wq d Y;rw[aI _ _ (by first|rfl|(rw[List.size_toArray,mP];rfl)|simp[mP,mP])] at Y;replace d:=tX qp d (fun i hi e=>by omega);have xk:=O (show wo.heap.size≤q5 from Nat.le_of_eq qn);replace b:=O (b.new (trivial) qn d Y);replace qm:=O (qm.trans d);clear qn d Y qp qx;go_wp2_with fail;have ul:=vz.out;replace b:=b.out;rw[show zTc=tcC (nK (U.take 0)) by rw[List.take_zero,Ly];rfl] at b
     go_loopw [23] (fun i wr=>∃k:Nat,k≤nU/\i=.int .i64 (k:Int)/\Hid (aA aB wo wr)/\Hid (Cs B w2 c S B' [(v,t.ptr),(v9,s.ptr)] wr [(q5,(tcC (nK (U.take k))).toArray,60),(X,sc.toArray,62),(b7,gc.toArray,62)])) (fun i _=>nU-(intOf i).toNat)
     case atStart=>exact⟨0,Nat.zero_le _,rfl,qm,O b⟩
     case round =>
     clear b qm;obtain⟨k,d,rfl,qm,b⟩:=hrel;rcases Nat.lt_or_ge k nU with K|K
     ·have zj:(k:Int)<(nU:Int):=by omega
      have qp:(0:Int)≤(k:Int):=by omega
      obtain⟨y,hy⟩:∃y,U[k]?=some y:=⟨U[k]'(by rw[qv.out];exact K),List.getElem?_eq_getElem _⟩
      obtain⟨xg,vm⟩:=zz.unl (by rw[HU.out];exact List.mem_of_getElem? hy);obtain⟨g,o,x9,he,qk⟩:=Qv (by rw[qv.out];exact v5.keep qm.out fun _ _=>id) hy;rw[qv.out] at he;obtain rfl:vq=some ⟨g,o,none⟩:=by cases he;rfl
      have c1:=qk;have c2:=Pa xl.out (b.b 2) C.out xg;rw[vm] at c2;have v7:¬(y:Int)<0:=by omega
      have ua:¬(64:Int)≤(y:Int):=by omega
      have uo:(0:Int)≤(y:Int):=by omega
      have uq:(y:Int)<64:=by omega
      have d3:decide ((y:Int)<0)=false:=decide_eq_false v7;have d4:decide ((64:Int)≤(y:Int))=false:=decide_eq_false ua;have HY:=O hy;have xc:=O xg;clear hy vm he qk
      go_wp2_with ((with_reducible show WL _ _);refine sta 4 (.tmp 178) (.const (.bool true)) q5 y [.bool true] (b.b 0) (by rw[List.size_toArray,oQ];have:=xc.out;show y+1≤64;omega) (by kernel_rfl) (by intro v hv;rw[List.mem_singleton] at hv;rw[hv];rfl) ?_)
      intro wz d Y;rw[show spl (tcC (nK (U.take k))).toArray y [.bool true]=(tcC (nK (U.take (k+1)))).toArray from(P2 xc.out).trans (by rw[Ji,List.take_add_one,HY.out];rfl)] at Y;replace qm:=O (qm.trans' d (U:=aB) (fun _ _ h=>h) fun i hi e=>by have:=xk.out;omega);replace b:=O (b.set 0 d Y);clear d Y c1 c2;go_wp2
      go_roundw
      case rel=>exact⟨k+1,by omega,by go_num,qm,b⟩
      case measure=>simp[intOf];omega
     ·obtain rfl:nU=k:=by omega
      rw[List.take_of_length_le (by rw[qv.out];exact Nat.le_refl _)] at b;go_wp2_with fail
      go_loopw [24] (fun i w'=>∃k:Nat,k≤64/\i=.int .i64 (k:Int)/\Hid (Cs B w2 c S B' [(v,t.ptr),(v9,s.ptr)] w' [(q5,(tcC (nK U)).toArray,60),(X,sc.toArray,62),(b7,gc.toArray,62)])) (fun i _=>64-(intOf i).toNat)
      case atStart=>exact⟨0,Nat.zero_le _,rfl,b⟩
      case round =>
      clear b;obtain⟨k,d,rfl,b⟩:=hrel;rcases Nat.lt_or_ge k 64 with K|K
      ·have zj:(k:Int)<64:=by omega
       have qp:(0:Int)≤(k:Int):=by omega
       obtain⟨q1,z1⟩:∃q:Int,((bs k).toNat:Int)=q:=⟨_,rfl⟩
       obtain⟨q2,z2⟩:∃q:Int,((bl k).toNat:Int)=q:=⟨_,rfl⟩
       have x3:Hid (vb (bs k)=.int .u8 q1):=O (by unfold vb;rw[z1]);have x4:Hid (vb (bl k)=.int .u8 q2):=O (by unfold vb;rw[z2]);rcases Decidable.em (bs k=bl k) with he|he
       ·obtain rfl:q1=q2:=by rw[←z1,←z2,he]
        clear z1 z2;go_wp2_with fail;go_wp2_with fail;refine dwA aB (by kernel_rfl) ?_;intro wr S V f J qh;replace b:=O (b.keeps qh);clear qh;have qd:=b;refine tna 0 (.int .i64 (k:Int)) rfl J ?_;refine tnb 1 (.pointer (some ⟨X,35,none⟩)) rfl J ?_;refine tnb 2 (.pointer (some ⟨X,35+k,none⟩)) rfl J ?_;refine tnd 3 (.int .u8 q1) rfl (.inl ⟨by rfl,fun w' qq=>by have c:World.cell? w' ⟨X,35+k,none⟩=some (.int .u8 q1):=(x3.out▸yZ zp.out ((V w' qq).blk (qd.b 1) id) qz.out K);go_simp⟩) J ?_;refine tna 4 (.int .i64 (k:Int)) rfl J ?_;refine tnb 5 (.pointer (some ⟨b7,35,none⟩)) rfl J ?_;refine tnb 6 (.pointer (some ⟨b7,35+k,none⟩)) rfl J ?_;refine tnd 7 (.int .u8 q1) rfl (.inl ⟨by rfl,fun w' qq=>by have c:World.cell? w' ⟨b7,35+k,none⟩=some (.int .u8 q1):=(x4.out▸yZ xl.out ((V w' qq).blk (qd.b 2) id) C.out K);go_simp⟩) J ?_;refine tnb 8 (.bool false) rfl J ?_;refine tna 9 (.bool false) rfl J ?_;refine tnc 10 undef rfl J ?_;refine tnc 11 undef rfl J ?_;refine tnc 12 undef rfl J ?_;refine tnc 13 undef rfl J ?_;refine tna 14 (.bool false) rfl J ?_;refine wpAnyH_done (by kernel_rfl) ?_ _;clear J V f qd;go_wp2
        go_roundw
        case rel=>exact⟨k+1,by omega,by go_num,b⟩
        case measure=>simp[intOf];omega
       ·have vd:q1≠q2:=fun e=>he (UInt8.toNat_inj.1 (by omega))
        have uj:(q1 == q2)=false:=by simp[vd]
        have uk:decide (q1=q2)=false:=decide_eq_false vd;have v4:Hid (nK U k=true):=O (decide_eq_true (by rw[←HU.out];exact q0.told A.1 K he));clear z1 z2;go_wp2_with fail;go_wp2_with fail;refine dwA aB (by kernel_rfl) ?_;intro wr S V f J qh;replace b:=O (b.keeps qh);clear qh;have qd:=b;refine tna 0 (.int .i64 (k:Int)) rfl J ?_;refine tnb 1 (.pointer (some ⟨X,35,none⟩)) rfl J ?_;refine tnb 2 (.pointer (some ⟨X,35+k,none⟩)) rfl J ?_;refine tnd 3 (.int .u8 q1) rfl (.inl ⟨by rfl,fun w' qq=>by have c:World.cell? w' ⟨X,35+k,none⟩=some (.int .u8 q1):=(x3.out▸yZ zp.out ((V w' qq).blk (qd.b 1) id) qz.out K);go_simp⟩) J ?_;refine tna 4 (.int .i64 (k:Int)) rfl J ?_;refine tnb 5 (.pointer (some ⟨b7,35,none⟩)) rfl J ?_;refine tnb 6 (.pointer (some ⟨b7,35+k,none⟩)) rfl J ?_;refine tnd 7 (.int .u8 q2) rfl (.inl ⟨by rfl,fun w' qq=>by have c:World.cell? w' ⟨b7,35+k,none⟩=some (.int .u8 q2):=(x4.out▸yZ xl.out ((V w' qq).blk (qd.b 2) id) C.out K);go_simp⟩) J ?_;refine tnb 8 (.bool true) rfl J ?_;refine tna 9 (.bool true) rfl J ?_;refine tna 10 (.int .i64 (k:Int)) rfl J ?_;refine tnd 11 (.pointer (some ⟨q5,k,none⟩)) rfl (.inl ⟨by rfl,fun _ _=>by have hq:¬((64:Int)≤(k:Int)):=(by omega);go_simp⟩) J ?_;refine tnd 12 (.bool true) rfl (.inl ⟨by rfl,fun w' qq=>by have c:World.cell? w' ⟨q5,k,none⟩=some (.bool true):=(v4.out▸aD (i:=k) ((V w' qq).blk (qd.b 0) id) (by rw[List.getElem?_toArray];exact G8 _ K));go_simp⟩) J ?_;refine tnd 13 (.bool false) rfl (.inl ⟨by rfl,fun _ _=>by go_simp⟩) J ?_;refine tna 14 (.bool false) rfl J ?_;refine wpAnyH_done (by kernel_rfl) ?_ _;clear J V f qd;go_wp2
        go_roundw
        case rel=>exact⟨k+1,by omega,by go_num,b⟩
        case measure=>simp[intOf];omega
      ·obtain rfl:k=64:=by omega
       go_wp2_with ((with_reducible show WL _ _);refine wpList_load_mid rfl 27 (.tmp 200) rfl X 0 rfl rc _ (zi.out▸jB (b.b 1) qz.out) aG rfl (szP9 xx) ?_)
       refine((by rw[←zi.out];exact yE b.ki v9 s q0.kept.ok (b.pv0 1):Ka wr (fW wr (eP 3 s)))).mono ?_;rintro e wr ⟨ta,ql,rfl,hq,L,zt,d⟩;have zk:=fW.row hq L zt;have z9:=O hq;obtain⟨ur,xe⟩:=zX9 ql.length
       have z7:Hid (ql.length≤1000):=O (by rw[zk.2];rw[←Nl q0.kept.ok 0];exact yV q0.kept.ok);obtain⟨ux,uy,rfl,-,-⟩:=(Rd.of_owns L).form;have zg:=O xe;rw[←zk.2,zg.out];rw[←zk.2,zg.out] at zk;have qj:=O zk.1;clear hq L zt zk xe;replace b:=O (b.keeps d);clear d
       go_wp2_with ((with_reducible show WL _ _);refine wpList_load_mid rfl 27 (.tmp 207) rfl b7 0 rfl pc _ (qe.out▸jB (b.b 2) C.out) aG rfl (szP9 zd) ?_)
       refine((by rw[←qe.out];exact Lc b.ki v t A.1.kept.ok (b.pv0 0) S9.txg:Ka wr (fW wr ((thr (aZ S9.txg) 3 t 0).map (·.1))))).mono ?_;rintro e ws ⟨tb,qr,rfl,hq,L,zt,d⟩;have zl:=fW.row hq L zt;have xb:=O hq;obtain⟨ut,xf⟩:=zX9 qr.length
       have x8:Hid (qr.length≤1000):=O (by rw[zl.2];rw[List.length_map];exact yV A.1.kept.ok);obtain⟨uz,u0,rfl,-,-⟩:=(Rd.of_owns L).form;have zh:=O xf;rw[←zl.2,zh.out];rw[←zl.2,zh.out] at zl;have qu:=O zl.1;clear hq L zt zl xf;replace b:=O (b.keeps d);replace qj:=O (qj.keep0 d);clear d
       have xy:Hid (∀x∈ql,x.2.addrs.length≤20):=O (fun x hx=>by
        rw[q0.cps x.2 (by rw[←z9.out];exact List.mem_map.2 ⟨x,hx,rfl⟩),A.2.2];decide)
       have vx:Hid (∀x∈qr,x.2.addrs.length≤20):=O (fun x hx=>by
        have h1:x.2∈(eP 3 t).filter (aZ S9.txg):=by rw[←A.1.newer,←xb.out];exact List.mem_map.2 ⟨x,hx,rfl⟩
        rw[A.1.cps x.2 (List.mem_filter.1 h1).1,A.2.2];decide)
       have vy:Hid (∀a∈eW ql,a ∉ eW qr):=O (fun a ha Y=>by
        obtain⟨x,hx,h2⟩:=List.mem_flatMap.1 Y;exact zz.fresh xo.kept.ok vu.out (by rw[AL z9.out] at ha;exact ha) (by rw[←xb.out];exact List.mem_map.2 ⟨x,hx,rfl⟩) A.1.kept.ok A.1.kept.aged h2)
       go_wp2_with fail;refine((by rw[←zg.out];have h:=qj.out;rw[←zg.out] at h;exact vY ws _ ql h z7.out xy.out:Ka ws (jF ws (dO (eW ql))))).mono ?_;rintro e wt ⟨av,rfl,L,d⟩;obtain⟨np,ve⟩:=zX9 ((dO (eW ql)).length)
       have x0:=O ve;obtain⟨pa,uu,rfl,-,-⟩:=(Rd.of_owns L).form;have zo:=O (Rd.of_owns L);rw[x0.out];have vr:Hid ((dO (eW ql)).length≤65536):=O (Nat.le_trans (rX _) (by have h1:=Cp xy.out;have h2:=z7.out;omega));clear L ve;replace b:=O (b.keeps d);replace qj:=O (qj.keep0 d);replace qu:=O (qu.keep0 d);clear d;go_wp2_with fail;refine((by rw[←zh.out];have h:=qu.out;rw[←zh.out] at h;exact vY wt _ qr h x8.out vx.out:Ka wt (jF wt (dO (eW qr))))).mono ?_;rintro e wu ⟨bv,rfl,L,d⟩;obtain⟨nq,vf⟩:=zX9 ((dO (eW qr)).length)
       have x1:=O vf;obtain⟨qa,uw,rfl,-,-⟩:=(Rd.of_owns L).form;have xm:=O (Rd.of_owns L);rw[x1.out];clear L vf;replace b:=O (b.keeps d);replace qj:=O (qj.keep0 d);replace qu:=O (qu.keep0 d);replace zo:=O (zo.keep d fun _ _=>id);clear d;go_wp2_with fail;refine((by rw[←x0.out,←x1.out];exact Nd wu _ _ (dO (eW ql)) (dO (eW qr)) (fun a ha=>qj.ok a (jC.1 ha)) (fun a ha=>qu.ok a (jC.1 ha)) zo.out xm.out vr.out:Ka wu (jF wu (dO ((dO (eW ql)).filter fun x=>decide (x∈dO (eW qr))))))).mono ?_;rintro e wv ⟨zv,rfl,L,d⟩;rw[Lz vy.out] at L;obtain⟨za,zc,rfl,-,-⟩:=(Rd.of_owns L).form;clear L;replace b:=O (b.keeps d);replace qj:=O (qj.keep0 d);replace qu:=O (qu.keep0 d);replace zo:=O (zo.keep d fun _ _=>id);replace xm:=O (xm.keep d fun _ _=>id);clear d;have HP:=O (b.fin zm.out qb.out);clear b;go_wp2;go_ret;exact⟨rfl,HP.out⟩
end
section
open Go.ChangeShapes Go.WideShapes Go.ChangeAt Go.RowKit
theorem zF(os:Os)(g:os.Started)(H:Type)(enc:TypeId×Value->H) :
 ReturnsInHanded {} Tryz.checked os 5 .any (Rows.walkUnlikeSpec.pre6 enc prog f5 Rows.walkUnlikeRow.domain false) (Rows.walkUnlikeSpec.post enc prog f5 false true false false):=by
 refine returnsInHanded_of_change (C:=Tryz.checked) own g (by kernel_rfl) func5
  (ChangeSpec.witness6 (enc:=enc) (C:=Tryz.checked) false ⟨#[],#[.slice none 0 0,.slice none 0 0],[]⟩ 64 (by kernel_rfl) (by kernel_rfl) (by kernel_rfl) (by kernel_rfl)) ?_
 intro W base args X gs E d N P _;have c:∀(j:Nat) t v,f5.params[j]?=some t->args[j]?=some v->Value.okWide prog W .any base t v:=d;have F:=N;obtain⟨p,q,o,hV,rfl,qa,qb⟩:=N;have M:DataW.TrodAll enc prog W 0 (fun _=>true) true f5.params.toList args.toList X p:=o;rw[params5] at M c;obtain⟨S,qc,d0,Y,p0,q0,a,rfl,rfl,h0,r0⟩:=trodAll_cons M;obtain⟨T,qd,d1,Z,p1,q1,b,rfl,rfl,L,r1⟩:=trodAll_cons r0;obtain⟨D,rfl,rfl⟩:=trodAll_nil r1;obtain rfl:args=#[S,T]:=by apply Array.toList_inj.1;rw[a];simp only[b,D]
 clear a b D;obtain⟨rfl,rfl⟩:=trodVars_none hV;obtain⟨U,f,k,rfl⟩:=okWide_slice underlying57 (c 0 57 S rfl rfl);obtain⟨V,len1,n,rfl⟩:=okWide_slice underlying57 (c 1 57 T rfl rfl);have Q:=h0;have J:∀x∈p0,x.block<W.heap.size:=by obtain⟨m,I⟩:=Q;exact DataW.trod_lt m _ _ _ I
 have R:=L;have K:∀x∈p1,x.block<W.heap.size:=by obtain⟨m,I⟩:=R;exact DataW.trod_lt m _ _ _ I
 clear o d c
 obtain⟨l0,r,u,A⟩:∃l:List GrV,l.length=f/\(∀y∈l,AQ y)/\Rd W 5 (.slice U f k) f (yY l):=by
  obtain⟨xT,G⟩:=h0;exact Aa (by simpa [Value.cells] using G)
 subst r
 obtain⟨l1,s,z,B⟩:∃l:List GrV,l.length=len1/\(∀y∈l,AQ y)/\Rd W 5 (.slice V len1 n) len1 (yY l):=by
  obtain⟨xT,G⟩:=L;exact Aa (by simpa [Value.cells] using G)
 subst s;refine(BL W _ l0 u A _ l1 z B).mono fun e W' ⟨he,hk⟩=>?_
 subst he;have i:=hk.below;exact⟨_,rfl,_,_,_,[],_,[],F,trodAll_mk1 (shut_bool underlying4 _),(trodAll_cons_mk (Below.trod Hc (by kernel_rfl) (of_decide_eq_true (by kernel_rfl)) Q i J) (trodAll_cons_mk (Below.trod Hc (by kernel_rfl) (of_decide_eq_true (by kernel_rfl)) R i K) trodAll_mk0)),rfl,i.frame _,fun h=>by cases h⟩
theorem cY{a b:Bool}(h:a=true)(k:b=true):(a && b)=true:=by rw[h,k];rfl
theorem cl0:(Rows.walkUnlikeRow.wf (OpenSpec.ofChange Rows.walkUnlikeSpec))=true:=by kernel_rfl
theorem cl1:(laidOutB Tryz.pinned.checked.prog)=true:=by kernel_rfl
theorem cl2:(mapsRowed Tryz.pinned.checked.prog)=true:=by kernel_rfl
theorem cl3:(f5.params.all (Tryz.pinned.checked.prog.readableRec ·))=true:=by kernel_rfl
theorem cl4:(namedTie Tryz.pinned.checked.prog Rows.walkUnlikeRow.named Rows.walkUnlikeSpec.vars)=true:=by kernel_rfl
theorem cl5:(Rows.walkUnlikeRow.stops == [])=true:=by kernel_rfl
theorem cl6:(Tryz.pinned.checked.prog.stops == [])=true:=by kernel_rfl
theorem cl7:(Rows.walkUnlikeRow.knobs == [])=true:=by kernel_rfl
theorem cl8:(Tryz.pinned.checked.prog.stopKnobs == [])=true:=by kernel_rfl
theorem cl9:(Rows.walkUnlikeRow.inPlace == Tryz.pinned.checked.prog.inPlace 5)=true:=by kernel_rfl
theorem QJ:(Rows.walkUnlikeRow.unfollowed == Tryz.pinned.checked.prog.unfollowed 5)=true:=by kernel_rfl
theorem QK:(Rows.walkUnlikeRow.recurses == Tryz.pinned.checked.prog.recurses 5)=true:=by kernel_rfl
theorem QL:(Rows.walkUnlikeRow.named == Tryz.pinned.checked.prog.varsNamed 5)=true:=by kernel_rfl
theorem QM:(Rows.walkUnlikeRow.maps == (f5.params.toList++Rows.walkUnlikeSpec.plain.varTypes Tryz.pinned.checked.prog).any (Tryz.pinned.checked.prog.mapsRec ·))=true:=by kernel_rfl
theorem QN:(Rows.walkUnlikeRow.ifaces == (f5.params.toList++Rows.walkUnlikeSpec.plain.varTypes Tryz.pinned.checked.prog).any (Tryz.pinned.checked.prog.ifacesRec ·))=true:=by kernel_rfl
theorem QO:(Rows.walkUnlikeRow.mapsOut == Tryz.pinned.checked.prog.mapsAmong f5.resultTypes.toList)=true:=by kernel_rfl
theorem QP:(Rows.walkUnlikeRow.loops == (f5.params.toList++Rows.walkUnlikeSpec.plain.varTypes Tryz.pinned.checked.prog).any (Tryz.pinned.checked.prog.loopsFrom ·))=true:=by kernel_rfl
theorem QQ:(Rows.walkUnlikeRow.wideKeys == ((f5.params.toList++Rows.walkUnlikeSpec.plain.varTypes Tryz.pinned.checked.prog)++f5.resultTypes.toList).any (Tryz.pinned.checked.prog.wideKeysFrom ·))=true:=by kernel_rfl
theorem QR:(Rows.walkUnlikeSpec.vars.all (Tryz.pinned.checked.prog.varReadable ·))=true:=by kernel_rfl
theorem QS:(f5.resultTypes.all (fun t=>Tryz.pinned.checked.prog.readableRec t && decide (t<Tryz.pinned.checked.prog.types.size)))=true:=by kernel_rfl
theorem QT:(Rows.walkUnlikeRow.ifacesOut == f5.resultTypes.toList.any (Tryz.pinned.checked.prog.ifacesRec ·))=true:=by kernel_rfl
theorem QU:(Rows.walkUnlikeRow.loopsOut == f5.resultTypes.toList.any (Tryz.pinned.checked.prog.loopsFrom ·))=true:=by kernel_rfl
theorem QV:(Rows.walkUnlikeRow.plainKeys == Tryz.pinned.checked.prog.plainKeys)=true:=by kernel_rfl
theorem QW:(Rows.walkUnlikeRow.shortTexts.isNone)=true:=by kernel_rfl
theorem QX:(Tryz.pinned.checked.prog.stopsHeard)=true:=by kernel_rfl
theorem QY:(Tryz.pinned.checked.prog.mayEnter)=true:=by kernel_rfl
theorem QZ:(Rows.walkUnlikeRow.lifted == Tryz.pinned.checked.prog.liftsFinal)=true:=by kernel_rfl
theorem Q0:(Tryz.pinned.checked.prog.make == some Rows.walkUnlikeRow.make)=true:=by kernel_rfl
theorem Q1:(Rows.walkUnlikeRow.kinds == (if Rows.walkUnlikeRow.domain.isEmpty then [] else f5.params.toList.map fun t=>match Tryz.pinned.checked.prog.underlying t with|some (.int k)=>some k|_=>none))=true:=by kernel_rfl
theorem Q2:(Rows.walkUnlikeRow.pinned == Rows.walkUnlikeRow.pinnedBy)=true:=by kernel_rfl
theorem Q3:(Rows.walkUnlikeRow.veiled == ((f5.params.toList++Rows.walkUnlikeSpec.plain.varTypes Tryz.pinned.checked.prog)++f5.resultTypes.toList).any (Tryz.pinned.checked.prog.veiledRec ·))=true:=by kernel_rfl
theorem Q4:(Rows.walkUnlikeRow.veiledFits Tryz.pinned.checked.prog f5.params.toList ((f5.params.toList++Rows.walkUnlikeSpec.plain.varTypes Tryz.pinned.checked.prog)++f5.resultTypes.toList))=true:=by kernel_rfl
theorem zG:joinedFacts Tryz.pinned.checked.prog 5 f5 Rows.walkUnlikeSpec Rows.walkUnlikeRow=true:=by
 unfold joinedFacts;exact(cY (cY (cY (cY (cY (cY (cY (cY (cY (cY (cY (cY (cY (cY (cY (cY (cY (cY (cY (cY (cY (cY (cY (cY (cY (cY (cY (cY (cY (cY (cY cl0 cl1) cl2) cl3) cl4) cl5) cl6) cl7) cl8) cl9) QJ) QK) QL) QM) QN) QO) QP) QQ) QR) QS) QT) QU) QV) QW) QX) QY) QZ) Q0) Q1) Q2) Q3) Q4)
theorem BM:f5.isWrapper Tryz.pinned.checked.prog Rows.walkUnlikeRow.wrapper Rows.walkUnlikeRow.mainSum:=by unfold Func.isWrapper;first|(rw[if_pos (by decide +kernel)];kernel_rfl)|(rw[if_neg (by decide +kernel)];exact⟨rfl,rfl⟩)
theorem AR:Tryz.pinned.checked.prog.funcNamed Rows.walkUnlikeRow.func=some 5:=by kernel_rfl
theorem walkUnlike_proved:Rows.WalkUnlikeSaid:=
 OpenClaim.holds_of_wide 5 f5 rfl rfl rfl rfl rfl rfl rfl ⟨rfl,rfl,rfl,rfl,rfl⟩ rfl rfl rfl rfl rfl AR func5 zG (of_decide_eq_true (by kernel_rfl)) BM
  (fun os a H enc _=>zF os a H enc)
end
end Go.Proofs.YtiinnfhjpaeffaaGreat
