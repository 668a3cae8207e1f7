import Derived.Test.YtoeinblfcbpcmaaGreatDoorC18
import Derived.Lib.SlBytesConst
namespace Go.Proofs.YtoeinblfcbpcmaaGreatDoor
open Tryz
set_option maxHeartbeats 0
set_option maxRecDepth 100000
set_option linter.unusedVariables false
section
open Go.RowKit Go.Maps Go.ChangeMaps
def pL:List UInt8:=[67,65,85,76,75,69,82,50]
def ubW(u:Ub):Nat->List UInt8
 | 0=>pL
 | 1=>u.pool
 | 2=>be u.txg.toNat 5
 | 3=>be u.len.toNat 3
 | 4=>cC u.root
 | _=>List.replicate 129 0
def ubS(u:Ub):Nat->List UInt8
 | 0=>[]
 | k+1=>ubS u k++ubW u k
def jQ(u:Ub):List UInt8:=ubS u 6
def aY(u:Ub):List UInt8:=if u.may then jQ u++bU (jQ u) else []
variable{u:Ub}{k base p:Nat}{uv pv v:Value}{w:World}
theorem rN(a:u.pool.length=32)(b:u.root.sum.length=32):(ubS u 0).length=0/\(ubS u 1).length=8/\(ubS u 2).length=40/\(ubS u 3).length=45/\(ubS u 4).length=48/\(ubS u 5).length=95/\(ubS u 6).length=224:=by
 have h:=lM b;simp[ubS,ubW,pL,bK,a,h]
theorem oG(a:u.pool.length=32)(b:u.root.sum.length=32)(l:k≤6):(ubS u k).length≤224:=by
 obtain⟨c,d,e,f,g,i,j⟩:=rN a b;have h:k=0\/k=1\/k=2\/k=3\/k=4\/k=5\/k=6:=by omega
 rcases h with rfl|rfl|rfl|rfl|rfl|rfl|rfl<;>omega
theorem BE(a:u.pool.length=32)(b:u.root.sum.length=32):(jQ u).length=224:=(rN a b).2.2.2.2.2.2
theorem xZ(a:u.pool.length=32)(b:u.root.sum.length=32)(c:u.may=true):(aY u).length=256:=by
 unfold aY;rw[c,if_pos rfl,List.length_append,BE a b,dB]
theorem mJ(h:u.may=true):1≤u.txg/\u.txg≤2147483648/\0≤u.len/\u.len≤16384/\u.root.may=true:=by
 unfold Ub.may at h;simp only[Bool.and_eq_true,Bool.or_eq_true,decide_eq_true_eq] at h;obtain⟨⟨⟨⟨a,b⟩,c⟩,d⟩,e⟩:=h;refine⟨a,b,c,d,?_⟩;rcases e with e|e
 ·exact EI e
 ·exact e.1.1
theorem tY(a:u.pool.length=32)(b:u.root.sum.length=32)(c:k<6):wst (ubS u k,0) (ubW u k,0)=(ubS u (k+1),0):=by
 have h:=oG a b (k:=k+1) (by omega);show _=(ubS u k++ubW u k,(0:Int));refine nB _ _ ?_;rw[←List.length_append];show (ubS u (k+1)).length≤_;omega
theorem Ps(h:u.may=true):eV u.txg 5=(ubW u 2,0):=by
 have:=mJ h;exact kM (by omega) (by omega) (by omega) (by simp;omega)
theorem Pu(h:u.may=true):eV u.len 3=(ubW u 3,0):=by
 have:=mJ h;exact kM (by omega) (by omega) (by omega) (by simp;omega)
theorem Qs(a:u.pool.length=32)(b:u.root.sum.length=32):jO 224 (ubS u 5)=(ubW u 5,0):=by
 have h:=(rN a b).2.2.2.2.2.1;unfold jO;rw[h,if_neg (by omega)];rfl
theorem Pv(w:World)(l:List UInt8)(t:TypeId)(a:Nat×Nat)(h:l.length≤maxLen):Rd (w.alloc (.cells (l.map vb).toArray t a)) 1 (.slice (w.heap.size) l.length l.length) l.length (l.map vb):=by
 refine⟨by simp,_,_,rfl,Nat.le_refl _,h,(by intro h;cases h),fun _=>⟨_,0,rfl,fun i u b=>?_⟩⟩;rw[Nat.zero_add];exact aC (heap_alloc_new _ _) (by rw[List.getElem?_toArray];exact b)
theorem NA{m d f:World}{n:Nat}{r:Value}{l g:List Value}{o:Obj}(q:m.ownsRow base 5 1 r n l)(a:aA aB m d)
 (j:f.heap[d.heap.size]?=some (.cells (spl (Array.replicate 32 (.int .u8 0)) 0 g) 31 (0,0))) (c:aA (fun k=>k=d.heap.size) (d.alloc o) f) (b:g.length=32) :
 f.ownsRow base 5 1 r n l/\Rd f 1 (.slice (d.heap.size) 32 32) 32 g/\aA aB m f:=by
 refine⟨?_,?_,(a.alloc o).tT c (fun i y e=>by have:=a.size;omega)⟩
 ·refine c.owns ((a.alloc o).owns q fun _ _=>id) (fun k t e=>?_)
  obtain⟨cur,s⟩:=aH (a.owns q fun _ _=>id) t;have:=lt_of_block s;omega
 ·refine⟨by simpa using b,_,32,rfl,Nat.le_refl _,by unfold maxLen;omega,(by intro h;cases h),fun _=>⟨_,0,rfl,fun i u x=>?_⟩⟩
  rw[Nat.zero_add];refine aC j ?_;rw[aI _ _ (by simpa using b)]
  simpa using x
def yA(w:World)(u:Ub)(e:Ending)(a:World):Prop:=
 ∃v,e=.returned (.tuple #[v,.int .i64 (if u.may then 0 else 2)])/\a.ownsRow w.heap.size 5 1 v (aY u).length ((aY u).map vb)/\aA aB w a
def Fm(w:World)(u:Ub)(e:Ending)(a:World):Prop:=
 ∃v,e=.returned (.tuple #[v,.int .i64 (if u.may then 0 else 2)])/\a.ownsRow w.heap.size 5 1 v (aY u).length ((aY u).map vb)/\aA aB w a/\Fit IsB a v
theorem Lk{wr:World}{b:Nat}(a:u.pool.length=32)(d:u.root.sum.length=32)(e:wr.heap[b]?=some (.cells (aV uv u).toArray 71 (0,0))) :
 Rd wr 1 (.slice (some ⟨b,37,none⟩) 32 32) u.pool.length (u.pool.map vb):=by
 obtain⟨-,-,-,c⟩:=gI d (aD e);rw[Nat.zero_add] at c;refine⟨by simp,_,32,by rw[a],by rw[a];omega,by unfold maxLen;omega,(by intro h;cases h),fun _=>⟨b,37,rfl,fun i u f=>?_⟩⟩;exact c i u f
structure UkW(w wr:World)(u:Ub)(uv pv:Value)(base p k:Nat):Prop where
 blk:wr.heap[w.heap.size]?=some (.cells (aV uv u).toArray 71 (0,0))
 wrt:∃v,Wr wr base p v (ubS u k) 0
 rd:Rd wr 1 pv (cC u.root).length ((cC u.root).map vb)
 pl:∀i,pv.ownBlock=some i->i<base
 keep:aA aB w wr
 le:w.heap.size<base
theorem UkW.same{wr w':World}(h:UkW w wr u uv pv base p k)(a:aA aB wr w'):UkW w w' u uv pv base p k:=
 ⟨a.blk h.blk id,by obtain⟨v,b⟩:=h.wrt;exact⟨v,b.keep a id (fun _ _=>id)⟩,h.rd.keep a (fun _ _=>id),h.pl,h.keep.trans a,h.le⟩
theorem UkW.next{wr j:World}{e:Ending}(h:UkW w wr u uv pv base p k)(g:Wr wr base p v (ubS u k) 0)(l:dR wr base p v (ubS u (k+1),0) e j):UkW w j u uv pv base p (k+1):=by
 obtain⟨-,m,f,d,-⟩:=l
 have a:∀i,i<base->¬(i=p\/v.ownBlock=some i):=by
  rintro i c (rfl|b)
  ·have:=g.le;omega
  ·have:=bG g.own b;omega
 exact⟨d.blk h.blk (a _ h.le),⟨m,f⟩,h.rd.keep d (fun i c=>a i (h.pl i c)),h.pl,h.keep.tT d (fun i c b=>a i (by have:=h.le;omega) b),h.le⟩
theorem IX(h:PtV w v u.root)(d:u.root.may=true)(a:World)(k:aA aB w a):Calls prog 203 #[.agg (aL v u.root).toArray] a fun e c =>
 ∃x,e=.returned (.tuple #[x,.int .i64 0])/\c.ownsRow a.heap.size 5 1 x (cC u.root).length ((cC u.root).map vb)/\aA aB a c:=by
 refine(CY a v u.root (h.keep k fun _ _=>id)).mono ?_;rintro e c ⟨x,rfl,b,f⟩;unfold ptB at b;rw[d,if_pos rfl] at b;exact⟨x,by rw[d];rfl,b,f⟩
theorem NB(w:World)(v:Value)(u:Ub)(h0:UbV w v u)(t:u.may=false):Calls prog 139 #[.agg (aV v u).toArray] w (Fm w u):=by
 obtain⟨m,g,G,-,-⟩:=h0.root.rd.form;subst G;obtain⟨n,F⟩:=zX9 u.root.addrs.length
 rw[F] at h0 ⊢;have I:=O h0.pool;have D:=O h0.root.sum;have z:=O t;obtain⟨B,y,b,a,i⟩:=aM w (aV (.slice m n g) u).toArray 71;have d:=O (uW B (.slice m n g) u (h0.keep b fun _ _=>id));unfold rF at d;rw[t] at d;have o:=O a;have f:=O (aD a);obtain⟨-,A,-,-⟩:=gI h0.root.sum (aD a);have r:=O A;have s:(aL (.slice m n g) u.root).length=35:=bB h0.root.sum;have l:(aV (.slice m n g) u).length=69:=bZ h0.root.sum h0.pool;obtain⟨H,c⟩:=zX9 (aV (.slice m n g) u)
 have E:=O c;have C:=O b;have j:B.heap.size=w.heap.size+1:=i;rw[c] at y f d l ⊢;clear h0 t c a o A b i j r s;go_in
 go_wp2_with (first
  | ((with_reducible show WL _ (.load 71 (.tmp 1)));refine aP (by rfl) 71 (.tmp 1) rfl (w.heap.size) 0 rfl H _ f.out cP rfl (cR l) ?_))
 refine d.mono ?_;rintro e J ⟨rfl,h⟩;have q:=O (C.trans h);clear h d;go_wp2
 go_ret2
 refine⟨_,by rw[z.out];rfl,?_,q.out,Fit.nil _ _⟩;rw[show aY u=[] by unfold aY;rw[z.out];rfl];exact World.ownsRow_nil _ _ _ _
theorem Ll(w:World)(v:Value)(u:Ub)(h0:UbV w v u)(hm:u.may=true):Calls prog 139 #[.agg (aV v u).toArray] w (Fm w u):=by
 obtain⟨Z,S,hv,-,-⟩:=h0.root.rd.form;subst hv;obtain⟨n,hn⟩:=zX9 u.root.addrs.length
 rw[hn] at h0 ⊢;have d:=O h0.pool;have a:=O h0.root.sum;have HM:=O hm;obtain⟨w1,zi,V,j,qr⟩:=aM w (aV (.slice Z n S) u).toArray 71;have HC:=O (uW w1 (.slice Z n S) u (h0.keep V fun _ _=>id));unfold rF at HC;rw[hm] at HC;have qa:=O j;have qi:=O (aD j);obtain⟨-,r0,-,-⟩:=gI h0.root.sum (aD j);have A:=O r0;have qn:(aL (.slice Z n S) u.root).length=35:=bB h0.root.sum;have qu:(aV (.slice Z n S) u).length=69:=bZ h0.root.sum h0.pool;obtain⟨uc,Y⟩:=zX9 (aV (.slice Z n S) u)
 have zl:=O Y;have HK:=O V;have qt:w1.heap.size=w.heap.size+1:=qr;have I:=O (IX (u:=u) h0.root (mJ hm).2.2.2.2);have qq:=lM h0.root.sum;obtain⟨pc,qp⟩:=zX9 (aL (.slice Z n S) u.root)
 have zb:=O qq;have kc:=fun(w:World) (C:Array Value) (n c:Nat)=>Lib.run_convert_bytes_const (P:=prog) w 22 5 C n c underlying22 underlying5
 rw[Y] at zi qi HC qu ⊢;rw[qp] at A qn I;clear h0 hm Y qp j r0 V qr qq;go_in
 go_wp2_with (first
  | ((with_reducible show WL _ (.load 71 (.tmp 1)));refine aP (by rfl) 71 (.tmp 1) rfl (w.heap.size) 0 rfl uc _ qi.out cP rfl (cR qu) ?_))
 refine HC.mono ?_;rintro e w2 ⟨rfl,s⟩;have qg:=O (HK.trans s);have A:=O (s.rangeAt A.out);have qc:=O (s.blk qa.out id);have zf:w1.heap.size≤w2.heap.size:=s.size;clear s HC qa
 go_wp2_with (first
  | ((with_reducible show WL _ (.load 33 (.tmp 16)));refine aP (by rfl) 33 (.tmp 16) rfl (w.heap.size) 1 rfl pc _ A.out bJ rfl (cI qn) ?_))
 refine(I _ qg.out).mono ?_;rintro e w3 ⟨pv,rfl,W,D⟩;obtain⟨ap,cp,rfl,-,-⟩:=(Rd.of_owns W).form;have qd:=O (D.blk qc.out id);have J:=O W;have z:=O (qg.trans D);have zg:w2.heap.size≤w3.heap.size:=D.size;clear D W I qc;go_wp2_with fail;refine(GS _).mono ?_;rintro e w4 ⟨p,rfl,q3,E,hp⟩;have U0:Hid (UkW w w4 u (.slice Z n S) (.slice ap (cC u.root).length cp) w3.heap.size p 0):=O ⟨E.blk qd.out id,⟨_,q3⟩,(Rd.of_owns J.out).keep E (fun _ _=>id),fun i hi=>by obtain⟨cur,hc⟩:=aH J.out hi;exact lt_of_block hc,z.trans E,by omega⟩;have HS:=O (show w.heap.size≤w3.heap.size by omega);clear q3 E hp qd J z qt zf zg;go_wp2_with fail;have U0:=O (U0.out.same (w':=w4.alloc (.cells (pL.map vb).toArray 5 (8,9))) ((aA.refl _ _).alloc _));obtain⟨v0,qv⟩:=U0.out.wrt;have K:=O qv;clear qv;refine(tN p _ pL _ _ _ _ 0 K.out (Nat.le_trans (oG d.out a.out (k:=0) (by omega)) (by omega)) (Pv w4 pL 5 (8,9) (by decide)) (by decide)).mono ?_;rintro e w5 b;rw[show (pL,(0:Int))=(ubW u 0,0) from rfl,tY d.out a.out (by omega)] at b;have U1:=O (U0.out.next K.out b);obtain rfl:=b.1;clear b U0 K kc;obtain⟨v1,qw⟩:=U1.out.wrt;have L:=O qw;clear qw;go_wp2_with fail;refine(tN p _ u.pool _ _ _ _ 0 L.out (Nat.le_trans (oG d.out a.out (k:=1) (by omega)) (by omega)) (Lk d.out a.out U1.out.blk) (by rw[d.out];omega)).mono ?_;rintro e w6 b;rw[show (u.pool,(0:Int))=(ubW u 1,0) from rfl,tY d.out a.out (by omega)] at b;have U2:=O (U1.out.next L.out b);obtain rfl:=b.1;clear b U1 L;obtain⟨v2,qx⟩:=U2.out.wrt;have M:=O qx;clear qx;obtain⟨c0,-,c2,-⟩:=gI a.out (aD U2.out.blk);simp only[Nat.zero_add] at c0 c2;go_wp2_with fail;refine(nX p u.txg 5 _ _ _ _ 0 M.out (Nat.le_trans (oG d.out a.out (k:=2) (by omega)) (by omega))).mono ?_;rintro e w7 b;rw[Ps HM.out,tY d.out a.out (by omega)] at b;have U3:=O (U2.out.next M.out b);obtain rfl:=b.1;clear b U2 M c0 c2;obtain⟨v3,qy⟩:=U3.out.wrt;have N:=O qy;clear qy;obtain⟨c0,-,c2,-⟩:=gI a.out (aD U3.out.blk);simp only[Nat.zero_add] at c0 c2;go_wp2_with fail;refine(nX p u.len 3 _ _ _ _ 0 N.out (Nat.le_trans (oG d.out a.out (k:=3) (by omega)) (by omega))).mono ?_;rintro e w8 b;rw[Pu HM.out,tY d.out a.out (by omega)] at b;have U4:=O (U3.out.next N.out b);obtain rfl:=b.1;clear b U3 N c0 c2;obtain⟨v4,qz⟩:=U4.out.wrt;have Q:=O qz;clear qz;go_wp2_with fail;refine(tN p _ (cC u.root) _ _ _ _ 0 Q.out (Nat.le_trans (oG d.out a.out (k:=4) (by omega)) (by omega)) U4.out.rd (by rw[zb.out];omega)).mono ?_;rintro e w9 b;rw[show (cC u.root,(0:Int))=(ubW u 4,0) from rfl,tY d.out a.out (by omega)] at b;have U5:=O (U4.out.next Q.out b);obtain rfl:=b.1;clear b U4 Q;obtain⟨v5,q0⟩:=U5.out.wrt;have R:=O q0;clear q0;go_wp2_with fail;refine(GT p 224 _ _ _ _ 0 R.out (Nat.le_trans (oG d.out a.out (k:=5) (by omega)) (by omega))).mono ?_;rintro e t b;rw[Qs d.out a.out,tY d.out a.out (by omega)] at b;have U6:=O (U5.out.next R.out b);obtain rfl:=b.1;clear b U5 R;obtain⟨v6,q1⟩:=U6.out.wrt;have B:=O q1;clear q1;have y:=O (BE d.out a.out);have B:Hid (Wr t w3.heap.size p v6 (jQ u) 0):=B;have qh:=O U6.out.keep;clear U6;go_wp2_with fail;refine(GX p t _ v6 _ 0 B.out (by rw[y.out];omega)).mono ?_;rintro e zj ⟨zm,rfl,l,r,q⟩;rw[if_pos rfl] at l;have X:=Rd.of_owns l;obtain⟨a3,c3,rfl,-,-⟩:=X.form;have HO:=O l;have HR:=O X;have q5:=O q;have z:=O (qh.trans r);have ql:=r.size;have ze:w.heap.size≤t.heap.size:=qh.size;clear l X r q B;go_wp2_with fail;refine(yX _ (jQ u) zj HR.out (by rw[y.out];omega)).mono ?_;rintro e q4 ⟨rfl,G⟩;obtain⟨T,o⟩:=zX9 ((bU (jQ u)).map vb)
 have U:T.length=32:=by rw[←o];simp[dB]
 have qj:∀u∈T,u.oneCell'=true:=by rw[←o];exact bA _
 rw[o];have qe:=O o;have qf:=O G;clear o G
 go_wp2_with (first
  | (refine aG rfl 31 rfl jP mX (Array.replicate 32 (.int .u8 0)) rfl ?_)
  | ((with_reducible show WL none (.store 31 (.tmp 9) (.tmp 55)));refine aE rfl 31 (.tmp 9) (.tmp 55) rfl q4.heap.size 0 T rfl rfl _ _ (heap_alloc_new _ _) (by rw[U];simp) (by rw[U];exact fZ) qj ?_;intro zk F H;have m:=O (NA HO.out qf.out F H U);have zh:t.heap.size≤zk.heap.size:=Nat.le_trans ql m.2.2.size;clear F H)
  | (at_builtin;refine lI rfl (.tmp 56) (.tmp 57) 22 rfl t.heap.size 5 _ 1 1 underlying22 eW rfl (by omega) (.slice a3 (jQ u).length c3) (jQ u).length _ rfl m.1 (.slice (q4.heap.size) 32 32) 32 T rfl m.2.1 qj (by unfold maxLen;have:=y.out;omega) (by have:=y.out;omega) zh IsB AG (by rw[←qe.out];exact Co _) (q5.keep m.2.2 (fun g hg=>⟨by obtain⟨cur,hc⟩:=aH HO.out hg;exact lt_of_block hc,id⟩)) ?_;intro zn zo f qm qo zd qk;obtain⟨a6,c6,rfl,-,-⟩:=(Rd.of_owns f).form;have za:=O f;have q9:=O qm;have q7:=O qk;clear f qm qo zd qk))
 go_ret2
 refine⟨_,by rw[HM.out];rfl,?_,?_,by simpa using q7.out⟩
 ·have b:(aY u).length=(jQ u).length+32:=by unfold aY;rw[HM.out];simp[dB]
  have h2:(aY u).map vb=(jQ u).map vb++T:=by unfold aY;rw[HM.out,←qe.out];simp
  rw[b,h2];exact aQ za.out ze
 ·exact(z.trans m.2.2).tT q9.out (fun i hi e=>by have:=bG HO.out e;omega)
theorem Lm(w:World)(v:Value)(u:Ub)(h0:UbV w v u):Calls prog 139 #[.agg (aV v u).toArray] w (Fm w u):=by
 rcases a:u.may with _|_
 ·exact NB w v u h0 a
 ·exact Ll w v u h0 a
theorem yB(w:World)(v:Value)(u:Ub)(h0:UbV w v u):Calls prog 139 #[.agg (aV v u).toArray] w (yA w u):=
 (Lm w v u h0).mono fun _ _ ⟨v,a,b,c,_⟩=>⟨v,a,b,c⟩
end
end Go.Proofs.YtoeinblfcbpcmaaGreatDoor
