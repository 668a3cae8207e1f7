import Derived.Test.YtoeinblfcbpcmaaGreatR17
import Derived.Lib.SlBytesConst
namespace Go.Proofs.YtoeinblfcbpcmaaGreat
open Tryz
set_option maxHeartbeats 0
set_option maxRecDepth 100000
set_option linter.unusedVariables false
section
open Go.RowKit Go.Maps Go.ChangeMaps
def tV:List UInt8:=[67,65,85,76,75,69,82,50]
def ubW(u:Ub):Nat->List UInt8
 | 0=>tV
 | 1=>u.pool
 | 2=>be u.txg.toNat 5
 | 3=>be u.len.toNat 3
 | 4=>cJ u.root
 | _=>List.replicate 129 0
def ubS(u:Ub):Nat->List UInt8
 | 0=>[]
 | k+1=>ubS u k++ubW u k
def lL(u:Ub):List UInt8:=ubS u 6
def jG(u:Ub):List UInt8:=if u.may then lL u++dB (lL u) else []
variable{u:Ub}{k base p:Nat}{uv pv v:Value}{w:World}
theorem AB(a:u.pool.length=32)(b:u.root.sum.length=32):(ubS u 0).length=0/\(ubS u 1).length=8/\(ubS u 2).length=40/\(ubS u 3).length=45/\(ubS u 4).length=48/\(ubS u 5).length=95/\(ubS u 6).length=224:=by
 have h:=fB b;simp[ubS,ubW,tV,bJ,a,h]
theorem oD(a:u.pool.length=32)(b:u.root.sum.length=32)(l:k≤6):(ubS u k).length≤224:=by
 obtain⟨c,d,e,f,g,i,j⟩:=AB a b;have h:k=0\/k=1\/k=2\/k=3\/k=4\/k=5\/k=6:=by omega
 rcases h with rfl|rfl|rfl|rfl|rfl|rfl|rfl<;>omega
theorem BD(a:u.pool.length=32)(b:u.root.sum.length=32):(lL u).length=224:=(AB a b).2.2.2.2.2.2
theorem LD(a:u.pool.length=32)(b:u.root.sum.length=32)(c:u.may=true):(jG u).length=256:=by
 unfold jG;rw[c,if_pos rfl,List.length_append,BD a b,cZ]
theorem yA(h:u.may=true):1≤u.txg/\u.txg≤2147483648/\0≤u.len/\u.len≤16384/\u.root.may=true:=by
 unfold Ub.may at h;simp only[Bool.and_eq_true,Bool.or_eq_true,decide_eq_true_eq] at h;obtain⟨⟨⟨⟨a,b⟩,c⟩,d⟩,e⟩:=h;refine⟨a,b,c,d,?_⟩;rcases e with e|e
 ·exact kA e
 ·exact e.1.1
theorem tW(a:u.pool.length=32)(b:u.root.sum.length=32)(c:k<6):wst (ubS u k,0) (ubW u k,0)=(ubS u (k+1),0):=by
 have h:=oD a b (k:=k+1) (by omega);show _=(ubS u k++ubW u k,(0:Int));refine mN _ _ ?_;rw[←List.length_append];show (ubS u (k+1)).length≤_;omega
theorem Pr(h:u.may=true):eT u.txg 5=(ubW u 2,0):=by
 have:=yA h;exact kC (by omega) (by omega) (by omega) (by simp;omega)
theorem Ps(h:u.may=true):eT u.len 3=(ubW u 3,0):=by
 have:=yA h;exact kC (by omega) (by omega) (by omega) (by simp;omega)
theorem Qt(a:u.pool.length=32)(b:u.root.sum.length=32):jJ 224 (ubS u 5)=(ubW u 5,0):=by
 have h:=(AB a b).2.2.2.2.2.1;unfold jJ;rw[h,if_neg (by omega)];rfl
theorem Pu(w:World)(l:List UInt8)(t:TypeId)(fr:Nat×Nat)(h:l.length≤maxLen):Rd (w.alloc (.cells (l.map vb).toArray t fr)) 1 (.slice (w.heap.size) l.length l.length) l.length (l.map vb):=by
 refine⟨by simp,_,_,rfl,Nat.le_refl _,h,(by intro h;cases h),fun _=>⟨_,0,rfl,fun i u a=>?_⟩⟩;rw[Nat.zero_add];exact aC (heap_alloc_new _ _) (by rw[List.getElem?_toArray];exact a)
theorem NK{m d f:World}{n:Nat}{r:Value}{l g:List Value}{o:Obj}(q:m.ownsRow base 5 1 r n l)(a:aA aB m d)
 (j:f.heap[d.heap.size]?=some (.cells (spl (Array.replicate 32 (.int .u8 0)) 0 g) 28 (0,0))) (c:aA (fun k=>k=d.heap.size) (d.alloc o) f) (b:g.length=32) :
 f.ownsRow base 5 1 r n l/\Rd f 1 (.slice (d.heap.size) 32 32) 32 g/\aA aB m f:=by
 refine⟨?_,?_,(a.alloc o).tT c (fun i y e=>by have:=a.size;omega)⟩
 ·refine c.owns ((a.alloc o).owns q fun _ _=>id) (fun k t e=>?_)
  obtain⟨cur,s⟩:=aJ (a.owns q fun _ _=>id) t;have:=lt_of_block s;omega
 ·refine⟨by simpa using b,_,32,rfl,Nat.le_refl _,by unfold maxLen;omega,(by intro h;cases h),fun _=>⟨_,0,rfl,fun i u x=>?_⟩⟩
  rw[Nat.zero_add];refine aC j ?_;rw[aS _ _ (by simpa using b)]
  simpa using x
def Dl(w:World)(u:Ub)(e:Ending)(a:World):Prop:=
 ∃v,e=.returned (.tuple #[v,.int .i64 (if u.may then 0 else 2)])/\a.ownsRow w.heap.size 5 1 v (jG u).length ((jG u).map vb)/\aA aB w a
def FC(w:World)(u:Ub)(e:Ending)(a:World):Prop:=
 ∃v,e=.returned (.tuple #[v,.int .i64 (if u.may then 0 else 2)])/\a.ownsRow w.heap.size 5 1 v (jG u).length ((jG u).map vb)/\aA aB w a/\Fit IsB a v
theorem LE{wr:World}{b:Nat}(a:u.pool.length=32)(d:u.root.sum.length=32)(e:wr.heap[b]?=some (.cells (dS uv u).toArray 111 (0,0))) :
 Rd wr 1 (.slice (some ⟨b,37,none⟩) 32 32) u.pool.length (u.pool.map vb):=by
 obtain⟨-,-,-,c⟩:=gT d (aD e);rw[Nat.zero_add] at c;refine⟨by simp,_,32,by rw[a],by rw[a];omega,by unfold maxLen;omega,(by intro h;cases h),fun _=>⟨b,37,rfl,fun i u f=>?_⟩⟩;exact c i u f
structure UkW(w wr:World)(u:Ub)(uv pv:Value)(base p k:Nat):Prop where
 blk:wr.heap[w.heap.size]?=some (.cells (dS uv u).toArray 111 (0,0))
 wrt:∃v,Wr wr base p v (ubS u k) 0
 rd:Rd wr 1 pv (cJ u.root).length ((cJ u.root).map vb)
 pl:∀i,pv.ownBlock=some i->i<base
 keep:aA aB w wr
 le:w.heap.size<base
theorem UkW.same{wr w':World}(h:UkW w wr u uv pv base p k)(a:aA aB wr w'):UkW w w' u uv pv base p k:=
 ⟨a.blk h.blk id,by obtain⟨v,b⟩:=h.wrt;exact⟨v,b.keep a id (fun _ _=>id)⟩,h.rd.keep a (fun _ _=>id),h.pl,h.keep.trans a,h.le⟩
theorem UkW.next{wr j:World}{e:Ending}(h:UkW w wr u uv pv base p k)(g:Wr wr base p v (ubS u k) 0)(l:dO wr base p v (ubS u (k+1),0) e j):UkW w j u uv pv base p (k+1):=by
 obtain⟨-,m,f,d,-⟩:=l
 have a:∀i,i<base->¬(i=p\/v.ownBlock=some i):=by
  rintro i c (rfl|b)
  ·have:=g.le;omega
  ·have:=aW g.own b;omega
 exact⟨d.blk h.blk (a _ h.le),⟨m,f⟩,h.rd.keep d (fun i c=>a i (h.pl i c)),h.pl,h.keep.tT d (fun i c b=>a i (by have:=h.le;omega) b),h.le⟩
theorem Jo(h:PtV w v u.root)(d:u.root.may=true)(a:World)(k:aA aB w a):Calls prog 148 #[.agg (aE v u.root).toArray] a fun e c =>
 ∃x,e=.returned (.tuple #[x,.int .i64 0])/\c.ownsRow a.heap.size 5 1 x (cJ u.root).length ((cJ u.root).map vb)/\aA aB a c:=by
 refine(wW a v u.root (h.keep k fun _ _=>id)).mono ?_;rintro e c ⟨x,rfl,b,f⟩;unfold ptB at b;rw[d,if_pos rfl] at b;exact⟨x,by rw[d];rfl,b,f⟩
theorem NL(w:World)(v:Value)(u:Ub)(h0:UbV w v u)(t:u.may=false):Calls prog 103 #[.agg (dS v u).toArray] w (FC w u):=by
 obtain⟨m,g,G,-,-⟩:=h0.root.rd.form;subst G;obtain⟨n,F⟩:=zX9 u.root.addrs.length
 rw[F] at h0 ⊢;have I:=O h0.pool;have D:=O h0.root.sum;have z:=O t;obtain⟨B,y,b,a,i⟩:=aP w (dS (.slice m n g) u).toArray 111;have d:=O (uM B (.slice m n g) u (h0.keep b fun _ _=>id));unfold lH at d;rw[t] at d;have o:=O a;have f:=O (aD a);obtain⟨-,A,-,-⟩:=gT h0.root.sum (aD a);have r:=O A;have s:(aE (.slice m n g) u.root).length=35:=aF h0.root.sum;have l:(dS (.slice m n g) u).length=69:=lQ h0.root.sum h0.pool;obtain⟨H,c⟩:=zX9 (dS (.slice m n g) u)
 have E:=O c;have C:=O b;have j:B.heap.size=w.heap.size+1:=i;rw[c] at y f d l ⊢;clear h0 t c a o A b i j r s;go_in
 go_wp2_with (first
  | ((with_reducible show WL _ (.load 111 (.tmp 1)));refine aK (by rfl) 111 (.tmp 1) rfl (w.heap.size) 0 rfl H _ f.out mC rfl (GM l) ?_))
 refine d.mono ?_;rintro e J ⟨rfl,h⟩;have q:=O (C.trans h);clear h d;go_wp2
 go_ret2
 refine⟨_,by rw[z.out];rfl,?_,q.out,Fit.nil _ _⟩;rw[show jG u=[] by unfold jG;rw[z.out];rfl];exact World.ownsRow_nil _ _ _ _
theorem LF(w:World)(v:Value)(u:Ub)(h0:UbV w v u)(hm:u.may=true):Calls prog 103 #[.agg (dS v u).toArray] w (FC w u):=by
 obtain⟨Z,S,hv,-,-⟩:=h0.root.rd.form;subst hv;obtain⟨n,hn⟩:=zX9 u.root.addrs.length
 rw[hn] at h0 ⊢;have d:=O h0.pool;have a:=O h0.root.sum;have HM:=O hm;obtain⟨w1,zj,V,j,qq⟩:=aP w (dS (.slice Z n S) u).toArray 111;have HC:=O (uM w1 (.slice Z n S) u (h0.keep V fun _ _=>id));unfold lH at HC;rw[hm] at HC;have qa:=O j;have qh:=O (aD j);obtain⟨-,r0,-,-⟩:=gT h0.root.sum (aD j);have A:=O r0;have qm:(aE (.slice Z n S) u.root).length=35:=aF h0.root.sum;have qt:(dS (.slice Z n S) u).length=69:=lQ h0.root.sum h0.pool;obtain⟨uc,Y⟩:=zX9 (dS (.slice Z n S) u)
 have zm:=O Y;have HK:=O V;have qr:w1.heap.size=w.heap.size+1:=qq;have I:=O (Jo (u:=u) h0.root (yA hm).2.2.2.2);have qp:=fB h0.root.sum;obtain⟨pc,qo⟩:=zX9 (aE (.slice Z n S) u.root)
 have zd:=O qp;have kc:=fun(w:World) (C:Array Value) (n c:Nat)=>Lib.run_convert_bytes_const (P:=prog) w 68 5 C n c underlying68 underlying5
 rw[Y] at zj qh HC qt ⊢;rw[qo] at A qm I;clear h0 hm Y qo j r0 V qq qp;go_in
 go_wp2_with (first
  | ((with_reducible show WL _ (.load 111 (.tmp 1)));refine aK (by rfl) 111 (.tmp 1) rfl (w.heap.size) 0 rfl uc _ qh.out mC rfl (GM qt) ?_))
 refine HC.mono ?_;rintro e w2 ⟨rfl,s⟩;have qf:=O (HK.trans s);have A:=O (s.rangeAt A.out);have qb:=O (s.blk qa.out id);have zg:w1.heap.size≤w2.heap.size:=s.size;clear s HC qa
 go_wp2_with (first
  | ((with_reducible show WL _ (.load 30 (.tmp 16)));refine aK (by rfl) 30 (.tmp 16) rfl (w.heap.size) 1 rfl pc _ A.out aI rfl (cN qm) ?_))
 refine(I _ qf.out).mono ?_;rintro e w3 ⟨pv,rfl,W,D⟩;obtain⟨ap,cp,rfl,-,-⟩:=(Rd.of_owns W).form;have qc:=O (D.blk qb.out id);have J:=O W;have z:=O (qf.trans D);have zh:w2.heap.size≤w3.heap.size:=D.size;clear D W I qb;go_wp2_with fail;refine(GK _).mono ?_;rintro e w4 ⟨p,rfl,q1,E,hp⟩;have U0:Hid (UkW w w4 u (.slice Z n S) (.slice ap (cJ u.root).length cp) w3.heap.size p 0):=O ⟨E.blk qc.out id,⟨_,q1⟩,(Rd.of_owns J.out).keep E (fun _ _=>id),fun i hi=>by obtain⟨cur,hc⟩:=aJ J.out hi;exact lt_of_block hc,z.trans E,by omega⟩;have HS:=O (show w.heap.size≤w3.heap.size by omega);clear q1 E hp qc J z qr zg zh;go_wp2_with fail;have U0:=O (U0.out.same (w':=w4.alloc (.cells (tV.map vb).toArray 5 (8,9))) ((aA.refl _ _).alloc _));obtain⟨v0,qu⟩:=U0.out.wrt;have K:=O qu;clear qu;refine(tH p _ tV _ _ _ _ 0 K.out (Nat.le_trans (oD d.out a.out (k:=0) (by omega)) (by omega)) (Pu w4 tV 5 (8,9) (by decide)) (by decide)).mono ?_;rintro e w5 b;rw[show (tV,(0:Int))=(ubW u 0,0) from rfl,tW d.out a.out (by omega)] at b;have U1:=O (U0.out.next K.out b);obtain rfl:=b.1;clear b U0 K kc;obtain⟨v1,qv⟩:=U1.out.wrt;have L:=O qv;clear qv;go_wp2_with fail;refine(tH p _ u.pool _ _ _ _ 0 L.out (Nat.le_trans (oD d.out a.out (k:=1) (by omega)) (by omega)) (LE d.out a.out U1.out.blk) (by rw[d.out];omega)).mono ?_;rintro e w6 b;rw[show (u.pool,(0:Int))=(ubW u 1,0) from rfl,tW d.out a.out (by omega)] at b;have U2:=O (U1.out.next L.out b);obtain rfl:=b.1;clear b U1 L;obtain⟨v2,qw⟩:=U2.out.wrt;have M:=O qw;clear qw;obtain⟨c0,-,c2,-⟩:=gT a.out (aD U2.out.blk);simp only[Nat.zero_add] at c0 c2;go_wp2_with fail;refine(nG p u.txg 5 _ _ _ _ 0 M.out (Nat.le_trans (oD d.out a.out (k:=2) (by omega)) (by omega))).mono ?_;rintro e w7 b;rw[Pr HM.out,tW d.out a.out (by omega)] at b;have U3:=O (U2.out.next M.out b);obtain rfl:=b.1;clear b U2 M c0 c2;obtain⟨v3,qx⟩:=U3.out.wrt;have N:=O qx;clear qx;obtain⟨c0,-,c2,-⟩:=gT a.out (aD U3.out.blk);simp only[Nat.zero_add] at c0 c2;go_wp2_with fail;refine(nG p u.len 3 _ _ _ _ 0 N.out (Nat.le_trans (oD d.out a.out (k:=3) (by omega)) (by omega))).mono ?_;rintro e w8 b;rw[Ps HM.out,tW d.out a.out (by omega)] at b;have U4:=O (U3.out.next N.out b);obtain rfl:=b.1;clear b U3 N c0 c2;obtain⟨v4,qy⟩:=U4.out.wrt;have Q:=O qy;clear qy;go_wp2_with fail;refine(tH p _ (cJ u.root) _ _ _ _ 0 Q.out (Nat.le_trans (oD d.out a.out (k:=4) (by omega)) (by omega)) U4.out.rd (by rw[zd.out];omega)).mono ?_;rintro e w9 b;rw[show (cJ u.root,(0:Int))=(ubW u 4,0) from rfl,tW d.out a.out (by omega)] at b;have U5:=O (U4.out.next Q.out b);obtain rfl:=b.1;clear b U4 Q;obtain⟨v5,qz⟩:=U5.out.wrt;have R:=O qz;clear qz;go_wp2_with fail;refine(GL p 224 _ _ _ _ 0 R.out (Nat.le_trans (oD d.out a.out (k:=5) (by omega)) (by omega))).mono ?_;rintro e t b;rw[Qt d.out a.out,tW d.out a.out (by omega)] at b;have U6:=O (U5.out.next R.out b);obtain rfl:=b.1;clear b U5 R;obtain⟨v6,q0⟩:=U6.out.wrt;have B:=O q0;clear q0;have y:=O (BD d.out a.out);have B:Hid (Wr t w3.heap.size p v6 (lL u) 0):=B;have qg:=O U6.out.keep;clear U6;go_wp2_with fail;refine(GR p t _ v6 _ 0 B.out (by rw[y.out];omega)).mono ?_;rintro e zk ⟨zn,rfl,l,r,q⟩;rw[if_pos rfl] at l;have X:=Rd.of_owns l;obtain⟨a3,c3,rfl,-,-⟩:=X.form;have HO:=O l;have HR:=O X;have q5:=O q;have z:=O (qg.trans r);have qk:=r.size;have zf:w.heap.size≤t.heap.size:=qg.size;clear l X r q B;go_wp2_with fail;refine(yF _ (lL u) zk HR.out (by rw[y.out];omega)).mono ?_;rintro e q3 ⟨rfl,G⟩;obtain⟨T,o⟩:=zX9 ((dB (lL u)).map vb)
 have U:T.length=32:=by rw[←o];simp[cZ]
 have qi:∀u∈T,u.oneCell'=true:=by rw[←o];exact bR _
 rw[o];have qd:=O o;have qe:=O G;clear o G
 go_wp2_with (first
  | (refine aY rfl 28 rfl wU AT (Array.replicate 32 (.int .u8 0)) rfl ?_)
  | ((with_reducible show WL none (.store 28 (.tmp 9) (.tmp 55)));refine aQ rfl 28 (.tmp 9) (.tmp 55) rfl q3.heap.size 0 T rfl rfl _ _ (heap_alloc_new _ _) (by rw[U];simp) (by rw[U];exact oY) qi ?_;intro zl F H;have m:=O (NK HO.out qe.out F H U);have zi:t.heap.size≤zl.heap.size:=Nat.le_trans qk m.2.2.size;clear F H)
  | (at_builtin;refine lD rfl (.tmp 56) (.tmp 57) 68 rfl t.heap.size 5 _ 1 1 underlying68 gJ rfl (by omega) (.slice a3 (lL u).length c3) (lL u).length _ rfl m.1 (.slice (q3.heap.size) 32 32) 32 T rfl m.2.1 qi (by unfold maxLen;have:=y.out;omega) (by have:=y.out;omega) zi IsB Aa (by rw[←qd.out];exact BR _) (q5.keep m.2.2 (fun g hg=>⟨by obtain⟨cur,hc⟩:=aJ HO.out hg;exact lt_of_block hc,id⟩)) ?_;intro zo zp f ql qn ze qj;obtain⟨a6,c6,rfl,-,-⟩:=(Rd.of_owns f).form;have zb:=O f;have za:=O ql;have q9:=O qj;clear f ql qn ze qj))
 go_ret2
 refine⟨_,by rw[HM.out];rfl,?_,?_,by simpa using q9.out⟩
 ·have b:(jG u).length=(lL u).length+32:=by unfold jG;rw[HM.out];simp[cZ]
  have h2:(jG u).map vb=(lL u).map vb++T:=by unfold jG;rw[HM.out,←qd.out];simp
  rw[b,h2];exact bA zb.out zf
 ·exact(z.trans m.2.2).tT za.out (fun i hi e=>by have:=aW HO.out e;omega)
theorem LG(w:World)(v:Value)(u:Ub)(h0:UbV w v u):Calls prog 103 #[.agg (dS v u).toArray] w (FC w u):=by
 rcases a:u.may with _|_
 ·exact NL w v u h0 a
 ·exact LF w v u h0 a
theorem LH(w:World)(v:Value)(u:Ub)(h0:UbV w v u):Calls prog 103 #[.agg (dS v u).toArray] w (Dl w u):=
 (LG w v u h0).mono fun _ _ ⟨v,a,b,c,_⟩=>⟨v,a,b,c⟩
end
end Go.Proofs.YtoeinblfcbpcmaaGreat
