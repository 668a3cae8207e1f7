import Derived.Test.YtiinnfhjpaeffaaGreatA1
import Derived.Test.YtiinnfhjpaeffaaGreatA17
import Derived.Lib.SlBytesConst
namespace Go.Proofs.YtiinnfhjpaeffaaGreat
set_option maxHeartbeats 64000000
set_option maxRecDepth 100000
set_option linter.unusedVariables false
section
open Go.RowKit Go.Maps Go.ChangeMaps
def rY:List UInt8:=[67,65,85,76,75,69,82,50]
def ubW(u:Ub):Nat->List UInt8
 | 0=>rY
 | 1=>u.pool
 | 2=>be u.txg.toNat 5
 | 3=>be u.len.toNat 3
 | 4=>cF u.root
 | _=>List.replicate 129 0
def ubS(u:Ub):Nat->List UInt8
 | 0=>[]
 | k+1=>ubS u k++ubW u k
def kR(u:Ub):List UInt8:=ubS u 6
def iR(u:Ub):List UInt8:=if u.may then kR u++cZ (kR u) else []
variable{u:Ub}{k base p:Nat}{wr w:World}{uv pv v:Value}
theorem yH(a:u.pool.length=32)(b:u.root.sum.length=32):(ubS u 0).length=0/\(ubS u 1).length=8/\(ubS u 2).length=40/\(ubS u 3).length=45/\(ubS u 4).length=48/\(ubS u 5).length=95/\(ubS u 6).length=224:=by
 have h:=eT b;simp[ubS,ubW,rY,bM,a,h]
theorem mZ(a:u.pool.length=32)(b:u.root.sum.length=32)(l:k≤6):(ubS u k).length≤224:=by
 obtain⟨c,d,e,f,g,i,j⟩:=yH a b;have h:k=0\/k=1\/k=2\/k=3\/k=4\/k=5\/k=6:=by omega
 rcases h with rfl|rfl|rfl|rfl|rfl|rfl|rfl<;>omega
theorem Aj(a:u.pool.length=32)(b:u.root.sum.length=32):(kR u).length=224:=(yH a b).2.2.2.2.2.2
theorem JN(a:u.pool.length=32)(b:u.root.sum.length=32)(c:u.may=true):(iR u).length=256:=by
 unfold iR;rw[c,if_pos rfl,List.length_append,Aj a b,cV]
theorem vL(h:u.may=true):1≤u.txg/\u.txg≤2147483648/\0≤u.len/\u.len≤16384/\u.root.may=true:=by
 unfold Ub.may at h;simp only[Bool.and_eq_true,Bool.or_eq_true,decide_eq_true_eq] at h;obtain⟨⟨⟨⟨a,b⟩,c⟩,d⟩,e⟩:=h;refine⟨a,b,c,d,?_⟩;rcases e with e|e
 ·exact jM e
 ·exact e.1.1
theorem rZ(a:u.pool.length=32)(b:u.root.sum.length=32)(c:k<6):wst (ubS u k,0) (ubW u k,0)=(ubS u (k+1),0):=by
 have h:=mZ a b (k:=k+1) (by omega);show _=(ubS u k++ubW u k,(0:Int));refine lT _ _ ?_;rw[←List.length_append];show (ubS u (k+1)).length≤_;omega
theorem Nh(h:u.may=true):eO u.txg 5=(ubW u 2,0):=by
 have:=vL h;exact jQ (by omega) (by omega) (by omega) (by simp;omega)
theorem Ni(h:u.may=true):eO u.len 3=(ubW u 3,0):=by
 have:=vL h;exact jQ (by omega) (by omega) (by omega) (by simp;omega)
theorem N8(a:u.pool.length=32)(b:u.root.sum.length=32):iT 224 (ubS u 5)=(ubW u 5,0):=by
 have h:=(yH a b).2.2.2.2.2.1;unfold iT;rw[h,if_neg (by omega)];rfl
theorem Nj(w:World)(l:List UInt8)(t:TypeId)(a:Nat×Nat)(h:l.length≤maxLen):Rd (w.alloc (.cells (l.map vb).toArray t a)) 1 (.slice (w.heap.size) l.length l.length) l.length (l.map vb):=by
 refine⟨by simp,_,_,rfl,Nat.le_refl _,h,(by intro h;cases h),fun _=>⟨_,0,rfl,fun i u b=>?_⟩⟩;rw[Nat.zero_add];exact aC (heap_alloc_new _ _) (by rw[List.getElem?_toArray];exact b)
theorem LJ{m d f:World}{n:Nat}{r:Value}{l g:List Value}{o:Obj}(q:m.ownsRow base 5 1 r n l)(a:aA aB m d)
 (j:f.heap[d.heap.size]?=some (.cells (spl (Array.replicate 32 (.int .u8 0)) 0 g) 25 (0,0))) (c:aA (fun k=>k=d.heap.size) (d.alloc o) f) (b:g.length=32) :
 f.ownsRow base 5 1 r n l/\Rd f 1 (.slice (d.heap.size) 32 32) 32 g/\aA aB m f:=by
 refine⟨?_,?_,(a.alloc o).trans' c (fun _ _ h=>h) (fun i y e=>by have:=a.size;omega)⟩
 ·refine c.owns ((a.alloc o).owns q fun _ _=>id) (fun k t e=>?_)
  obtain⟨cur,s⟩:=aO (a.owns q fun _ _=>id) t;have:=lt_of_block s;omega
 ·refine⟨by simpa using b,_,32,rfl,Nat.le_refl _,by unfold maxLen;omega,(by intro h;cases h),fun _=>⟨_,0,rfl,fun i u x=>?_⟩⟩
  rw[Nat.zero_add];refine aC j ?_;rw[aK _ _ (by simpa using b)]
  simpa using x
def BR(w:World)(u:Ub)(e:Ending)(w':World):Prop:=
 ∃v,e=.returned (.tuple #[v,.int .i64 (if u.may then 0 else 2)])/\w'.ownsRow w.heap.size 5 1 v (iR u).length ((iR u).map vb)/\aA aB w w'
def D8(w:World)(u:Ub)(e:Ending)(w':World):Prop:=
 ∃v,e=.returned (.tuple #[v,.int .i64 (if u.may then 0 else 2)])/\w'.ownsRow w.heap.size 5 1 v (iR u).length ((iR u).map vb)/\aA aB w w'/\Fit IsB w' v
theorem JO{b:Nat}(a:u.pool.length=32)(d:u.root.sum.length=32)(e:wr.heap[b]?=some (.cells (dW uv u).toArray 45 (0,0))) :
 Rd wr 1 (.slice (some ⟨b,37,none⟩) 32 32) u.pool.length (u.pool.map vb):=by
 obtain⟨-,-,-,c⟩:=gF d (aD e);rw[Nat.zero_add] at c;refine⟨by simp,_,32,by rw[a],by rw[a];omega,by unfold maxLen;omega,(by intro h;cases h),fun _=>⟨b,37,rfl,fun i u f=>?_⟩⟩;exact c i u f
structure UkW(w wr:World)(u:Ub)(uv pv:Value)(base p k:Nat):Prop where
 blk:wr.heap[w.heap.size]?=some (.cells (dW uv u).toArray 45 (0,0))
 wrt:∃v,Wr wr base p v (ubS u k) 0
 rd:Rd wr 1 pv (cF u.root).length ((cF u.root).map vb)
 pl:∀i,pv.ownBlock=some i->i<base
 keep:aA aB w wr
 le:w.heap.size<base
theorem UkW.same{w':World}(h:UkW w wr u uv pv base p k)(a:aA aB wr w'):UkW w w' u uv pv base p k:=
 ⟨a.blk h.blk id,by obtain⟨v,b⟩:=h.wrt;exact⟨v,b.keep a id (fun _ _=>id)⟩,h.rd.keep a (fun _ _=>id),h.pl,h.keep.trans a,h.le⟩
theorem UkW.next{j:World}{e:Ending}(h:UkW w wr u uv pv base p k)(g:Wr wr base p v (ubS u k) 0)(l:dV wr base p v (ubS u (k+1),0) e j):UkW w j u uv pv base p (k+1):=by
 obtain⟨-,m,f,d,-⟩:=l
 have a:∀i,i<base->¬(i=p\/v.ownBlock=some i):=by
  rintro i c (rfl|b)
  ·have:=g.le;omega
  ·have:=aU g.own b;omega
 exact⟨d.blk h.blk (a _ h.le),⟨m,f⟩,h.rd.keep d (fun i c=>a i (h.pl i c)),h.pl,h.keep.trans' d (fun _ _ h=>h) (fun i c b=>a i (by have:=h.le;omega) b),h.le⟩
theorem Hc(h:PtV w v u.root)(d:u.root.may=true)(a:World)(k:aA aB w a):Calls Tryz.prog 139 #[.agg (aE v u.root).toArray] a fun e c =>
 ∃x,e=.returned (.tuple #[x,.int .i64 0])/\c.ownsRow a.heap.size 5 1 x (cF u.root).length ((cF u.root).map vb)/\aA aB a c:=by
 refine(uM a v u.root (h.keep k fun _ _=>id)).mono ?_;rintro e c ⟨x,rfl,b,f⟩;unfold ptB at b;rw[d,if_pos rfl] at b;exact⟨x,by rw[d];rfl,b,f⟩
theorem LK(w:World)(v:Value)(u:Ub)(h0:UbV w v u)(t:u.may=false):Calls Tryz.prog 100 #[.agg (dW v u).toArray] w (D8 w u):=by
 obtain⟨m,g,G,-,-⟩:=h0.root.rd.form;subst G;obtain⟨n,F⟩:∃x,u.root.addrs.length=x:=⟨_,rfl⟩
 rw[F] at h0 ⊢;have I:=O h0.pool;have D:=O h0.root.sum;have z:=O t;obtain⟨B,y,b,a,i⟩:=aS w (dW (.slice m n g) u).toArray 45;have d:=O (sN B (.slice m n g) u (h0.keep b fun _ _=>id));unfold lQ at d;rw[t] at d;have o:=O a;have f:=O (aD a);obtain⟨-,A,-,-⟩:=gF h0.root.sum (aD a);have r:=O A;have s:(aE (.slice m n g) u.root).length=35:=aJ h0.root.sum;have l:(dW (.slice m n g) u).length=69:=kX h0.root.sum h0.pool;obtain⟨H,c⟩:∃x,dW (.slice m n g) u=x:=⟨_,rfl⟩
 have E:=O c;have C:=O b;have j:B.heap.size=w.heap.size+1:=i;rw[c] at y f d l ⊢;clear h0 t c a o A b i j r s;go_in
 go_wp2_with (first
  | ((with_reducible show WL _ (.load 45 (.tmp 1)));refine aP (by rfl) 45 (.tmp 1) rfl (w.heap.size) 0 rfl H _ f.out lG rfl (E9 l) ?_))
 refine d.mono ?_;rintro e J ⟨rfl,h⟩;have q:=O (C.trans h);clear h d;go_wp2
 go_ret2
 refine⟨_,by rw[z.out];rfl,?_,q.out,Fit.nil _ _⟩;rw[show iR u=[] by unfold iR;rw[z.out];rfl];exact World.ownsRow_nil _ _ _ _
theorem JP(w:World)(v:Value)(u:Ub)(h0:UbV w v u)(hm:u.may=true):Calls Tryz.prog 100 #[.agg (dW v u).toArray] w (D8 w u):=by
 obtain⟨Z,S,hv,-,-⟩:=h0.root.rd.form;subst hv;obtain⟨n,hn⟩:∃x,u.root.addrs.length=x:=⟨_,rfl⟩
 rw[hn] at h0 ⊢;have d:=O h0.pool;have a:=O h0.root.sum;have HM:=O hm;obtain⟨w1,hw1,V,j,hs1⟩:=aS w (dW (.slice Z n S) u).toArray 45;have HC:=O (sN w1 (.slice Z n S) u (h0.keep V fun _ _=>id));unfold lQ at HC;rw[hm] at HC;have HB0:=O j;have HUB:=O (aD j);obtain⟨-,r0,-,-⟩:=gF h0.root.sum (aD j);have A:=O r0;have hl0:(aE (.slice Z n S) u.root).length=35:=aJ h0.root.sum;have hul:(dW (.slice Z n S) u).length=69:=kX h0.root.sum h0.pool;obtain⟨uc,Y⟩:∃x,dW (.slice Z n S) u=x:=⟨_,rfl⟩
 have HUC:=O Y;have HK:=O V;have hs1':w1.heap.size=w.heap.size+1:=hs1;have I:=O (Hc (u:=u) h0.root (vL hm).2.2.2.2);have hpl:=eT h0.root.sum;obtain⟨pc,hpc⟩:∃x,aE (.slice Z n S) u.root=x:=⟨_,rfl⟩
 have HPL:=O hpl;have kc:=fun(w:World) (C:Array Value) (n c:Nat)=>Lib.run_convert_bytes_const (P:=Tryz.prog) w 109 5 C n c Tryz.underlying109 Tryz.underlying5
 rw[Y] at hw1 HUB HC hul ⊢;rw[hpc] at A hl0 I;clear h0 hm Y hpc j r0 V hs1 hpl;go_in
 go_wp2_with (first
  | ((with_reducible show WL _ (.load 45 (.tmp 1)));refine aP (by rfl) 45 (.tmp 1) rfl (w.heap.size) 0 rfl uc _ HUB.out lG rfl (E9 hul) ?_))
 refine HC.mono ?_;rintro e w2 ⟨rfl,s⟩;have HK2:=O (HK.trans s);have A:=O (s.rangeAt A.out);have HB2:=O (s.blk HB0.out id);have hs2:w1.heap.size≤w2.heap.size:=s.size;clear s HC HB0
 go_wp2_with (first
  | ((with_reducible show WL _ (.load 27 (.tmp 16)));refine aP (by rfl) 27 (.tmp 16) rfl (w.heap.size) 1 rfl pc _ A.out aH rfl (bY hl0) ?_))
 refine(I.out _ HK2.out).mono ?_;rintro e w3 ⟨pv,rfl,W,D⟩;obtain⟨ap,cp,rfl,-,-⟩:=(Rd.of_owns W).form;have HB3:=O (D.blk HB2.out id);have J:=O W;have z:=O (HK2.trans D);have hs3:w2.heap.size≤w3.heap.size:=D.size;clear D W I HB2;go_wp2_with fail;refine(E7 _).mono ?_;rintro e w4 ⟨p,rfl,hwr,E,hp⟩;have U0:Hid (UkW w w4 u (.slice Z n S) (.slice ap (cF u.root).length cp) w3.heap.size p 0):=O ⟨E.blk HB3.out id,⟨_,hwr⟩,(Rd.of_owns J.out).keep E (fun _ _=>id),fun i hi=>by obtain⟨cur,hc⟩:=aO J.out hi;exact lt_of_block hc,z.trans E,by omega⟩;have HS:=O (show w.heap.size≤w3.heap.size by omega);clear hwr E hp HB3 J z hs1' hs2 hs3;go_wp2_with fail;have U0:=O (U0.out.same (w':=w4.alloc (.cells (rY.map vb).toArray 5 (8,9))) ((aA.refl _ _).alloc _));obtain⟨v0,hv0⟩:=U0.out.wrt;have K:=O hv0;clear hv0;refine(rP p _ rY _ _ _ _ 0 K.out (Nat.le_trans (mZ d.out a.out (k:=0) (by omega)) (by omega)) (Nj w4 rY 5 (8,9) (by decide)) (by decide)).mono ?_;rintro e w5 b;rw[show (rY,(0:Int))=(ubW u 0,0) from rfl,rZ d.out a.out (by omega)] at b;have U1:=O (U0.out.next K.out b);obtain rfl:=b.1;clear b U0 K kc;obtain⟨v1,hv1⟩:=U1.out.wrt;have L:=O hv1;clear hv1;go_wp2_with fail;refine(rP p _ u.pool _ _ _ _ 0 L.out (Nat.le_trans (mZ d.out a.out (k:=1) (by omega)) (by omega)) (JO d.out a.out U1.out.blk) (by rw[d.out];omega)).mono ?_;rintro e w6 b;rw[show (u.pool,(0:Int))=(ubW u 1,0) from rfl,rZ d.out a.out (by omega)] at b;have U2:=O (U1.out.next L.out b);obtain rfl:=b.1;clear b U1 L;obtain⟨v2,hv2⟩:=U2.out.wrt;have M:=O hv2;clear hv2;obtain⟨c0,-,c2,-⟩:=gF a.out (aD U2.out.blk);simp only[Nat.zero_add] at c0 c2;go_wp2_with fail;refine(mJ p u.txg 5 _ _ _ _ 0 M.out (Nat.le_trans (mZ d.out a.out (k:=2) (by omega)) (by omega))).mono ?_;rintro e w7 b;rw[Nh HM.out,rZ d.out a.out (by omega)] at b;have U3:=O (U2.out.next M.out b);obtain rfl:=b.1;clear b U2 M c0 c2;obtain⟨v3,hv3⟩:=U3.out.wrt;have N:=O hv3;clear hv3;obtain⟨c0,-,c2,-⟩:=gF a.out (aD U3.out.blk);simp only[Nat.zero_add] at c0 c2;go_wp2_with fail;refine(mJ p u.len 3 _ _ _ _ 0 N.out (Nat.le_trans (mZ d.out a.out (k:=3) (by omega)) (by omega))).mono ?_;rintro e w8 b;rw[Ni HM.out,rZ d.out a.out (by omega)] at b;have U4:=O (U3.out.next N.out b);obtain rfl:=b.1;clear b U3 N c0 c2;obtain⟨v4,hv4⟩:=U4.out.wrt;have Q:=O hv4;clear hv4;go_wp2_with fail;refine(rP p _ (cF u.root) _ _ _ _ 0 Q.out (Nat.le_trans (mZ d.out a.out (k:=4) (by omega)) (by omega)) U4.out.rd (by rw[HPL.out];omega)).mono ?_;rintro e w9 b;rw[show (cF u.root,(0:Int))=(ubW u 4,0) from rfl,rZ d.out a.out (by omega)] at b;have U5:=O (U4.out.next Q.out b);obtain rfl:=b.1;clear b U4 Q;obtain⟨v5,hv5⟩:=U5.out.wrt;have R:=O hv5;clear hv5;go_wp2_with fail;refine(E8 p 224 _ _ _ _ 0 R.out (Nat.le_trans (mZ d.out a.out (k:=5) (by omega)) (by omega))).mono ?_;rintro e t b;rw[N8 d.out a.out,rZ d.out a.out (by omega)] at b;have U6:=O (U5.out.next R.out b);obtain rfl:=b.1;clear b U5 R;obtain⟨v6,hv6⟩:=U6.out.wrt;have B:=O hv6;clear hv6;have y:=O (Aj d.out a.out);have B:Hid (Wr t w3.heap.size p v6 (kR u) 0):=B;have HKW:=O U6.out.keep;clear U6;go_wp2_with fail;refine(Fe p t _ v6 _ 0 B.out (by rw[y.out];omega)).mono ?_;rintro e w11 ⟨v11,rfl,l,r,q⟩;rw[if_pos rfl] at l;have X:=Rd.of_owns l;obtain⟨a3,c3,rfl,-,-⟩:=X.form;have HO:=O l;have HR:=O X;have HF3:=O q;have z:=O (HKW.trans r);have hk3s:=r.size;have hle:w.heap.size≤t.heap.size:=HKW.size;clear l X r q B;go_wp2_with fail;refine(vR _ (kR u) w11 HR.out (by rw[y.out];omega)).mono ?_;rintro e w12 ⟨rfl,G⟩;obtain⟨T,o⟩:∃T,(cZ (kR u)).map vb=T:=⟨_,rfl⟩
 have U:T.length=32:=by rw[←o];simp[cV]
 have hdo:∀u∈T,u.oneCell'=true:=by rw[←o];exact bS _
 rw[o];have HDS:=O o;have HK12:=O G;clear o G
 go_wp2_with (first
  | (refine aV rfl 25 rfl uL zA (Array.replicate 32 (.int .u8 0)) rfl ?_)
  | ((with_reducible show WL none (.store 25 (.tmp 9) (.tmp 55)));refine aR rfl 25 (.tmp 9) (.tmp 55) rfl w12.heap.size 0 T rfl rfl _ _ (heap_alloc_new _ _) (by rw[U];simp) (by rw[U];exact nU) hdo ?_;intro w13 F H;have m:=O (LJ HO.out HK12.out F H U);have hsz:t.heap.size≤w13.heap.size:=Nat.le_trans hk3s m.2.2.size;clear F H)
  | (at_builtin;refine kN rfl (.tmp 56) (.tmp 57) 109 rfl t.heap.size 5 _ 1 1 Tryz.underlying109 fS rfl (by omega) (.slice a3 (kR u).length c3) (kR u).length _ rfl m.1 (.slice (w12.heap.size) 32 32) 32 T rfl m.2.1 hdo (by unfold maxLen;have:=y.out;omega) (by have:=y.out;omega) hsz IsB xO (by rw[←HDS.out];exact AC _) (HF3.keep m.2.2 (fun g hg=>⟨by obtain⟨cur,hc⟩:=aO HO.out hg;exact lt_of_block hc,id⟩)) ?_;intro v14 w14 f hk6 hnil hat hft;obtain⟨a6,c6,rfl,-,-⟩:=(Rd.of_owns f).form;have HO6:=O f;have HK6:=O hk6;have HF6:=O hft;clear f hk6 hnil hat hft))
 go_ret2
 refine⟨_,by rw[HM.out];rfl,?_,?_,by simpa using HF6.out⟩
 ·have b:(iR u).length=(kR u).length+32:=by unfold iR;rw[HM.out];simp[cV]
  have h2:(iR u).map vb=(kR u).map vb++T:=by unfold iR;rw[HM.out,←HDS.out];simp
  rw[b,h2];exact aQ HO6.out hle
 ·exact(z.trans m.2.2).trans' HK6.out (fun _ _ h=>h) (fun i hi e=>by have:=aU HO.out e;omega)
theorem JQ(w:World)(v:Value)(u:Ub)(h0:UbV w v u):Calls Tryz.prog 100 #[.agg (dW v u).toArray] w (D8 w u):=by
 rcases a:u.may with _|_
 ·exact LK w v u h0 a
 ·exact JP w v u h0 a
theorem JR(w:World)(v:Value)(u:Ub)(h0:UbV w v u):Calls Tryz.prog 100 #[.agg (dW v u).toArray] w (BR w u):=
 (JQ w v u h0).mono fun _ _ ⟨v,a,b,c,_⟩=>⟨v,a,b,c⟩
end
end Go.Proofs.YtiinnfhjpaeffaaGreat
