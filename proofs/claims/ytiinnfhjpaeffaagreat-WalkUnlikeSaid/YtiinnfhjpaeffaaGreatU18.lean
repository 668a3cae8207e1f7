import Derived.Test.YtiinnfhjpaeffaaGreatU17
namespace Go.Proofs.YtiinnfhjpaeffaaGreat
open Tryz
set_option maxHeartbeats 0
set_option maxRecDepth 100000
set_option linter.unusedVariables false
section
open Go.RowKit Go.Maps Go.ChangeMaps
def DM(w:World)(cb g p m c:Nat):Prop:=w.heap[cb]?=some (.cells #[.slice (some ⟨g,p,none⟩) m c] 299 (0,0))
variable{n rb cb pb g o c B off k i:Nat}{w w':World}{v:Value}{q p:Pt}
theorem rC(w:World)(cb g p m c k:Nat)(a:List UInt8)(h:DM w cb g p m c)(z:w.rangeAt g p (a.map vb))(t:a.length=m)(Q:m≤c)(T:c≤9223372036854775807)(L:1≤k)(M:k≤4)(P:k<m) :
 Calls prog 213 #[.pointer cb,.int .i64 (k:Int)] w fun e w'=>e=.returned (.int .i64 (beN (a.take k):Int))/\DM w' cb g (p+k) (m-k) (c-k)/\aA (fun i=>i=cb) w w':=by
 have c0:w.cell? ⟨cb,0,none⟩=some (.slice (some ⟨g,p,none⟩) m c):=aD h rfl;have S:=dF h 0;have C:=O h;have E:=O z;have D:=O t;have N:(k:Int)≤(c:Int):=by omega
 have s:(k:Int)≤(m:Int):=by omega
 have K:(0:Int)≤(k:Int):=by omega
 have r:k≤c:=by omega
 clear h z t;go_in;go_wp2_with fail
 go_loop [5,15] (fun x i=>∃j:Nat,j≤k/\i=.int .i64 j/\x=.int .i64 (beN (a.take j):Int)) (fun _ i=>k-(intOf i).toNat)
 case atStart=>exact⟨0,by omega,rfl,rfl⟩
 case round =>
  obtain⟨j,U,rfl,rfl⟩:=hrel
  by_cases J:j<k
  ·have d:j<a.length:=by rw[D.out];omega
   have G:w.cell? ⟨g,p+j,none⟩=some (.int .u8 (a[j].toNat:Int)):=E.out j _ (by simp[d,vb]);have A:=Et (a.take j) (by simp;omega);have f:=uV (a.take j) a[j];have b:=a[j].toNat_lt;rw[←List.take_succ_eq_append_getElem d] at f;obtain⟨q,u⟩:=zX9 (a[j].toNat)
   rw[u] at G f b;obtain⟨y,l⟩:=zX9 (beN (a.take j))
   rw[l] at f A ⊢;have F:=O f;clear f l u;have H:(0:Int)≤(j:Int):=by omega
   have I:(j:Int)<(k:Int):=by omega
   have R:=GG y q A b;go_wp2
   go_round
   case rel=>exact⟨j+1,by omega,by go_num,by rw[F.out];simp⟩
   case measure=>simp[intOf];omega
  ·obtain rfl:j=k:=by omega
   go_wp2;go_ret;refine⟨rfl,?_,(aA.refl (fun i=>i=cb) w).setCell (p:=⟨cb,0,none⟩) (fun _=>rfl) _⟩;have:=dX C.out 0 (.slice (some ⟨g,p+j,none⟩) (m-j) (c-j));exact this
open Go.RowKit Go.Maps Go.ChangeMaps
set_option maxRecDepth 100000
set_option linter.unusedVariables false
def zPt:Pt:=⟨[],0,0,fC⟩
theorem GJ(w:World):(zeroValue 27).run prog w=.ok (.agg (aF (.slice none 0 0) zPt).toArray) w:=by kernel_rfl
def As(b:List UInt8)(i:Nat):Ad:=⟨(beN ((b.drop (1+3*i)).take 1):Int),(beN ((b.drop (1+3*i+1)).take 2):Int)⟩
def eC(b:List UInt8)(k:Nat):List Ad:=(List.range (min (beN (b.take 1)) k)).map (As b)
def gZ(b:List UInt8):Pt:=⟨eC b 3,(beN ((b.drop 10).take 4):Int),(beN ((b.drop 14).take 1):Int),b.drop 15⟩
def lZ(b:List UInt8):Bool:=decide (b.length=47) && (gZ b).may && decide (ptB (gZ b)=b)
theorem qG(b:List UInt8)(k:Nat):eC b (k+1)=eC b k++if k<beN (b.take 1) then [As b k] else []:=by
 unfold eC
 by_cases h:k<beN (b.take 1)
 ·rw[if_pos h,Nat.min_eq_right (by omega),Nat.min_eq_right (by omega),List.range_succ,List.map_append]
  rfl
 ·rw[if_neg h,Nat.min_eq_left (by omega),Nat.min_eq_left (by omega),List.append_nil]
theorem xF(l:List UInt8)(k:Nat)(h:l.length≤k):beN l<256 ^ k:=Nat.lt_of_lt_of_le (Es l) (Nat.pow_le_pow_right (by omega) h)
theorem Ev(h:n<16777216):wO (n:Int):=⟨by omega,by omega⟩
theorem GK(b:List UInt8)(i:Nat):dS (As b i):=by
 have a:=xF ((b.drop (1+3*i)).take 1) 1 (by simp;omega);have d:=xF ((b.drop (1+3*i+1)).take 2) 2 (by simp;omega);exact⟨Ev (by omega),Ev (by omega)⟩
theorem Ew(b:List UInt8)(k:Nat):jE (eC b k):=fun x a=>by
 unfold eC at a;obtain⟨i,-,rfl⟩:=List.mem_map.1 a;exact GK b i
structure RdW(w wr:World)(rb cb pb g o c B off n:Nat)(v:Value)(q:Pt):Prop where
 res:wr.heap[rb]?=some (.cells (aF (.slice none 0 0) zPt).toArray 27 (0,0))
 cur:DM wr cb g (o+off) (47-off) (c-off)
 pt:wr.heap[pb]?=some (.cells (aF v q).toArray 27 (0,0))
 row:wr.ownsRow B 82 2 v n (aR q.addrs)
 keep:aA aB w wr
 ord:w.heap.size≤rb/\rb<cb/\cb<pb/\pb<B
 sz:B≤wr.heap.size
theorem RdW.same{wr:World}(h:RdW w wr rb cb pb g o c B off n v q)(k:aA aB wr w'):RdW w w' rb cb pb g o c B off n v q:=
 ⟨k.blk h.res id,k.blk h.cur id,k.blk h.pt id,k.owns h.row fun _ _=>id,h.keep.trans k,h.ord,Nat.le_trans h.sz k.size⟩
theorem RdW.num{wr:World}(h:RdW w wr rb cb pb g o c B off n v q)(d:DM w' cb g (o+off+k) (47-off-k) (c-off-k))(a:aA (fun i=>i=cb) wr w'):RdW w w' rb cb pb g o c B (off+k) n v q:=by
 obtain⟨f,j,l,m⟩:=h.ord;refine⟨a.blk h.res (by omega),?_,a.blk h.pt (by omega),a.owns h.row (fun i b e=>by have:=bM h.row b;omega),h.keep.trans' a (U:=aB) (fun _ _ h=>h) (fun i b e=>by omega),h.ord,Nat.le_trans h.sz a.size⟩;rw[←Nat.add_assoc,Nat.sub_add_eq,Nat.sub_add_eq];exact d
theorem RdW.put{wr:World}{m:Nat}{u:Value}{r:Pt}(h:RdW w wr rb cb pb g o c B off n v q)(f:w'.heap[pb]?=some (.cells (aF u r).toArray 27 (0,0)))(j:w'.ownsRow B 82 2 u m (aR r.addrs))(b:aA (fun i=>i=pb\/v.ownBlock=some i) wr w'):RdW w w' rb cb pb g o c B off m u r:=by
 obtain⟨l,s,t,x⟩:=h.ord
 have a:∀i,i<pb->¬(i=pb\/v.ownBlock=some i):=fun i d e=>by
  rcases e with e|e
  ·omega
  ·have:=bM h.row e;omega
 exact⟨b.blk h.res (a _ (by omega)),b.blk h.cur (a _ (by omega)),f,j,h.keep.trans' b (U:=aB) (fun _ _ h=>h) (fun i d e=>a i (by omega) e),h.ord,Nat.le_trans h.sz b.size⟩
theorem J4(v u:Value)(q:Pt)(l:List Ad):(aF v q).toArray.setIfInBounds 0 u=(aF u ⟨l,q.birth,q.level,q.sum⟩).toArray:=by rw[List.setIfInBounds_toArray];rfl
theorem J5(v:Value)(q:Pt)(x:Int):(aF v q).toArray.setIfInBounds 1 (.int .i64 x)=(aF v ⟨q.addrs,x,q.level,q.sum⟩).toArray:=by rw[List.setIfInBounds_toArray];rfl
theorem J6(v:Value)(q:Pt)(x:Int):(aF v q).toArray.setIfInBounds 2 (.int .i64 x)=(aF v ⟨q.addrs,q.birth,x,q.sum⟩).toArray:=by rw[List.setIfInBounds_toArray];rfl
theorem Mq(v:Value)(q:Pt)(s:List UInt8)(b:q.sum.length=32)(a:s.length=32):spl (aF v q).toArray 3 (s.map vb)=(aF v ⟨q.addrs,q.birth,q.level,s⟩).toArray:=by
 apply Array.ext_getElem?;intro j;rw[nO _ _ _ _ (by rw[List.size_toArray,aJ b,List.length_map,a];exact Nat.le_refl _)];simp only[List.getElem?_toArray,List.length_map,a]
 by_cases d:3≤j
 ·by_cases f:j<35
  ·rw[if_pos (by omega)]
   have e:(aF v ⟨q.addrs,q.birth,q.level,s⟩)[j]?=(s.map vb)[j-3]?:=by
    unfold aF;obtain⟨i,rfl⟩:∃i,j=i+3:=⟨j-3,by omega⟩
    simp
   rw[e]
  ·rw[if_neg (by omega),List.getElem?_eq_none (by rw[aJ b];omega),List.getElem?_eq_none (by rw[aJ (p:=⟨q.addrs,q.birth,q.level,s⟩) a];omega)]
 ·rw[if_neg (by omega)]
  have:j=0\/j=1\/j=2:=by omega
  rcases this with rfl|rfl|rfl<;>rfl
def A8(b a:Int):List PanicEntry:=[{ v:=.iface 234 (.agg #[.int .i64 b,.int .i64 a]),recovered:=false }]
def oB(w:World)(b:List UInt8)(e:Ending)(w':World):Prop:=
 aA aB w w'/\if lZ b then ∃v,e=.returned (.agg (aF v (gZ b)).toArray)/\w'.ownsRow w.heap.size 82 2 v (gZ b).addrs.length (aR (gZ b).addrs)
  else if b.length=47 then e=.panicked (A8 2 0) else e=.panicked (A8 4 (min b.length 47))
theorem GL{l:List UInt8}(h:Rd w 1 v n (l.map vb))(t:l.length=n){x:UInt8}(d:l[k]?=some x):∃g o b,v=.slice (some ⟨g,o,none⟩) n b/\w.cell? ⟨g,o+k,none⟩=some (.int .u8 (x.toNat:Int)):=by
 obtain⟨h0,a,b,rfl,m,r,s,e⟩:=h;have j:=(List.getElem?_eq_some_iff.1 d).1;obtain⟨g,o,rfl,f⟩:=e (by rw[List.length_map];omega);exact⟨g,o,b,rfl,f k _ (by rw[List.getElem?_map,d];rfl)⟩
theorem zQ(w:World)(x:Int):(Instr.build 182 #[(0,.int .i64 x)]).run prog w=.ok (.agg #[.int .i64 x,.int .i64 0]) w:=by kernel_rfl
theorem A9(w:World)(x y:Int):(Instr.build 234 #[(0,.agg #[.int .i64 x,.int .i64 y])]).run prog w=.ok (.agg #[.int .i64 x,.int .i64 y]) w:=by kernel_rfl
theorem Iq(w:World)(v v2:Value)(l m:List UInt8)(F:Rd w 1 v l.length (l.map vb))(M:Rd w 1 v2 m.length (m.map vb)):Calls prog 214 #[v,v2] w (aY w (decide (l=m))):=by
 obtain⟨la,lc,rfl,-,-⟩:=F.form;obtain⟨ma,mc,rfl,-,-⟩:=M.form;have u:l.length≤maxLen:=by obtain⟨_,a',c',J,h2,h3,-⟩:=F;omega
 unfold maxLen at u;obtain⟨bb,d⟩:=zX9 (decide (l=m))
 have a:=O d;rw[d];clear d;obtain⟨n,N⟩:=zX9 l.length
 obtain⟨q,P⟩:=zX9 m.length
 have S:=O F;have T:=O M;have D:=O N;have E:=O P;rw[N] at S u ⊢;rw[P] at T ⊢;clear F M N P
 by_cases z:n=q
 ·subst z
  go_in;go_wp2_with fail
  go_loopw [13] (fun t wr=>∃k:Nat,k≤n/\t=.int .i64 k/\Hid (l.take k=m.take k)/\Hid (aA aB w wr)) (fun t _=>n-(intOf t).toNat)
  case atStart=>exact⟨0,Nat.zero_le _,rfl,O (by simp),O (aA.refl _ _)⟩
  case round =>
  obtain⟨k,hk,rfl,U,r⟩:=hrel
  by_cases s:k<n
  ·have qd:(k:Int)<(n:Int):=by omega
   have qc:(0:Int)≤(k:Int):=by omega
   obtain⟨x,Q⟩:∃x,l[k]?=some x:=⟨l[k]'(by rw[D.out];exact s),List.getElem?_eq_getElem _⟩
   obtain⟨y,R⟩:∃x,m[k]?=some x:=⟨m[k]'(by rw[E.out];exact s),List.getElem?_eq_getElem _⟩
   have Z:=S.keep r.out fun _ _=>id
   obtain⟨p,o,qa,hv,hc⟩:=GL Z (by rw[D.out]) Q;have I:la=some ⟨p,o,none⟩:=by cases hv;rfl
   subst I;have A:=T.keep r.out fun _ _=>id
   obtain⟨p2,o2,X,C,qb⟩:=GL A (by rw[E.out]) R;have I:ma=some ⟨p2,o2,none⟩:=by cases C;rfl
   subst I;have V:=O Q;have W:=O R;obtain⟨bi,K⟩:=zX9 (((x.toNat:Int) != (y.toNat:Int)))
   have j:=O K;clear Z A hv C Q R;cases bi
   ·have e:x=y:=by
     have h:=j.out;simp only[bne_eq_false_iff_eq] at h;exact UInt8.toNat_inj.1 (by omega)
    have H:Hid (l.take (k+1)=m.take (k+1)):=O (by rw[List.take_add_one,List.take_add_one,U.out,V.out,W.out,e]);clear e;go_wp2_with fail
    go_quiet (fail)
    go_wp2_with fail;have G:=O (r.drewN nq)
    go_roundw
    case rel=>exact⟨k+1,by omega,by go_num,H,G⟩
    case measure=>simp[intOf];omega
   ·have f:bb=false:=by
     rw[←a.out];refine decide_eq_false fun e=>?_
     have J:=V.out;rw[e,W.out] at J;cases J
     have:=j.out;simp at this
    subst f;go_wp2_with fail
    go_quiet (fail)
    go_wp2;go_ret;exact⟨rfl,r.drewN nq⟩
  ·obtain rfl:n=k:=by omega
   have L:bb=true:=by
    rw[←a.out];refine decide_eq_true ?_;have h:=U.out
    rwa [List.take_of_length_le (by rw[D.out];exact Nat.le_refl _),List.take_of_length_le (by rw[E.out];exact Nat.le_refl _)] at h
   subst L;go_wp2;go_ret;exact⟨rfl,r.out⟩
 ·have f:bb=false:=by
   rw[←a.out];exact decide_eq_false fun e=>z (by rw[←D.out,←E.out,e])
  subst f;have Y:((n:Int) != (q:Int))=true:=by simp;omega
  go_in;go_wp2;go_ret;exact⟨rfl,aA.refl _ _⟩
theorem J7(w:World)(bv:Value)(b:List UInt8)(hr:Rd w 1 bv b.length (b.map vb))(hl:b.length=47):Calls prog 164 #[bv] w (oB w b):=by
 obtain⟨g,o,c,rfl,N⟩:∃g o c,bv=.slice (some ⟨g,o,none⟩) 47 c/\w.rangeAt g o (b.map vb):=by
  obtain⟨h0,a,xd,rfl,h2,h3,h4,h5⟩:=hr;obtain⟨g,o,rfl,hc⟩:=h5 (by simp;omega);exact⟨g,o,xd,by rw[hl],hc⟩
 have xr:47≤c/\c≤9223372036854775807:=by
  obtain⟨_,a',c',h1,h2,h3,-⟩:=hr;unfold maxLen at h3;injection h1 with e1 e2 e3
  omega
 have Y:=O hl
 have P:=O (fun wx (k:aA aB w wx) (off:Nat)=>(show wx.rangeAt g (o+off) ((b.drop off).map vb) from fun j v hj=>by
  rw[List.map_drop,List.getElem?_drop] at hj;rw[Nat.add_assoc];exact(k.rangeAt N) (off+j) v hj))
 have zl:=O (fun wx (k:aA aB w wx)=>hr.keep k fun _ _=>id);rw[hl] at zl;have hz:=GJ;obtain⟨zc,qm⟩:=zX9 (aF (.slice none 0 0) zPt)
 have zd:zc.length=35:=by rw[←qm];rfl
 have HZ:=O qm;rw[qm] at hz;obtain⟨wa,z0,ka,ha,sa⟩:=aV w zc.toArray 27;obtain⟨wb,xo,kb,hb,sb⟩:=aV wa #[.slice (some ⟨g,o,none⟩) 47 c] 299;obtain⟨wc,z1,kc,hc,sc⟩:=aV wb zc.toArray 27;obtain⟨rb,qk⟩:=zX9 w.heap.size
 obtain⟨cb,zr⟩:=zX9 wa.heap.size
 obtain⟨pb,q3⟩:=zX9 wb.heap.size
 obtain⟨B,hB⟩:=zX9 wc.heap.size
 rw[qk] at ha;rw[zr] at hb;rw[q3] at hc;have qc:Hid (RdW w wc rb cb pb g o c B 0 0 (.slice none 0 0) zPt):=O ⟨by rw[HZ.out];exact kc.blk (kb.blk ha id) id,kc.blk hb id,by rw[HZ.out];exact hc,World.ownsRow_nil _ _ _ _,(ka.trans kb).trans kc,by omega,by omega⟩;have xq:=O qk;have xw:=O hB;clear hr N ha hb hc sa sb sc ka kb kc hl qm;go_in
 go_wp2_with (first
  | ((with_reducible show WL (some 2) (.alloc 27));refine aS rfl 27 rfl _ hz zc.toArray rfl ?_;rw[z0,qk])
  | ((with_reducible show WL (some 4) (.alloc 27));refine aS rfl 27 rfl _ hz zc.toArray rfl ?_;rw[z1,q3]))
 refine(rC _ cb g (o+(0)) (47-(0)) (c-(0)) 1 (b.drop (0)) qc.cur (P _ qc.keep _) (by rw[List.length_drop,Y.out]) (by omega) (by omega) (by omega) (by omega) (by omega)).mono ?_;rintro e w1 ⟨rfl,f,y⟩;have zn:=O (qc.num f y);clear f y;obtain⟨mn,qh⟩:=zX9 (beN (b.take 1))
 have xv:mn<256:=by rw[←qh];exact xF _ 1 (by simp;omega)
 have qa:=O qh;rw[List.drop_zero,qh];clear qh qc z0 xo z1 qk zr q3 hB;go_wp2_with fail
 go_loopw [24] (fun i wr=>∃(k m:Nat) (L:Option Addr) (pc:Nat),k≤3/\m≤k/\i=.int .i64 k/\Hid ((eC b k).length=m)/\Hid (RdW w wr rb cb pb g o c B (1+3*k) m (.slice L m pc) ⟨eC b k,0,0,fC⟩)) (fun i _=>3-(intOf i).toNat)
 case atStart=>exact⟨0,0,none,0,by omega,by omega,rfl,O (by simp[eC]),O (by
  have h:=zn.out;have e:eC b 0=[]:=by simp[eC]
  rw[e];exact h)⟩
 case round =>
 clear zn;obtain⟨k,m,L,z,hk,x1,rfl,qb,Z⟩:=hrel
 by_cases x0:k<3
 ·have xz:(k:Int)<3:=by omega
  have xy:(0:Int)≤(k:Int):=by omega
  have xe:=GK b k;obtain⟨d,hd⟩:=zX9 (beN ((b.drop (1+3*k)).take 1))
  obtain⟨s,hs⟩:=zX9 (beN ((b.drop (1+3*k+1)).take 2))
  have z2:Hid (As b k=⟨(d:Int),(s:Int)⟩):=O (by unfold As;rw[hd,hs]);have HD:=O hd;have HS:=O hs;have xx:=NT (d:Int) (s:Int);clear hd hs xe;go_wp2_with fail;refine(rC _ cb g (o+(1+3*k)) (47-(1+3*k)) (c-(1+3*k)) 1 (b.drop (1+3*k)) Z.cur (P _ Z.keep _) (by rw[List.length_drop,Y.out]) (by omega) (by omega) (by omega) (by omega) (by omega)).mono ?_;rintro e w2 ⟨rfl,f,y⟩;have A:=O (Z.num f y);clear f y;rw[HD.out];go_wp2_with fail;refine(rC _ cb g (o+(1+3*k+1)) (47-(1+3*k+1)) (c-(1+3*k+1)) 2 (b.drop (1+3*k+1)) A.cur (P _ A.keep _) (by rw[List.length_drop,Y.out]) (by omega) (by omega) (by omega) (by omega) (by omega)).mono ?_;rintro e w3 ⟨rfl,f,y⟩;have F:=O (A.num f y);clear f y;rw[HS.out];clear Z A;obtain⟨w4,zz,zs,qx,xk⟩:=aV w3 #[.int .i64 0,.int .i64 0] 82;obtain⟨ab,R⟩:=zX9 w3.heap.size
  rw[R] at qx;have zg:=O qx;have C:=O (F.same zs);have qn:Hid (w.heap.size≤ab/\pb<ab/\∀i,(Value.slice L m z).ownBlock=some i->i<ab):=O ⟨by rw[←R];exact F.keep.size,by rw[←R];exact lt_of_block F.pt,fun i D=>by rw[←R];exact(F.row.lt i D).2⟩;clear zs qx xk
  by_cases qg:k<mn
  ·have q0:(k:Int)<(mn:Int):=by omega
   have xh:decide ((k:Int)<(mn:Int))=true:=decide_eq_true q0
   go_wp2_with (first
    | ((with_reducible show WL (some 7) (.alloc 82));refine aS rfl 82 rfl eR eJ #[.int .i64 0,.int .i64 0] rfl ?_;rw[zz,R])
    | ((with_reducible show WL none (.store 82 (.tmp 7) (.tmp 31)));refine aQ rfl 82 (.tmp 7) (.tmp 31) rfl ab 0 (aO ⟨(d:Int),(s:Int)⟩) rfl rfl #[.int .i64 0,.int .i64 0] 82 zg.out (Nat.le_refl _) bV (bN _) ?_
       intro K I l;rw[aI _ _ (by rfl)] at I;have ze:=O I
       have G:Hid (RdW w K rb cb pb g o c B (1+3*k+1+2) m (.slice L m z) ⟨eC b k,0,0,fC⟩):=O (by
        have h:=C.out;obtain⟨o1,o2,o3,o4⟩:=h.ord;have h7:=qn.out;have M:∀i,i<ab->¬i=ab:=fun i D=>by omega
        exact⟨l.blk h.res (M _ (by omega)),l.blk h.cur (M _ (by omega)),l.blk h.pt (M _ (by omega)),l.owns h.row (fun i D e=>by have:=h7.2.2 i D;omega),h.keep.trans' l (U:=aB) (fun _ _ h=>h) (fun i D e=>by omega),h.ord,Nat.le_trans h.sz l.size⟩)
       clear I l;have a5:K.cell? ⟨pb,0,none⟩=some (.slice L m z):=aD G.pt rfl;obtain⟨w6,xn,zt,qy,xl⟩:=aV K (aO ⟨(d:Int),(s:Int)⟩).toArray 82;obtain⟨bx,zq⟩:=zX9 K.heap.size
       rw[zq] at qy;have z7:Hid (Rd w6 2 (.slice bx 1 1) 1 (aO ⟨(d:Int),(s:Int)⟩)):=O (eQ (n:=1) (size:=2) (vs:=aO ⟨(d:Int),(s:Int)⟩) qy rfl (by unfold maxLen;omega));have r:=O (G.same zt);have zy:B≤w6.heap.size:=r.sz;clear zt qy xl)
    | ((with_reducible show WL _ (.load 82 (.tmp 7)));refine wpList_load_mid rfl 82 (.tmp 7) rfl ab 0 rfl (aO ⟨(d:Int),(s:Int)⟩) _ (aC ze.out) bQ rfl bV ?_)
    | ((with_reducible show WL _ (.buildSlice _ 1 _));refine cO rfl 23 82 (.tmp 37) rfl underlying23 tG (by decide) (aO ⟨(d:Int),(s:Int)⟩) rfl (by decide) rfl ?_;rw[xn,zq])
    | (at_builtin;refine aP rfl (.tmp 36) (.tmp 38) 23 rfl B 82 eR 2 16 underlying23 tG rfl (by decide) (.slice L m z) m (aR (eC b k)) rfl r.row (.slice bx 1 1) 1 (aO ⟨(d:Int),(s:Int)⟩) rfl z7.out (bN _) (by unfold maxLen;omega) (by omega) zy ?_
       intro v' X q1 l xi I;obtain⟨va,vc,rfl,-,-⟩:=(Rd.of_owns q1).form;have qi:=l.blk r.pt (fun e=>by have:=bM r.row e;have:=r.ord;omega);have xt:X.cell? ⟨pb,0,none⟩=some (.slice L m z):=aD qi rfl;have xu:=dF qi 0;have z5:=O qi;have z3:=O l
       have zk:Hid (X.ownsRow B 82 2 (.slice va (m+1) vc) (m+1) (aR (eC b (k+1)))):=O (by
        rw[qG,if_pos (by rw[qa.out];exact qg),z2.out,nT,zL];exact q1)
       clear q1 l xi I qi))
   have J:Hid (RdW w (X.setCell ⟨pb,0,none⟩ (.slice va (m+1) vc)) rb cb pb g o c B (1+3*(k+1)) (m+1) (.slice va (m+1) vc) ⟨eC b (k+1),0,0,fC⟩):=O (by
    have e:1+3*(k+1)=1+3*k+1+2:=by omega
    have E:aA (fun i=>i=pb) X (X.setCell ⟨pb,0,none⟩ (.slice va (m+1) vc)):=(aA.refl (fun i=>i=pb) X).setCell (p:=⟨pb,0,none⟩) (fun _=>rfl) _;rw[e];refine r.put ?_ (E.owns zk.out (fun i D e=>by have:=bM zk.out D;have:=r.ord;omega)) ((z3.mono (fun _ _ h=>.inr h)).tT E (fun i D e=>.inl e));rw[dX z5.out,J4 _ _ _ (eC b (k+1))])
   have qv:Hid ((eC b (k+1)).length=m+1):=O (by rw[qG,if_pos (by rw[qa.out];exact qg),List.length_append,qb.out];rfl)
   go_roundw
   case rel=>exact⟨k+1,m+1,va,vc,by omega,by omega,by go_num,qv,J⟩
   case measure=>simp[intOf];omega
  ·have q0:¬(k:Int)<(mn:Int):=by omega
   have xh:decide ((k:Int)<(mn:Int))=false:=decide_eq_false q0
   go_wp2_with (first
    | ((with_reducible show WL (some 7) (.alloc 82));refine aS rfl 82 rfl eR eJ #[.int .i64 0,.int .i64 0] rfl ?_;rw[zz,R])
    | ((with_reducible show WL none (.store 82 (.tmp 7) (.tmp 31)));refine aQ rfl 82 (.tmp 7) (.tmp 31) rfl ab 0 (aO ⟨(d:Int),(s:Int)⟩) rfl rfl #[.int .i64 0,.int .i64 0] 82 zg.out (Nat.le_refl _) bV (bN _) ?_
       intro K I l;rw[aI _ _ (by rfl)] at I;have ze:=O I
       have G:Hid (RdW w K rb cb pb g o c B (1+3*k+1+2) m (.slice L m z) ⟨eC b k,0,0,fC⟩):=O (by
        have h:=C.out;obtain⟨o1,o2,o3,o4⟩:=h.ord;have h7:=qn.out;have M:∀i,i<ab->¬i=ab:=fun i D=>by omega
        exact⟨l.blk h.res (M _ (by omega)),l.blk h.cur (M _ (by omega)),l.blk h.pt (M _ (by omega)),l.owns h.row (fun i D e=>by have:=h7.2.2 i D;omega),h.keep.trans' l (U:=aB) (fun _ _ h=>h) (fun i D e=>by omega),h.ord,Nat.le_trans h.sz l.size⟩)
       clear I l
       skip))
   have J:Hid (RdW w K rb cb pb g o c B (1+3*(k+1)) m (.slice L m z) ⟨eC b (k+1),0,0,fC⟩):=O (by
    have e:1+3*(k+1)=1+3*k+1+2:=by omega
    have e2:eC b (k+1)=eC b k:=by rw[qG,if_neg (by rw[qa.out];exact qg),List.append_nil]
    rw[e,e2];exact G.out)
   have qv:Hid ((eC b (k+1)).length=m):=O (by rw[qG,if_neg (by rw[qa.out];exact qg),List.append_nil];exact qb.out)
   go_roundw
   case rel=>exact⟨k+1,m,L,z,by omega,by omega,by go_num,qv,J⟩
   case measure=>simp[intOf];omega
 ·obtain rfl:k=3:=by omega
  have Z:=O (show RdW w wr rb cb pb g o c B 10 m (.slice L m z) ⟨eC b 3,0,0,fC⟩ from Z.out);obtain⟨bi,zp⟩:=zX9 (beN ((b.drop 10).take 4))
  obtain⟨le,zw⟩:=zX9 (beN ((b.drop (10+4)).take 1))
  have zh:=O zp;have zj:=O zw;have V:Hid ((b.drop 15).length=32):=O (by rw[List.length_drop,Y.out]);clear zp zw;go_wp2_with fail;refine(rC _ cb g (o+(10)) (47-(10)) (c-(10)) 4 (b.drop (10)) Z.cur (P _ Z.keep _) (by rw[List.length_drop,Y.out]) (by omega) (by omega) (by omega) (by omega) (by omega)).mono ?_;rintro e w2 ⟨rfl,f,y⟩;have A:=O (Z.num f y);clear f y;rw[zh.out];have k0:=aD A.pt (i:=1) rfl;have kf:=dF A.pt 1;obtain⟨w3,za⟩:=zX9 (w2.setCell ⟨pb,1,none⟩ (.int .i64 (bi:Int)))
  have F:Hid (RdW w w3 rb cb pb g o c B (10+4) m (.slice L m z) ⟨eC b 3,(bi:Int),0,fC⟩):=O (by
   have E:aA (fun i=>i=pb) w2 w3:=by rw[←za];exact(aA.refl (fun i=>i=pb) w2).setCell (p:=⟨pb,1,none⟩) (fun _=>rfl) _
   refine A.put ?_ (E.owns A.row (fun i D e=>by have:=bM A.row D;have:=A.ord;omega)) (E.mono (fun _ _ h=>.inl h));rw[←za,dX A.pt,J5 _ _ (bi:Int)])
  clear Z;go_wp2_with fail;clear k0 kf za A;refine(rC _ cb g (o+(10+4)) (47-(10+4)) (c-(10+4)) 1 (b.drop (10+4)) F.cur (P _ F.keep _) (by rw[List.length_drop,Y.out]) (by omega) (by omega) (by omega) (by omega) (by omega)).mono ?_;rintro e w4 ⟨rfl,f,y⟩;have C:=O (F.num f y);clear f y;rw[zj.out];have k0:=aD C.pt (i:=2) rfl;have kf:=dF C.pt 2;obtain⟨K,zb⟩:=zX9 (w4.setCell ⟨pb,2,none⟩ (.int .i64 (le:Int)))
  have G:Hid (RdW w K rb cb pb g o c B (10+4+1) m (.slice L m z) ⟨eC b 3,(bi:Int),(le:Int),fC⟩):=O (by
   have E:aA (fun i=>i=pb) w4 K:=by rw[←zb];exact(aA.refl (fun i=>i=pb) w4).setCell (p:=⟨pb,2,none⟩) (fun _=>rfl) _
   refine C.put ?_ (E.owns C.row (fun i D e=>by have:=bM C.row D;have:=C.ord;omega)) (E.mono (fun _ _ h=>.inl h));rw[←zb,dX C.pt,J6 _ _ (le:Int)])
  go_wp2_with fail;clear k0 kf zb C F;obtain⟨S,qe⟩:∃S:World->Prop,S=fun w'=>aA (fun i=>i=pb) K w':=⟨_,rfl⟩
  have qw:=O (show ∀w',S w'->aA (fun i=>i=pb) K w' from fun w' h=>by rw[qe] at h;exact h);have zm:=O (show ∀w',aA (fun i=>i=pb) K w'->S w' from fun w' h=>by rw[qe];exact h);have r:=O (G.same (aA.refl aB K).drew);have hS:S K.drew:=by rw[qe];exact(aA.refl _ _).drew
  have zi:=O (fun w' (h:S w')=>(aD ((qw w' h).blk G.cur (by have:=G.ord;omega)) rfl:w'.cell? ⟨cb,0,none⟩=some (.slice (some ⟨g,o+(10+4+1),none⟩) (47-(10+4+1)) (c-(10+4+1)))));refine wp_region_held (S:=S) (by kernel_rfl) ?_;change wpAnyH _ _ _ _ _ _ _ _ K.drew;generalize K.drew=w6 at hS r ⊢;refine tkb 0 (.pointer (some ⟨pb,3,none⟩)) rfl hS ?_;simp only[Act.put,List.setIfInBounds_toArray,List.set_cons_zero,List.set_cons_succ,List.getElem_toArray,List.getElem_cons_zero];refine tnb 1 (.slice (some ⟨pb,3,none⟩) 32 32) rfl hS ?_;refine tna 2 (.pointer cb) rfl hS ?_;refine tnb 3 (.pointer cb) rfl hS ?_;refine tnb 4 (.pointer cb) rfl hS ?_;refine tnd 5 (.slice (some ⟨g,o+(10+4+1),none⟩) (47-(10+4+1)) (c-(10+4+1))) rfl (.inl ⟨by rfl,fun w' xm=>by have c:=zi.out w' xm;go_simp⟩) hS ?_;refine wA9 6 ?_;refine tE rfl (.tmp 49) (.tmp 53) 109 109 rfl 5 underlying109 AV pb 3 32 32 rfl _ 32 ((b.drop 15).map vb) rfl ⟨by rw[List.length_map,V.out],some ⟨g,o+15,none⟩,c-15,rfl,by omega,by unfold maxLen;omega,(by intro h;cases h),fun _=>⟨g,o+15,rfl,fun i u hu=>P.out _ r.keep 15 i u hu⟩⟩ 32 rfl _ _ r.pt (by rw[List.size_toArray,aJ (p:=⟨eC b 3,(bi:Int),(le:Int),fC⟩) rfl];decide) (bT _) ?_;intro X qz qf;rw[List.take_of_length_le (by rw[List.length_map,V.out];exact Nat.le_refl _),Mq _ _ _ rfl V.out] at qz
  have qd:Hid (RdW w X rb cb pb g o c B (10+4+1) m (.slice L m z) (gZ b)):=O (by
   have e:gZ b=⟨eC b 3,(bi:Int),(le:Int),b.drop 15⟩:=by unfold gZ;rw[zh.out,zj.out]
   rw[e];exact r.put qz (qf.owns r.row (fun i D e=>by have:=bM r.row D;have:=r.ord;omega)) (qf.mono (fun _ _ h=>.inl h)))
  have zo:S X:=zm.out _ ((qw _ hS).trans qf);clear qz qf hS qe;refine wpList_nil ?_;refine⟨zo,?_⟩;refine wpAnyH_done (by kernel_rfl) ?_ _;clear zo qw zm zi r G
  have z6:Hid (PtV X (.slice L m z) (gZ b)):=O ⟨by
   have h:=Rd.of_owns qd.row;have e:(gZ b).addrs.length=m:=qb.out;rw[e];exact h,Ew b 3,V.out⟩
  have Q:=O (aC qd.pt);obtain⟨pc,qj⟩:=zX9 (aF (.slice L m z) (gZ b))
  have W:pc.length=35:=by rw[←qj];exact aJ V.out
  have qt:=O qj;have qr:=O (xC X _ _ z6.out);rw[qj] at Q qr;obtain⟨t,ht⟩:=zX9 ((gZ b).may)
  have HT:=O ht;clear qj ht
  go_wp2_with (first
   | ((with_reducible show WL _ (.load 27 (.tmp 4)));refine wpList_load_mid rfl 27 (.tmp 4) rfl (pb) 0 rfl pc _ Q.out aG rfl (cU W) ?_))
  refine qr.mono ?_;rintro e w8 ⟨v8,rfl,zx,zu⟩;have J:=O (qd.same zu);have q9:=Rd.of_owns zx;obtain⟨xa,xc,rfl,-,-⟩:=q9.form;have xb:=O q9;rw[HT.out];clear zx zu q9 qr Q qd;cases t
  ·have qu:Hid (∀w' e,aA aB w w'->e=.panicked (A8 2 0)->oB w b e w'):=O (fun w' e k he=>by
    unfold oB;rw[show lZ b=false by unfold lZ;rw[HT.out];simp,if_neg (by decide),if_pos Y.out];exact⟨k,he⟩)
   have xf:=fun w=>zQ w 2
   have xg:=fun w=>A9 w 2 0
   go_wp2_with fail;exact⟨rfl,qu _ _ J.keep rfl⟩
  ·obtain⟨u,hu⟩:=zX9 (decide (ptB (gZ b)=b))
   have HU:=O hu;have T:=Iq w8 _ (.slice (some ⟨g,o,none⟩) 47 c) (ptB (gZ b)) b xb.out (by rw[Y.out];exact zl.out _ J.keep);rw[hu] at T;have T:=O T;clear hu;go_wp2_with fail;refine T.mono ?_;rintro e w9 ⟨rfl,zv⟩;have H:=O (J.same zv);have Q:=O (aC H.pt);rw[qt.out] at Q;clear zv T J;cases u
   ·have qu:Hid (∀w' e,aA aB w w'->e=.panicked (A8 2 0)->oB w b e w'):=O (fun w' e k he=>by
     unfold oB;rw[show lZ b=false by unfold lZ;rw[HU.out];simp,if_neg (by decide),if_pos Y.out];exact⟨k,he⟩)
    have xf:=fun w=>zQ w 2
    have xg:=fun w=>A9 w 2 0
    go_wp2_with fail;exact⟨rfl,qu _ _ H.keep rfl⟩
   ·have q5:=H.res
    rw[HZ.out] at q5;have z9:=O q5
    have xj:∀x∈pc,x.oneCell'=true:=by
     intro x hx;rw[←qt.out] at hx;unfold aF at hx;simp only[List.mem_cons] at hx;rcases hx with rfl|rfl|rfl|hx
     ·rfl
     ·rfl
     ·rfl
     ·exact bT _ x hx
    clear q5
    go_wp2_with (first
     | ((with_reducible show WL _ (.load 27 (.tmp 4)));refine wpList_load_mid rfl 27 (.tmp 4) rfl (pb) 0 rfl pc _ Q.out aG rfl (cU W) ?_)
     | ((with_reducible show WL none (.store 27 (.tmp 2) (.tmp 71)));refine aQ rfl 27 (.tmp 2) (.tmp 71) rfl rb 0 pc rfl rfl zc.toArray 27 z9.out (by rw[W,List.size_toArray,zd];exact Nat.le_refl _) (cU W) xj ?_;intro xp qp qq;have zf:=O qp;have qo:=O qq;clear qp qq))
    refine bodyPost_ret (results_cell_row rfl _ _ rb _ _ _ _ rfl zf.out aG rfl (by rw[gH,List.size_toArray,zd];exact xB)) rfl ?_;have E:aA aB w xp:=H.keep.tT qo.out (fun i D e=>by have:=H.ord;omega);refine⟨E,?_⟩;rw[if_pos (by unfold lZ;rw[Y.out,HT.out,HU.out];rfl)];refine⟨_,by rw[aI _ _ (by rw[W,List.size_toArray,zd]),←qt.out],?_⟩;have e:(gZ b).addrs.length=m:=qb.out;rw[e];exact aW (qo.owns H.row (fun i D e=>by have:=bM H.row D;have:=H.ord;omega)) (by have:=H.ord;omega)
open Go.RowKit Go.Maps Go.ChangeMaps
set_option maxRecDepth 100000
set_option linter.unusedVariables false
theorem GM(w:World):(zeroValue 182).run prog w=.ok (.agg #[.int .i64 0,.int .i64 0]) w:=by kernel_rfl
theorem BZ{P:Program}{A:Func}{p q:Tmp}{j l:TypeId}(h:A.results=#[.cell p j,.cell q l])(tmps:Array Value)(w:World)(g f:Nat)(t C:TypeId)(e a:Array Value)(fr b:Nat×Nat)(d m:TypeDesc)
 (G:tmps.getD p undef=.pointer g) (E:w.heap[g]?=some (.cells e t fr)) (I:P.underlying j=some d) (D:(match d with|.struct _|.array _ _=>true|_=>false)=true) (F:(P.info? j).map (·.size)=some e.size)
 (x:tmps.getD q undef=.pointer f) (s:w.heap[f]?=some (.cells a C b)) (z:P.underlying l=some m) (r:(match m with|.struct _|.array _ _=>true|_=>false)=true) (u:(P.info? l).map (·.size)=some a.size) :
 (results A tmps).run P w=.ok (.tuple #[.agg e,.agg a]) w:=by
 have H:tmps[p]?.getD undef=.pointer g:=by simpa using G
 have y:tmps[q]?.getD undef=.pointer f:=by simpa using x
 simp[results,h,H,y,asAddr,run_loadVar_row w g t j e fr d E I D F,run_loadVar_row w f C l a b m s z r u]
theorem FZ(A F:Nat)(w:World) :
 CallsD prog 163 #[.pointer A,.pointer F] .returning w fun e d w'=>e=.returned (.tuple #[])/\d=.returning/\w'=w:=by
 refine callsD_of_wpS func163 rfl fun a f b=>?_
 apply wpS_seq;apply wpS_region;simp[wpOpsS,go_sem,recoverD,b,ntmps163,Exit.thenS];refine wpS_of_wp ?_;go_wp2_with fail;cases a
 simp_all [bodyPostS,results,results163]
open Go.RowKit Go.Maps Go.ChangeMaps
set_option maxRecDepth 100000
set_option linter.unusedVariables false
def NE(b:List UInt8):Int×Int:=if b.length=47 then (2,0) else (4,min b.length 47)
def J8(w:World)(b:List UInt8)(e:Ending)(w':World):Prop:=
 aA aB w w'/\if lZ b then ∃v,e=.returned (.tuple #[.agg (aF v (gZ b)).toArray,.agg #[.int .i64 0,.int .i64 0]])/\w'.ownsRow w.heap.size 82 2 v (gZ b).addrs.length (aR (gZ b).addrs)
  else e=.returned (.tuple #[.agg (aF (.slice none 0 0) zPt).toArray,.agg #[.int .i64 (NE b).1,.int .i64 (NE b).2]])
theorem cK{d:Option Addr}{b:Nat}(p:Pt):∀u∈aF (.slice d n b) p,u.oneCell'=true:=by
 intro x a;unfold aF at a;simp only[List.mem_cons] at a;rcases a with rfl|rfl|rfl|a
 ·rfl
 ·rfl
 ·rfl
 ·exact bT _ x a
theorem Mr(w:World)(bv:Value)(b:List UInt8)(hr:Rd w 1 bv b.length (b.map vb))(ht:lZ b=true):Calls prog 112 #[bv] w (J8 w b):=by
 have T:b.length=47:=by
  have h:=ht;unfold lZ at h;simp only[Bool.and_eq_true,decide_eq_true_eq] at h;exact h.1.1
 have HT:=O ht;have Z:=O (fun wx (k:aA aB w wx)=>J7 wx bv b (hr.keep k fun _ _=>id) T);obtain⟨a,ca,rfl,-,-⟩:=hr.form;obtain⟨n,hn⟩:=zX9 b.length
 rw[hn] at Z ⊢;have hz:=GJ;obtain⟨W,y⟩:=zX9 (aF (.slice none 0 0) zPt)
 have V:W.length=35:=by rw[←y];rfl
 have HZ:=O y;have HN:=O hn;rw[y] at hz;obtain⟨wa,qg,ka,ha,sa⟩:=aV w W.toArray 27;obtain⟨wb,qh,kb,hb,sb⟩:=aV wa #[.int .i64 0,.int .i64 0] 182;obtain⟨rb,J⟩:=zX9 w.heap.size
 obtain⟨K,R⟩:=zX9 wa.heap.size
 have qk:rb<K:=by omega
 rw[J] at ha;rw[R] at hb;have A:=O (kb.blk ha id);have z:=O hb;have P:=O (ka.trans kb);have j:=O J;have E:Hid (wb.heap.size=K+1):=O (by omega);have qj:∀(fn:Fn) (first Q:Array Value) (w:World),(Instr.makeFunc fn first Q).run prog w=.ok (.func fn first Q) w:=fun _ _ _ _=>rfl
 clear hr ka kb ha hb sa sb y hn ht T
 go_enter_defers func112,ntmps112
 go_wp2_with (first
  | ((with_reducible show WL (some 2) (.alloc 27));refine aS rfl 27 rfl _ hz W.toArray rfl ?_;rw[qg,J])
  | ((with_reducible show WL (some 3) (.alloc 182));refine aS rfl 182 rfl _ GM #[.int .i64 0,.int .i64 0] rfl ?_;rw[qh,R]))
 refine(Z _ P.out).mono ?_;intro e w4 d;unfold oB at d;obtain⟨r,d⟩:=d;have qe:=O (r.blk A.out id);have L:=O (r.blk z.out id);have qc:=O (P.trans r);have qi:Hid (K<w4.heap.size):=O (lt_of_block L.out);clear r A z Z;rw[HT.out] at d;rw[if_pos rfl] at d;obtain⟨v,rfl,s⟩:=d;obtain⟨m,hm⟩:=zX9 ((gZ b).addrs.length)
 have HM:=O hm;rw[hm] at s;obtain⟨va,vc,rfl,-,-⟩:=(Rd.of_owns s).form;have D:=O s
 have C:b.length=47:=by
  have h:=HT.out;unfold lZ at h;simp only[Bool.and_eq_true,decide_eq_true_eq] at h;exact h.1.1
 obtain⟨pc,l⟩:=zX9 (aF (.slice va m vc) (gZ b))
 have t:pc.length=35:=by rw[←l];exact aJ (by show (b.drop 15).length=32;rw[List.length_drop,C])
 have qf:∀u∈pc,u.oneCell'=true:=by rw[←l];exact cK _
 have qd:=O l;rw[l];clear s hm l C
 go_wp2_with (first
  | ((with_reducible show WL none (.store 27 (.tmp 2) (.tmp 6)));refine aQ rfl 27 (.tmp 2) (.tmp 6) rfl rb 0 pc rfl rfl W.toArray 27 qe.out (by rw[t,List.size_toArray,V];exact Nat.le_refl _) (cU t) qf ?_;intro w5 F H;rw[aI _ _ (by rw[t,List.size_toArray,V])] at F;have qa:=O (H.blk L.out (by omega));have X:=O F;have M:=O H;clear F H)
  | ((with_reducible show WL none (.store 182 (.tmp 3) (.tmp 7)));refine aQ rfl 182 (.tmp 3) (.tmp 7) rfl K 0 [.int .i64 0,.int .i64 0] rfl rfl #[.int .i64 0,.int .i64 0] 182 qa.out (Nat.le_refl _) mN (by simp[Value.oneCell']) ?_;intro w6 G I;rw[aI _ _ (by rfl)] at G;have Y:=O (I.blk X.out (by omega));have qb:=O G;have N:=O I;clear G I))
 refine leaves_cons (f:=163) (args:=#[.pointer rb,.pointer K]) (by simp) (by simp[go_sem]) ?_;refine(FZ _ _ _).mono ?_;rintro e u' ql ⟨rfl,rfl,rfl⟩;refine⟨_,BZ rfl _ _ rb K _ _ _ _ _ _ _ _ rfl Y.out aG rfl (by rw[List.size_toArray,t];exact xB) rfl qb.out underlying182 rfl mN,?_,?_⟩
 ·exact(qc.trans' M.out (U:=aB) (fun _ _ h=>h) (fun i S e=>by have:=j.out;omega)).tT N.out (fun i S e=>by have:=j.out;omega)
 ·rw[HT.out,if_pos rfl]
  refine⟨_,by rw[qd.out],?_⟩;rw[HM.out];have h5:=M.owns D.out (fun i S e=>by have:=bM D.out S;have:=E.out;omega);exact aW (N.owns h5 (fun i S e=>by have:=bM D.out S;have:=E.out;omega)) (by have:=j.out;have:=E.out;omega)
theorem MX(n k:Nat):be n (k+1)=be (n / 256) k++[UInt8.ofNat n]:=by
 unfold be;rw[List.range_succ,List.map_append,List.map_cons,List.map_nil]
 congr 1
 ·refine List.map_congr_left fun j a=>?_
  rw[List.mem_range] at a;unfold jI;rw[show 8*(k+1-1-j)=8*(k-1-j)+8 by omega,Nat.pow_add,Nat.mul_comm,←Nat.div_div_eq_div_mul]
 ·unfold jI
  simp
theorem OG(n:Nat):∀k,beN (be n k)=n % 256 ^ k:=by
 intro k
 induction k generalizing n with
 | zero=>simp[be,beN,Nat.mod_one]
 | succ k b =>
   rw[MX,uV,b];have a:(UInt8.ofNat n).toNat=n % 256:=by simp
   rw[a,Nat.pow_succ,Nat.mul_comm (256 ^ k) 256,Nat.mod_mul];omega
theorem pS{z:Int}(h0:0≤z)(h:z<256 ^ k):(beN (be z.toNat k):Int)=z:=by
 rw[OG,Nat.mod_eq_of_lt]
 ·exact Int.toNat_of_nonneg h0
 ·have:((z.toNat:Nat):Int)<((256 ^ k:Nat):Int):=by rw[Int.toNat_of_nonneg h0];simpa using h
  exact_mod_cast this
theorem GR{A B C:List UInt8}(a:A.length=i)(b:B.length=k):((A++(B++C)).drop i).take k=B:=by
 subst a b;rw[List.drop_left,List.take_left]
theorem IQ(p:Pt)(i:Nat)(h:i<3):((bR p).drop (1+3*i)).take 1=be (p.addrs.getD i zAd).dev.toNat 1/\((bR p).drop (1+3*i+1)).take 2=be (p.addrs.getD i zAd).sec.toNat 2:=by
 have a:i=0\/i=1\/i=2:=by omega
 rcases a with rfl|rfl|rfl<;>exact⟨rfl,rfl⟩
theorem KC(m:p.may=true)(h:i<3):As (bR p) i=p.addrs.getD i zAd:=by
 obtain⟨e,f⟩:=IQ p i h;obtain⟨d,s,j,l,r⟩:=JU (iL m).2.1 i;unfold As;rw[e,f,j];have a:=pS (z:=(d:Int)) (k:=1) (by omega) (by omega);have b:=pS (z:=(s:Int)) (k:=2) (by omega) (by omega);show (⟨_,_⟩:Ad)=_;rw[a,b]
theorem xW(u:p.sum.length=32)(b:p.may=true):gZ (bR p)=p:=by
 obtain⟨b1,r,d,s,e,t⟩:=iL b
 have m:beN ((bR p).take 1)=p.addrs.length:=by
  have h0:(bR p).take 1=be p.addrs.length 1:=rfl;have:=pS (z:=(p.addrs.length:Int)) (k:=1) (by omega) (by omega);rw[h0];rw[Int.toNat_natCast] at this
  exact_mod_cast this
 have l:eC (bR p) 3=p.addrs:=by
  unfold eC;rw[m,Nat.min_eq_left b1];apply List.ext_getElem?;intro i;rw[List.getElem?_map]
  by_cases a:i<p.addrs.length
  ·rw[List.getElem?_range a,Option.map_some,KC b (by omega),List.getD_eq_getElem?_getD,List.getElem?_eq_getElem a]
   rfl
  ·rw[List.getElem?_eq_none (by simpa using a),List.getElem?_eq_none (by omega)]
   rfl
 have l3:(bZ p 3).length=10:=fK p 3
 have f:((bR p).drop 10).take 4=be p.birth.toNat 4:=by
  unfold bR;rw[List.append_assoc,List.append_assoc];exact GR l3 (bL _ _)
 have h:((bR p).drop 14).take 1=be p.level.toNat 1:=by
  unfold bR;rw[List.append_assoc];exact GR (by rw[List.length_append,l3,bL]) (bL _ _)
 have j:(bR p).drop 15=p.sum:=by
  unfold bR;have:(bZ p 3++be p.birth.toNat 4++be p.level.toNat 1).length=15:=by rw[List.length_append,List.length_append,l3,bL,bL]
  rw[←this,List.drop_left]
 unfold gZ;rw[l,f,h,j,pS d (by omega),pS e (by omega)]
end
end Go.Proofs.YtiinnfhjpaeffaaGreat
