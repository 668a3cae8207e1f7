import Derived.Test.YtoeinblfcbpcmaaGreatR17
namespace Go.Proofs.YtoeinblfcbpcmaaGreat
open Tryz
set_option maxHeartbeats 0
set_option maxRecDepth 100000
set_option linter.unusedVariables false
section
open Go.RowKit Go.Maps Go.ChangeMaps
def DO(w:World)(cb g p m c:Nat):Prop:=w.heap[cb]?=some (.cells #[.slice (some ⟨g,p,none⟩) m c] 291 (0,0))
variable{n rb cb pb g o c B off k i:Nat}{w w':World}{v:Value}{q p:Pt}
theorem qV(w:World)(cb g p m c k:Nat)(a:List UInt8)(h:DO w cb g p m c)(z:w.rangeAt g p (a.map vb))(t:a.length=m)(Q:m≤c)(T:c≤9223372036854775807)(L:1≤k)(M:k≤4)(P:k<m) :
 Calls prog 207 #[.pointer cb,.int .i64 (k:Int)] w fun e w'=>e=.returned (.int .i64 (beN (a.take k):Int))/\DO w' cb g (p+k) (m-k) (c-k)/\aA (fun i=>i=cb) w w':=by
 have c0:w.cell? ⟨cb,0,none⟩=some (.slice (some ⟨g,p,none⟩) m c):=aC h rfl;have S:=dE h 0;have C:=O h;have E:=O z;have D:=O t;have N:(k:Int)≤(c:Int):=by omega
 have s:(k:Int)≤(m:Int):=by omega
 have K:(0:Int)≤(k:Int):=by omega
 have r:k≤c:=by omega
 clear h z t;go_in;go_wp2_with fail
 go_loop [5,15] (fun x i=>∃j:Nat,j≤k/\i=.int .i64 j/\x=.int .i64 (beN (a.take j):Int)) (fun _ i=>k-(intOf i).toNat)
 case atStart=>exact⟨0,by omega,rfl,rfl⟩
 case round =>
  obtain⟨j,U,rfl,rfl⟩:=hrel
  by_cases J:j<k
  ·have d:j<a.length:=by rw[D.out];omega
   have G:w.cell? ⟨g,p+j,none⟩=some (.int .u8 (a[j].toNat:Int)):=E.out j _ (by simp[d,vb]);have A:=Ez (a.take j) (by simp;omega);have f:=uP (a.take j) a[j];have b:=a[j].toNat_lt;rw[←List.take_succ_eq_append_getElem d] at f;obtain⟨q,u⟩:=zX9 (a[j].toNat)
   rw[u] at G f b;obtain⟨y,l⟩:=zX9 (beN (a.take j))
   rw[l] at f A ⊢;have F:=O f;clear f l u;have H:(0:Int)≤(j:Int):=by omega
   have I:(j:Int)<(k:Int):=by omega
   have R:=GQ y q A b;go_wp2
   go_round
   case rel=>exact⟨j+1,by omega,by go_num,by rw[F.out];simp⟩
   case measure=>simp[intOf];omega
  ·obtain rfl:j=k:=by omega
   go_wp2;go_ret;refine⟨rfl,?_,(aA.refl (fun i=>i=cb) w).setCell (p:=⟨cb,0,none⟩) (fun _=>rfl) _⟩;have:=dQ C.out 0 (.slice (some ⟨g,p+j,none⟩) (m-j) (c-j));exact this
open Go.RowKit Go.Maps Go.ChangeMaps
set_option maxRecDepth 100000
set_option linter.unusedVariables false
def zPt:Pt:=⟨[],0,0,eL⟩
theorem GT(w:World):(zeroValue 30).run prog w=.ok (.agg (aE (.slice none 0 0) zPt).toArray) w:=by kernel_rfl
def Ae(b:List UInt8)(i:Nat):Ad:=⟨(beN ((b.drop (1+3*i)).take 1):Int),(beN ((b.drop (1+3*i+1)).take 2):Int)⟩
def dZ(b:List UInt8)(k:Nat):List Ad:=(List.range (min (beN (b.take 1)) k)).map (Ae b)
def gU(b:List UInt8):Pt:=⟨dZ b 3,(beN ((b.drop 10).take 4):Int),(beN ((b.drop 14).take 1):Int),b.drop 15⟩
def lM(b:List UInt8):Bool:=decide (b.length=47) && (gU b).may && decide (ptB (gU b)=b)
theorem pW(b:List UInt8)(k:Nat):dZ b (k+1)=dZ b k++if k<beN (b.take 1) then [Ae b k] else []:=by
 unfold dZ
 by_cases h:k<beN (b.take 1)
 ·rw[if_pos h,Nat.min_eq_right (by omega),Nat.min_eq_right (by omega),List.range_succ,List.map_append]
  rfl
 ·rw[if_neg h,Nat.min_eq_left (by omega),Nat.min_eq_left (by omega),List.append_nil]
theorem wZ(l:List UInt8)(k:Nat)(h:l.length≤k):beN l<256 ^ k:=Nat.lt_of_lt_of_le (Ey l) (Nat.pow_le_pow_right (by omega) h)
theorem EA(h:n<16777216):wH (n:Int):=⟨by omega,by omega⟩
theorem GU(b:List UInt8)(i:Nat):eW (Ae b i):=by
 have a:=wZ ((b.drop (1+3*i)).take 1) 1 (by simp;omega);have d:=wZ ((b.drop (1+3*i+1)).take 2) 2 (by simp;omega);exact⟨EA (by omega),EA (by omega)⟩
theorem EB(b:List UInt8)(k:Nat):kR (dZ b k):=fun x a=>by
 unfold dZ at a;obtain⟨i,-,rfl⟩:=List.mem_map.1 a;exact GU b i
structure RdW(w wr:World)(rb cb pb g o c B off n:Nat)(v:Value)(q:Pt):Prop where
 res:wr.heap[rb]?=some (.cells (aE (.slice none 0 0) zPt).toArray 30 (0,0))
 cur:DO wr cb g (o+off) (47-off) (c-off)
 pt:wr.heap[pb]?=some (.cells (aE v q).toArray 30 (0,0))
 row:wr.ownsRow B 59 2 v n (aR q.addrs)
 keep:aA aB w wr
 ord:w.heap.size≤rb/\rb<cb/\cb<pb/\pb<B
 sz:B≤wr.heap.size
theorem RdW.same{wr:World}(h:RdW w wr rb cb pb g o c B off n v q)(k:aA aB wr w'):RdW w w' rb cb pb g o c B off n v q:=
 ⟨k.blk h.res id,k.blk h.cur id,k.blk h.pt id,k.owns h.row fun _ _=>id,h.keep.trans k,h.ord,Nat.le_trans h.sz k.size⟩
theorem RdW.num{wr:World}(h:RdW w wr rb cb pb g o c B off n v q)(d:DO w' cb g (o+off+k) (47-off-k) (c-off-k))(a:aA (fun i=>i=cb) wr w'):RdW w w' rb cb pb g o c B (off+k) n v q:=by
 obtain⟨f,j,l,m⟩:=h.ord;refine⟨a.blk h.res (by omega),?_,a.blk h.pt (by omega),a.owns h.row (fun i b e=>by have:=bM h.row b;omega),h.keep.trans' a (U:=aB) (fun _ _ h=>h) (fun i b e=>by omega),h.ord,Nat.le_trans h.sz a.size⟩;rw[←Nat.add_assoc,Nat.sub_add_eq,Nat.sub_add_eq];exact d
theorem RdW.put{wr:World}{m:Nat}{u:Value}{r:Pt}(h:RdW w wr rb cb pb g o c B off n v q)(f:w'.heap[pb]?=some (.cells (aE u r).toArray 30 (0,0)))(j:w'.ownsRow B 59 2 u m (aR r.addrs))(b:aA (fun i=>i=pb\/v.ownBlock=some i) wr w'):RdW w w' rb cb pb g o c B off m u r:=by
 obtain⟨l,s,t,x⟩:=h.ord
 have a:∀i,i<pb->¬(i=pb\/v.ownBlock=some i):=fun i d e=>by
  rcases e with e|e
  ·omega
  ·have:=bM h.row e;omega
 exact⟨b.blk h.res (a _ (by omega)),b.blk h.cur (a _ (by omega)),f,j,h.keep.trans' b (U:=aB) (fun _ _ h=>h) (fun i d e=>a i (by omega) e),h.ord,Nat.le_trans h.sz b.size⟩
theorem Km(v u:Value)(q:Pt)(l:List Ad):(aE v q).toArray.setIfInBounds 0 u=(aE u ⟨l,q.birth,q.level,q.sum⟩).toArray:=by rw[List.setIfInBounds_toArray];rfl
theorem Kn(v:Value)(q:Pt)(x:Int):(aE v q).toArray.setIfInBounds 1 (.int .i64 x)=(aE v ⟨q.addrs,x,q.level,q.sum⟩).toArray:=by rw[List.setIfInBounds_toArray];rfl
theorem Ko(v:Value)(q:Pt)(x:Int):(aE v q).toArray.setIfInBounds 2 (.int .i64 x)=(aE v ⟨q.addrs,q.birth,x,q.sum⟩).toArray:=by rw[List.setIfInBounds_toArray];rfl
theorem MG(v:Value)(q:Pt)(s:List UInt8)(b:q.sum.length=32)(a:s.length=32):spl (aE v q).toArray 3 (s.map vb)=(aE v ⟨q.addrs,q.birth,q.level,s⟩).toArray:=by
 apply Array.ext_getElem?;intro j;rw[mY _ _ _ _ (by rw[List.size_toArray,aF b,List.length_map,a];exact Nat.le_refl _)];simp only[List.getElem?_toArray,List.length_map,a]
 by_cases d:3≤j
 ·by_cases f:j<35
  ·rw[if_pos (by omega)]
   have e:(aE v ⟨q.addrs,q.birth,q.level,s⟩)[j]?=(s.map vb)[j-3]?:=by
    unfold aE;obtain⟨i,rfl⟩:∃i,j=i+3:=⟨j-3,by omega⟩
    simp
   rw[e]
  ·rw[if_neg (by omega),List.getElem?_eq_none (by rw[aF b];omega),List.getElem?_eq_none (by rw[aF (p:=⟨q.addrs,q.birth,q.level,s⟩) a];omega)]
 ·rw[if_neg (by omega)]
  have:j=0\/j=1\/j=2:=by omega
  rcases this with rfl|rfl|rfl<;>rfl
def AU(b a:Int):List PanicEntry:=[{ v:=.iface 240 (.agg #[.int .i64 b,.int .i64 a]),recovered:=false }]
def nJ(w:World)(b:List UInt8)(e:Ending)(w':World):Prop:=
 aA aB w w'/\if lM b then ∃v,e=.returned (.agg (aE v (gU b)).toArray)/\w'.ownsRow w.heap.size 59 2 v (gU b).addrs.length (aR (gU b).addrs)
  else if b.length=47 then e=.panicked (AU 2 0) else e=.panicked (AU 4 (min b.length 47))
theorem GV{l:List UInt8}(h:Rd w 1 v n (l.map vb))(t:l.length=n){x:UInt8}(d:l[k]?=some x):∃g o b,v=.slice (some ⟨g,o,none⟩) n b/\w.cell? ⟨g,o+k,none⟩=some (.int .u8 (x.toNat:Int)):=by
 obtain⟨h0,a,b,rfl,m,r,s,e⟩:=h;have j:=(List.getElem?_eq_some_iff.1 d).1;obtain⟨g,o,rfl,f⟩:=e (by rw[List.length_map];omega);exact⟨g,o,b,rfl,f k _ (by rw[List.getElem?_map,d];rfl)⟩
theorem zG(w:World)(x:Int):(Instr.build 179 #[(0,.int .i64 x)]).run prog w=.ok (.agg #[.int .i64 x,.int .i64 0]) w:=by kernel_rfl
theorem AV(w:World)(x y:Int):(Instr.build 240 #[(0,.agg #[.int .i64 x,.int .i64 y])]).run prog w=.ok (.agg #[.int .i64 x,.int .i64 y]) w:=by kernel_rfl
theorem ID(w:World)(v v2:Value)(l m:List UInt8)(F:Rd w 1 v l.length (l.map vb))(M:Rd w 1 v2 m.length (m.map vb)):Calls prog 208 #[v,v2] w (aN w (decide (l=m))):=by
 obtain⟨la,lc,rfl,-,-⟩:=F.form;obtain⟨ma,mc,rfl,-,-⟩:=M.form;have u:l.length≤maxLen:=by obtain⟨_,a',c',J,h2,h3,-⟩:=F;omega
 unfold maxLen at u;obtain⟨bb,d⟩:=zX9 (decide (l=m))
 have a:=O d;rw[d];clear d;obtain⟨n,N⟩:=zX9 l.length
 obtain⟨q,P⟩:=zX9 m.length
 have S:=O F;have T:=O M;have D:=O N;have E:=O P;rw[N] at S u ⊢;rw[P] at T ⊢;clear F M N P
 by_cases z:n=q
 ·subst z
  go_in;go_wp2_with fail
  go_loopw [13] (fun t wr=>∃k:Nat,k≤n/\t=.int .i64 k/\Hid (l.take k=m.take k)/\Hid (aA aB w wr)) (fun t _=>n-(intOf t).toNat)
  case atStart=>exact⟨0,Nat.zero_le _,rfl,O (by simp),O (aA.refl _ _)⟩
  case round =>
  obtain⟨k,hk,rfl,U,r⟩:=hrel
  by_cases s:k<n
  ·have qd:(k:Int)<(n:Int):=by omega
   have qc:(0:Int)≤(k:Int):=by omega
   obtain⟨x,Q⟩:∃x,l[k]?=some x:=⟨l[k]'(by rw[D.out];exact s),List.getElem?_eq_getElem _⟩
   obtain⟨y,R⟩:∃x,m[k]?=some x:=⟨m[k]'(by rw[E.out];exact s),List.getElem?_eq_getElem _⟩
   have Z:=S.keep r.out fun _ _=>id
   obtain⟨p,o,qa,hv,hc⟩:=GV Z (by rw[D.out]) Q;have I:la=some ⟨p,o,none⟩:=by cases hv;rfl
   subst I;have A:=T.keep r.out fun _ _=>id
   obtain⟨p2,o2,X,C,qb⟩:=GV A (by rw[E.out]) R;have I:ma=some ⟨p2,o2,none⟩:=by cases C;rfl
   subst I;have V:=O Q;have W:=O R;obtain⟨bi,K⟩:=zX9 (((x.toNat:Int) != (y.toNat:Int)))
   have j:=O K;clear Z A hv C Q R;cases bi
   ·have e:x=y:=by
     have h:=j.out;simp only[bne_eq_false_iff_eq] at h;exact UInt8.toNat_inj.1 (by omega)
    have H:Hid (l.take (k+1)=m.take (k+1)):=O (by rw[List.take_add_one,List.take_add_one,U.out,V.out,W.out,e]);clear e;go_wp2_with fail
    go_quiet (fail)
    go_wp2_with fail;have G:=O (r.drewN nq)
    go_roundw
    case rel=>exact⟨k+1,by omega,by go_num,H,G⟩
    case measure=>simp[intOf];omega
   ·have f:bb=false:=by
     rw[←a.out];refine decide_eq_false fun e=>?_
     have J:=V.out;rw[e,W.out] at J;cases J
     have:=j.out;simp at this
    subst f;go_wp2_with fail
    go_quiet (fail)
    go_wp2;go_ret;exact⟨rfl,r.drewN nq⟩
  ·obtain rfl:n=k:=by omega
   have L:bb=true:=by
    rw[←a.out];refine decide_eq_true ?_;have h:=U.out
    rwa [List.take_of_length_le (by rw[D.out];exact Nat.le_refl _),List.take_of_length_le (by rw[E.out];exact Nat.le_refl _)] at h
   subst L;go_wp2;go_ret;exact⟨rfl,r.out⟩
 ·have f:bb=false:=by
   rw[←a.out];exact decide_eq_false fun e=>z (by rw[←D.out,←E.out,e])
  subst f;have Y:((n:Int) != (q:Int))=true:=by simp;omega
  go_in;go_wp2;go_ret;exact⟨rfl,aA.refl _ _⟩
theorem Kp(w:World)(bv:Value)(b:List UInt8)(hr:Rd w 1 bv b.length (b.map vb))(hl:b.length=47):Calls prog 169 #[bv] w (nJ w b):=by
 obtain⟨g,o,c,rfl,N⟩:∃g o c,bv=.slice (some ⟨g,o,none⟩) 47 c/\w.rangeAt g o (b.map vb):=by
  obtain⟨h0,a,xe,rfl,h2,h3,h4,h5⟩:=hr;obtain⟨g,o,rfl,hc⟩:=h5 (by simp;omega);exact⟨g,o,xe,by rw[hl],hc⟩
 have xt:47≤c/\c≤9223372036854775807:=by
  obtain⟨_,a',c',h1,h2,h3,-⟩:=hr;unfold maxLen at h3;injection h1 with e1 e2 e3
  omega
 have Y:=O hl
 have P:=O (fun wx (k:aA aB w wx) (off:Nat)=>(show wx.rangeAt g (o+off) ((b.drop off).map vb) from fun j v hj=>by
  rw[List.map_drop,List.getElem?_drop] at hj;rw[Nat.add_assoc];exact(k.rangeAt N) (off+j) v hj))
 have zl:=O (fun wx (k:aA aB w wx)=>hr.keep k fun _ _=>id);rw[hl] at zl;have hz:=GT;obtain⟨zc,qm⟩:=zX9 (aE (.slice none 0 0) zPt)
 have zd:zc.length=35:=by rw[←qm];rfl
 have HZ:=O qm;rw[qm] at hz;obtain⟨wa,z1,ka,ha,sa⟩:=aP w zc.toArray 30;obtain⟨wb,xp,kb,hb,sb⟩:=aP wa #[.slice (some ⟨g,o,none⟩) 47 c] 291;obtain⟨wc,z2,kc,hc,sc⟩:=aP wb zc.toArray 30;obtain⟨rb,qk⟩:=zX9 w.heap.size
 obtain⟨cb,zr⟩:=zX9 wa.heap.size
 obtain⟨pb,q3⟩:=zX9 wb.heap.size
 obtain⟨B,hB⟩:=zX9 wc.heap.size
 rw[qk] at ha;rw[zr] at hb;rw[q3] at hc;have qc:Hid (RdW w wc rb cb pb g o c B 0 0 (.slice none 0 0) zPt):=O ⟨by rw[HZ.out];exact kc.blk (kb.blk ha id) id,kc.blk hb id,by rw[HZ.out];exact hc,World.ownsRow_nil _ _ _ _,(ka.trans kb).trans kc,by omega,by omega⟩;have xr:=O qk;have xx:=O hB;clear hr N ha hb hc sa sb sc ka kb kc hl qm;go_in
 go_wp2_with (first
  | ((with_reducible show WL (some 2) (.alloc 30));refine aY rfl 30 rfl _ hz zc.toArray rfl ?_;rw[z1,qk])
  | ((with_reducible show WL (some 4) (.alloc 30));refine aY rfl 30 rfl _ hz zc.toArray rfl ?_;rw[z2,q3]))
 refine(qV _ cb g (o+(0)) (47-(0)) (c-(0)) 1 (b.drop (0)) qc.cur (P _ qc.keep _) (by rw[List.length_drop,Y.out]) (by omega) (by omega) (by omega) (by omega) (by omega)).mono ?_;rintro e w1 ⟨rfl,f,y⟩;have zn:=O (qc.num f y);clear f y;obtain⟨mn,qh⟩:=zX9 (beN (b.take 1))
 have xw:mn<256:=by rw[←qh];exact wZ _ 1 (by simp;omega)
 have qa:=O qh;rw[List.drop_zero,qh];clear qh qc z1 xp z2 qk zr q3 hB;go_wp2_with fail
 go_loopw [24] (fun i wr=>∃(k m:Nat) (L:Option Addr) (pc:Nat),k≤3/\m≤k/\i=.int .i64 k/\Hid ((dZ b k).length=m)/\Hid (RdW w wr rb cb pb g o c B (1+3*k) m (.slice L m pc) ⟨dZ b k,0,0,eL⟩)) (fun i _=>3-(intOf i).toNat)
 case atStart=>exact⟨0,0,none,0,by omega,by omega,rfl,O (by simp[dZ]),O (by
  have h:=zn.out;have e:dZ b 0=[]:=by simp[dZ]
  rw[e];exact h)⟩
 case round =>
 clear zn;obtain⟨k,m,L,z,hk,x2,rfl,qb,Z⟩:=hrel
 by_cases x1:k<3
 ·have x0:(k:Int)<3:=by omega
  have xz:(0:Int)≤(k:Int):=by omega
  have xf:=GU b k;obtain⟨d,hd⟩:=zX9 (beN ((b.drop (1+3*k)).take 1))
  obtain⟨s,hs⟩:=zX9 (beN ((b.drop (1+3*k+1)).take 2))
  have z3:Hid (Ae b k=⟨(d:Int),(s:Int)⟩):=O (by unfold Ae;rw[hd,hs]);have HD:=O hd;have HS:=O hs;have xy:=Oi (d:Int) (s:Int);clear hd hs xf;go_wp2_with fail;refine(qV _ cb g (o+(1+3*k)) (47-(1+3*k)) (c-(1+3*k)) 1 (b.drop (1+3*k)) Z.cur (P _ Z.keep _) (by rw[List.length_drop,Y.out]) (by omega) (by omega) (by omega) (by omega) (by omega)).mono ?_;rintro e w2 ⟨rfl,f,y⟩;have A:=O (Z.num f y);clear f y;rw[HD.out];go_wp2_with fail;refine(qV _ cb g (o+(1+3*k+1)) (47-(1+3*k+1)) (c-(1+3*k+1)) 2 (b.drop (1+3*k+1)) A.cur (P _ A.keep _) (by rw[List.length_drop,Y.out]) (by omega) (by omega) (by omega) (by omega) (by omega)).mono ?_;rintro e w3 ⟨rfl,f,y⟩;have F:=O (A.num f y);clear f y;rw[HS.out];clear Z A;obtain⟨w4,z0,zt,qx,xl⟩:=aP w3 #[.int .i64 0,.int .i64 0] 59;obtain⟨ab,R⟩:=zX9 w3.heap.size
  rw[R] at qx;have zg:=O qx;have C:=O (F.same zt);have qn:Hid (w.heap.size≤ab/\pb<ab/\∀i,(Value.slice L m z).ownBlock=some i->i<ab):=O ⟨by rw[←R];exact F.keep.size,by rw[←R];exact lt_of_block F.pt,fun i D=>by rw[←R];exact(F.row.lt i D).2⟩;clear zt qx xl
  by_cases qg:k<mn
  ·have q0:(k:Int)<(mn:Int):=by omega
   have xi:decide ((k:Int)<(mn:Int))=true:=decide_eq_true q0
   go_wp2_with (first
    | ((with_reducible show WL (some 7) (.alloc 59));refine aY rfl 59 rfl eM eI #[.int .i64 0,.int .i64 0] rfl ?_;rw[z0,R])
    | ((with_reducible show WL none (.store 59 (.tmp 7) (.tmp 31)));refine aQ rfl 59 (.tmp 7) (.tmp 31) rfl ab 0 (aO ⟨(d:Int),(s:Int)⟩) rfl rfl #[.int .i64 0,.int .i64 0] 59 zg.out (Nat.le_refl _) cC (bP _) ?_
       intro K I l;rw[aS _ _ (by rfl)] at I;have ze:=O I
       have G:Hid (RdW w K rb cb pb g o c B (1+3*k+1+2) m (.slice L m z) ⟨dZ b k,0,0,eL⟩):=O (by
        have h:=C.out;obtain⟨o1,o2,o3,o4⟩:=h.ord;have h7:=qn.out;have M:∀i,i<ab->¬i=ab:=fun i D=>by omega
        exact⟨l.blk h.res (M _ (by omega)),l.blk h.cur (M _ (by omega)),l.blk h.pt (M _ (by omega)),l.owns h.row (fun i D e=>by have:=h7.2.2 i D;omega),h.keep.trans' l (U:=aB) (fun _ _ h=>h) (fun i D e=>by omega),h.ord,Nat.le_trans h.sz l.size⟩)
       clear I l;have a5:K.cell? ⟨pb,0,none⟩=some (.slice L m z):=aC G.pt rfl;obtain⟨w6,xo,zu,qy,xm⟩:=aP K (aO ⟨(d:Int),(s:Int)⟩).toArray 59;obtain⟨bx,zq⟩:=zX9 K.heap.size
       rw[zq] at qy;have z9:Hid (Rd w6 2 (.slice bx 1 1) 1 (aO ⟨(d:Int),(s:Int)⟩)):=O (dX (n:=1) (size:=2) (vs:=aO ⟨(d:Int),(s:Int)⟩) qy rfl (by unfold maxLen;omega));have r:=O (G.same zu);have zz:B≤w6.heap.size:=r.sz;clear zu qy xm)
    | ((with_reducible show WL _ (.load 59 (.tmp 7)));refine wpList_load_mid rfl 59 (.tmp 7) rfl ab 0 rfl (aO ⟨(d:Int),(s:Int)⟩) _ (aD ze.out) bT rfl cC ?_)
    | ((with_reducible show WL _ (.buildSlice _ 1 _));refine bZ rfl 26 59 (.tmp 37) rfl underlying26 qR (by decide) (aO ⟨(d:Int),(s:Int)⟩) rfl (by decide) rfl ?_;rw[xo,zq])
    | (at_builtin;refine aM rfl (.tmp 36) (.tmp 38) 26 rfl B 59 eM 2 16 underlying26 qR rfl (by decide) (.slice L m z) m (aR (dZ b k)) rfl r.row (.slice bx 1 1) 1 (aO ⟨(d:Int),(s:Int)⟩) rfl z9.out (bP _) (by unfold maxLen;omega) (by omega) zz ?_
       intro v' X q1 l xj I;obtain⟨va,vc,rfl,-,-⟩:=(Rd.of_owns q1).form;have qi:=l.blk r.pt (fun e=>by have:=bM r.row e;have:=r.ord;omega);have xu:X.cell? ⟨pb,0,none⟩=some (.slice L m z):=aC qi rfl;have xv:=dE qi 0;have z6:=O qi;have z5:=O l
       have zk:Hid (X.ownsRow B 59 2 (.slice va (m+1) vc) (m+1) (aR (dZ b (k+1)))):=O (by
        rw[pW,if_pos (by rw[qa.out];exact qg),z3.out,nC,yZ];exact q1)
       clear q1 l xj I qi))
   have J:Hid (RdW w (X.setCell ⟨pb,0,none⟩ (.slice va (m+1) vc)) rb cb pb g o c B (1+3*(k+1)) (m+1) (.slice va (m+1) vc) ⟨dZ b (k+1),0,0,eL⟩):=O (by
    have e:1+3*(k+1)=1+3*k+1+2:=by omega
    have E:aA (fun i=>i=pb) X (X.setCell ⟨pb,0,none⟩ (.slice va (m+1) vc)):=(aA.refl (fun i=>i=pb) X).setCell (p:=⟨pb,0,none⟩) (fun _=>rfl) _;rw[e];refine r.put ?_ (E.owns zk.out (fun i D e=>by have:=bM zk.out D;have:=r.ord;omega)) ((z5.mono (fun _ _ h=>.inr h)).tT E (fun i D e=>.inl e));rw[dQ z6.out,Km _ _ _ (dZ b (k+1))])
   have qv:Hid ((dZ b (k+1)).length=m+1):=O (by rw[pW,if_pos (by rw[qa.out];exact qg),List.length_append,qb.out];rfl)
   go_roundw
   case rel=>exact⟨k+1,m+1,va,vc,by omega,by omega,by go_num,qv,J⟩
   case measure=>simp[intOf];omega
  ·have q0:¬(k:Int)<(mn:Int):=by omega
   have xi:decide ((k:Int)<(mn:Int))=false:=decide_eq_false q0
   go_wp2_with (first
    | ((with_reducible show WL (some 7) (.alloc 59));refine aY rfl 59 rfl eM eI #[.int .i64 0,.int .i64 0] rfl ?_;rw[z0,R])
    | ((with_reducible show WL none (.store 59 (.tmp 7) (.tmp 31)));refine aQ rfl 59 (.tmp 7) (.tmp 31) rfl ab 0 (aO ⟨(d:Int),(s:Int)⟩) rfl rfl #[.int .i64 0,.int .i64 0] 59 zg.out (Nat.le_refl _) cC (bP _) ?_
       intro K I l;rw[aS _ _ (by rfl)] at I;have ze:=O I
       have G:Hid (RdW w K rb cb pb g o c B (1+3*k+1+2) m (.slice L m z) ⟨dZ b k,0,0,eL⟩):=O (by
        have h:=C.out;obtain⟨o1,o2,o3,o4⟩:=h.ord;have h7:=qn.out;have M:∀i,i<ab->¬i=ab:=fun i D=>by omega
        exact⟨l.blk h.res (M _ (by omega)),l.blk h.cur (M _ (by omega)),l.blk h.pt (M _ (by omega)),l.owns h.row (fun i D e=>by have:=h7.2.2 i D;omega),h.keep.trans' l (U:=aB) (fun _ _ h=>h) (fun i D e=>by omega),h.ord,Nat.le_trans h.sz l.size⟩)
       clear I l
       skip))
   have J:Hid (RdW w K rb cb pb g o c B (1+3*(k+1)) m (.slice L m z) ⟨dZ b (k+1),0,0,eL⟩):=O (by
    have e:1+3*(k+1)=1+3*k+1+2:=by omega
    have e2:dZ b (k+1)=dZ b k:=by rw[pW,if_neg (by rw[qa.out];exact qg),List.append_nil]
    rw[e,e2];exact G.out)
   have qv:Hid ((dZ b (k+1)).length=m):=O (by rw[pW,if_neg (by rw[qa.out];exact qg),List.append_nil];exact qb.out)
   go_roundw
   case rel=>exact⟨k+1,m,L,z,by omega,by omega,by go_num,qv,J⟩
   case measure=>simp[intOf];omega
 ·obtain rfl:k=3:=by omega
  have Z:=O (show RdW w wr rb cb pb g o c B 10 m (.slice L m z) ⟨dZ b 3,0,0,eL⟩ from Z.out);obtain⟨bi,zp⟩:=zX9 (beN ((b.drop 10).take 4))
  obtain⟨le,zx⟩:=zX9 (beN ((b.drop (10+4)).take 1))
  have zh:=O zp;have zj:=O zx;have V:Hid ((b.drop 15).length=32):=O (by rw[List.length_drop,Y.out]);clear zp zx;go_wp2_with fail;refine(qV _ cb g (o+(10)) (47-(10)) (c-(10)) 4 (b.drop (10)) Z.cur (P _ Z.keep _) (by rw[List.length_drop,Y.out]) (by omega) (by omega) (by omega) (by omega) (by omega)).mono ?_;rintro e w2 ⟨rfl,f,y⟩;have A:=O (Z.num f y);clear f y;rw[zh.out];have k0:=aC A.pt (i:=1) rfl;have kf:=dE A.pt 1;obtain⟨w3,za⟩:=zX9 (w2.setCell ⟨pb,1,none⟩ (.int .i64 (bi:Int)))
  have F:Hid (RdW w w3 rb cb pb g o c B (10+4) m (.slice L m z) ⟨dZ b 3,(bi:Int),0,eL⟩):=O (by
   have E:aA (fun i=>i=pb) w2 w3:=by rw[←za];exact(aA.refl (fun i=>i=pb) w2).setCell (p:=⟨pb,1,none⟩) (fun _=>rfl) _
   refine A.put ?_ (E.owns A.row (fun i D e=>by have:=bM A.row D;have:=A.ord;omega)) (E.mono (fun _ _ h=>.inl h));rw[←za,dQ A.pt,Kn _ _ (bi:Int)])
  clear Z;go_wp2_with fail;clear k0 kf za A;refine(qV _ cb g (o+(10+4)) (47-(10+4)) (c-(10+4)) 1 (b.drop (10+4)) F.cur (P _ F.keep _) (by rw[List.length_drop,Y.out]) (by omega) (by omega) (by omega) (by omega) (by omega)).mono ?_;rintro e w4 ⟨rfl,f,y⟩;have C:=O (F.num f y);clear f y;rw[zj.out];have k0:=aC C.pt (i:=2) rfl;have kf:=dE C.pt 2;obtain⟨K,zb⟩:=zX9 (w4.setCell ⟨pb,2,none⟩ (.int .i64 (le:Int)))
  have G:Hid (RdW w K rb cb pb g o c B (10+4+1) m (.slice L m z) ⟨dZ b 3,(bi:Int),(le:Int),eL⟩):=O (by
   have E:aA (fun i=>i=pb) w4 K:=by rw[←zb];exact(aA.refl (fun i=>i=pb) w4).setCell (p:=⟨pb,2,none⟩) (fun _=>rfl) _
   refine C.put ?_ (E.owns C.row (fun i D e=>by have:=bM C.row D;have:=C.ord;omega)) (E.mono (fun _ _ h=>.inl h));rw[←zb,dQ C.pt,Ko _ _ (le:Int)])
  go_wp2_with fail;clear k0 kf zb C F;obtain⟨S,qe⟩:∃S:World->Prop,S=fun w'=>aA (fun i=>i=pb) K w':=⟨_,rfl⟩
  have qw:=O (show ∀w',S w'->aA (fun i=>i=pb) K w' from fun w' h=>by rw[qe] at h;exact h);have zm:=O (show ∀w',aA (fun i=>i=pb) K w'->S w' from fun w' h=>by rw[qe];exact h);have r:=O (G.same (aA.refl aB K).drew);have hS:S K.drew:=by rw[qe];exact(aA.refl _ _).drew
  have zi:=O (fun w' (h:S w')=>(aC ((qw w' h).blk G.cur (by have:=G.ord;omega)) rfl:w'.cell? ⟨cb,0,none⟩=some (.slice (some ⟨g,o+(10+4+1),none⟩) (47-(10+4+1)) (c-(10+4+1)))));refine wp_region_held (S:=S) (by kernel_rfl) ?_;change wpAnyH _ _ _ _ _ _ _ _ K.drew;generalize K.drew=w6 at hS r ⊢;refine tkb 0 (.pointer (some ⟨pb,3,none⟩)) rfl hS ?_;simp only[Act.put,List.setIfInBounds_toArray,List.set_cons_zero,List.set_cons_succ,List.getElem_toArray,List.getElem_cons_zero];refine tnb 1 (.slice (some ⟨pb,3,none⟩) 32 32) rfl hS ?_;refine tna 2 (.pointer cb) rfl hS ?_;refine tnb 3 (.pointer cb) rfl hS ?_;refine tnb 4 (.pointer cb) rfl hS ?_;refine tnd 5 (.slice (some ⟨g,o+(10+4+1),none⟩) (47-(10+4+1)) (c-(10+4+1))) rfl (.inl ⟨by rfl,fun w' xn=>by have c:=zi.out w' xn;go_simp⟩) hS ?_;refine wA9 6 ?_;refine sZ rfl (.tmp 49) (.tmp 53) 68 68 rfl 5 underlying68 AJ pb 3 32 32 rfl _ 32 ((b.drop 15).map vb) rfl ⟨by rw[List.length_map,V.out],some ⟨g,o+15,none⟩,c-15,rfl,by omega,by unfold maxLen;omega,(by intro h;cases h),fun _=>⟨g,o+15,rfl,fun i u hu=>P.out _ r.keep 15 i u hu⟩⟩ 32 rfl _ _ r.pt (by rw[List.size_toArray,aF (p:=⟨dZ b 3,(bi:Int),(le:Int),eL⟩) rfl];decide) (bR _) ?_;intro X qz qf;rw[List.take_of_length_le (by rw[List.length_map,V.out];exact Nat.le_refl _),MG _ _ _ rfl V.out] at qz
  have qd:Hid (RdW w X rb cb pb g o c B (10+4+1) m (.slice L m z) (gU b)):=O (by
   have e:gU b=⟨dZ b 3,(bi:Int),(le:Int),b.drop 15⟩:=by unfold gU;rw[zh.out,zj.out]
   rw[e];exact r.put qz (qf.owns r.row (fun i D e=>by have:=bM r.row D;have:=r.ord;omega)) (qf.mono (fun _ _ h=>.inl h)))
  have zo:S X:=zm.out _ ((qw _ hS).trans qf);clear qz qf hS qe;refine wpList_nil ?_;refine⟨zo,?_⟩;refine wpAnyH_done (by kernel_rfl) ?_ _;clear zo qw zm zi r G
  have z7:Hid (PtV X (.slice L m z) (gU b)):=O ⟨by
   have h:=Rd.of_owns qd.row;have e:(gU b).addrs.length=m:=qb.out;rw[e];exact h,EB b 3,V.out⟩
  have Q:=O (aD qd.pt);obtain⟨pc,qj⟩:=zX9 (aE (.slice L m z) (gU b))
  have W:pc.length=35:=by rw[←qj];exact aF V.out
  have qt:=O qj;have qr:=O (wW X _ _ z7.out);rw[qj] at Q qr;obtain⟨t,ht⟩:=zX9 ((gU b).may)
  have HT:=O ht;clear qj ht
  go_wp2_with (first
   | ((with_reducible show WL _ (.load 30 (.tmp 4)));refine wpList_load_mid rfl 30 (.tmp 4) rfl (pb) 0 rfl pc _ Q.out aI rfl (cN W) ?_))
  refine qr.mono ?_;rintro e w8 ⟨v8,rfl,zy,zv⟩;have J:=O (qd.same zv);have q9:=Rd.of_owns zy;obtain⟨xa,xc,rfl,-,-⟩:=q9.form;have xd:=O q9;rw[HT.out];clear zy zv q9 qr Q qd;cases t
  ·have qu:Hid (∀w' e,aA aB w w'->e=.panicked (AU 2 0)->nJ w b e w'):=O (fun w' e k he=>by
    unfold nJ;rw[show lM b=false by unfold lM;rw[HT.out];simp,if_neg (by decide),if_pos Y.out];exact⟨k,he⟩)
   have xg:=fun w=>zG w 2
   have xh:=fun w=>AV w 2 0
   go_wp2_with fail;exact⟨rfl,qu _ _ J.keep rfl⟩
  ·obtain⟨u,hu⟩:=zX9 (decide (ptB (gU b)=b))
   have HU:=O hu;have T:=ID w8 _ (.slice (some ⟨g,o,none⟩) 47 c) (ptB (gU b)) b xd.out (by rw[Y.out];exact zl.out _ J.keep);rw[hu] at T;have T:=O T;clear hu;go_wp2_with fail;refine T.mono ?_;rintro e w9 ⟨rfl,zw⟩;have H:=O (J.same zw);have Q:=O (aD H.pt);rw[qt.out] at Q;clear zw T J;cases u
   ·have qu:Hid (∀w' e,aA aB w w'->e=.panicked (AU 2 0)->nJ w b e w'):=O (fun w' e k he=>by
     unfold nJ;rw[show lM b=false by unfold lM;rw[HU.out];simp,if_neg (by decide),if_pos Y.out];exact⟨k,he⟩)
    have xg:=fun w=>zG w 2
    have xh:=fun w=>AV w 2 0
    go_wp2_with fail;exact⟨rfl,qu _ _ H.keep rfl⟩
   ·have q5:=H.res
    rw[HZ.out] at q5;have xb:=O q5
    have xk:∀x∈pc,x.oneCell'=true:=by
     intro x hx;rw[←qt.out] at hx;unfold aE at hx;simp only[List.mem_cons] at hx;rcases hx with rfl|rfl|rfl|hx
     ·rfl
     ·rfl
     ·rfl
     ·exact bR _ x hx
    clear q5
    go_wp2_with (first
     | ((with_reducible show WL _ (.load 30 (.tmp 4)));refine wpList_load_mid rfl 30 (.tmp 4) rfl (pb) 0 rfl pc _ Q.out aI rfl (cN W) ?_)
     | ((with_reducible show WL none (.store 30 (.tmp 2) (.tmp 71)));refine aQ rfl 30 (.tmp 2) (.tmp 71) rfl rb 0 pc rfl rfl zc.toArray 30 xb.out (by rw[W,List.size_toArray,zd];exact Nat.le_refl _) (cN W) xk ?_;intro xq qp qq;have zf:=O qp;have qo:=O qq;clear qp qq))
    refine bodyPost_ret (results_cell_row rfl _ _ rb _ _ _ _ rfl zf.out aI rfl (by rw[gF,List.size_toArray,zd];exact wV)) rfl ?_;have E:aA aB w xq:=H.keep.tT qo.out (fun i D e=>by have:=H.ord;omega);refine⟨E,?_⟩;rw[if_pos (by unfold lM;rw[Y.out,HT.out,HU.out];rfl)];refine⟨_,by rw[aS _ _ (by rw[W,List.size_toArray,zd]),←qt.out],?_⟩;have e:(gU b).addrs.length=m:=qb.out;rw[e];exact bA (qo.owns H.row (fun i D e=>by have:=bM H.row D;have:=H.ord;omega)) (by have:=H.ord;omega)
open Go.RowKit Go.Maps Go.ChangeMaps
set_option maxRecDepth 100000
set_option linter.unusedVariables false
theorem GW(w:World):(zeroValue 179).run prog w=.ok (.agg #[.int .i64 0,.int .i64 0]) w:=by kernel_rfl
theorem BS{P:Program}{A:Func}{p q:Tmp}{j l:TypeId}(h:A.results=#[.cell p j,.cell q l])(tmps:Array Value)(w:World)(g f:Nat)(t C:TypeId)(e a:Array Value)(fr b:Nat×Nat)(d m:TypeDesc)
 (G:tmps.getD p undef=.pointer g) (E:w.heap[g]?=some (.cells e t fr)) (I:P.underlying j=some d) (D:(match d with|.struct _|.array _ _=>true|_=>false)=true) (F:(P.info? j).map (·.size)=some e.size)
 (x:tmps.getD q undef=.pointer f) (s:w.heap[f]?=some (.cells a C b)) (z:P.underlying l=some m) (r:(match m with|.struct _|.array _ _=>true|_=>false)=true) (u:(P.info? l).map (·.size)=some a.size) :
 (results A tmps).run P w=.ok (.tuple #[.agg e,.agg a]) w:=by
 have H:tmps[p]?.getD undef=.pointer g:=by simpa using G
 have y:tmps[q]?.getD undef=.pointer f:=by simpa using x
 simp[results,h,H,y,asAddr,run_loadVar_row w g t j e fr d E I D F,run_loadVar_row w f C l a b m s z r u]
theorem Gb(A F:Nat)(w:World) :
 CallsD prog 168 #[.pointer A,.pointer F] .returning w fun e d w'=>e=.returned (.tuple #[])/\d=.returning/\w'=w:=by
 refine callsD_of_wpS func168 rfl fun a f b=>?_
 apply wpS_seq;apply wpS_region;simp[wpOpsS,go_sem,recoverD,b,ntmps168,Exit.thenS];refine wpS_of_wp ?_;go_wp2_with fail;cases a
 simp_all [bodyPostS,results,results168]
open Go.RowKit Go.Maps Go.ChangeMaps
set_option maxRecDepth 100000
set_option linter.unusedVariables false
def N5(b:List UInt8):Int×Int:=if b.length=47 then (2,0) else (4,min b.length 47)
def Kq(w:World)(b:List UInt8)(e:Ending)(w':World):Prop:=
 aA aB w w'/\if lM b then ∃v,e=.returned (.tuple #[.agg (aE v (gU b)).toArray,.agg #[.int .i64 0,.int .i64 0]])/\w'.ownsRow w.heap.size 59 2 v (gU b).addrs.length (aR (gU b).addrs)
  else e=.returned (.tuple #[.agg (aE (.slice none 0 0) zPt).toArray,.agg #[.int .i64 (N5 b).1,.int .i64 (N5 b).2]])
theorem cE{d:Option Addr}{b:Nat}(p:Pt):∀u∈aE (.slice d n b) p,u.oneCell'=true:=by
 intro x a;unfold aE at a;simp only[List.mem_cons] at a;rcases a with rfl|rfl|rfl|a
 ·rfl
 ·rfl
 ·rfl
 ·exact bR _ x a
theorem MH(w:World)(bv:Value)(b:List UInt8)(hr:Rd w 1 bv b.length (b.map vb))(ht:lM b=true):Calls prog 111 #[bv] w (Kq w b):=by
 have T:b.length=47:=by
  have h:=ht;unfold lM at h;simp only[Bool.and_eq_true,decide_eq_true_eq] at h;exact h.1.1
 have HT:=O ht;have Z:=O (fun wx (k:aA aB w wx)=>Kp wx bv b (hr.keep k fun _ _=>id) T);obtain⟨a,ca,rfl,-,-⟩:=hr.form;obtain⟨n,hn⟩:=zX9 b.length
 rw[hn] at Z ⊢;have hz:=GT;obtain⟨W,y⟩:=zX9 (aE (.slice none 0 0) zPt)
 have V:W.length=35:=by rw[←y];rfl
 have HZ:=O y;have HN:=O hn;rw[y] at hz;obtain⟨wa,qg,ka,ha,sa⟩:=aP w W.toArray 30;obtain⟨wb,qh,kb,hb,sb⟩:=aP wa #[.int .i64 0,.int .i64 0] 179;obtain⟨rb,J⟩:=zX9 w.heap.size
 obtain⟨K,R⟩:=zX9 wa.heap.size
 have qk:rb<K:=by omega
 rw[J] at ha;rw[R] at hb;have A:=O (kb.blk ha id);have z:=O hb;have P:=O (ka.trans kb);have j:=O J;have E:Hid (wb.heap.size=K+1):=O (by omega);have qj:∀(fn:Fn) (first Q:Array Value) (w:World),(Instr.makeFunc fn first Q).run prog w=.ok (.func fn first Q) w:=fun _ _ _ _=>rfl
 clear hr ka kb ha hb sa sb y hn ht T
 go_enter_defers func111,ntmps111
 go_wp2_with (first
  | ((with_reducible show WL (some 2) (.alloc 30));refine aY rfl 30 rfl _ hz W.toArray rfl ?_;rw[qg,J])
  | ((with_reducible show WL (some 3) (.alloc 179));refine aY rfl 179 rfl _ GW #[.int .i64 0,.int .i64 0] rfl ?_;rw[qh,R]))
 refine(Z _ P.out).mono ?_;intro e w4 d;unfold nJ at d;obtain⟨r,d⟩:=d;have qe:=O (r.blk A.out id);have L:=O (r.blk z.out id);have qc:=O (P.trans r);have qi:Hid (K<w4.heap.size):=O (lt_of_block L.out);clear r A z Z;rw[HT.out] at d;rw[if_pos rfl] at d;obtain⟨v,rfl,s⟩:=d;obtain⟨m,hm⟩:=zX9 ((gU b).addrs.length)
 have HM:=O hm;rw[hm] at s;obtain⟨va,vc,rfl,-,-⟩:=(Rd.of_owns s).form;have D:=O s
 have C:b.length=47:=by
  have h:=HT.out;unfold lM at h;simp only[Bool.and_eq_true,decide_eq_true_eq] at h;exact h.1.1
 obtain⟨pc,l⟩:=zX9 (aE (.slice va m vc) (gU b))
 have t:pc.length=35:=by rw[←l];exact aF (by show (b.drop 15).length=32;rw[List.length_drop,C])
 have qf:∀u∈pc,u.oneCell'=true:=by rw[←l];exact cE _
 have qd:=O l;rw[l];clear s hm l C
 go_wp2_with (first
  | ((with_reducible show WL none (.store 30 (.tmp 2) (.tmp 6)));refine aQ rfl 30 (.tmp 2) (.tmp 6) rfl rb 0 pc rfl rfl W.toArray 30 qe.out (by rw[t,List.size_toArray,V];exact Nat.le_refl _) (cN t) qf ?_;intro w5 F H;rw[aS _ _ (by rw[t,List.size_toArray,V])] at F;have qa:=O (H.blk L.out (by omega));have X:=O F;have M:=O H;clear F H)
  | ((with_reducible show WL none (.store 179 (.tmp 3) (.tmp 7)));refine aQ rfl 179 (.tmp 3) (.tmp 7) rfl K 0 [.int .i64 0,.int .i64 0] rfl rfl #[.int .i64 0,.int .i64 0] 179 qa.out (Nat.le_refl _) mD (by simp[Value.oneCell']) ?_;intro w6 G I;rw[aS _ _ (by rfl)] at G;have Y:=O (I.blk X.out (by omega));have qb:=O G;have N:=O I;clear G I))
 refine leaves_cons (f:=168) (args:=#[.pointer rb,.pointer K]) (by simp) (by simp[go_sem]) ?_;refine(Gb _ _ _).mono ?_;rintro e u' ql ⟨rfl,rfl,rfl⟩;refine⟨_,BS rfl _ _ rb K _ _ _ _ _ _ _ _ rfl Y.out aI rfl (by rw[List.size_toArray,t];exact wV) rfl qb.out underlying179 rfl mD,?_,?_⟩
 ·exact(qc.trans' M.out (U:=aB) (fun _ _ h=>h) (fun i S e=>by have:=j.out;omega)).tT N.out (fun i S e=>by have:=j.out;omega)
 ·rw[HT.out,if_pos rfl]
  refine⟨_,by rw[qd.out],?_⟩;rw[HM.out];have h5:=M.owns D.out (fun i S e=>by have:=bM D.out S;have:=E.out;omega);exact bA (N.owns h5 (fun i S e=>by have:=bM D.out S;have:=E.out;omega)) (by have:=j.out;have:=E.out;omega)
theorem Nh(n k:Nat):be n (k+1)=be (n / 256) k++[UInt8.ofNat n]:=by
 unfold be;rw[List.range_succ,List.map_append,List.map_cons,List.map_nil]
 congr 1
 ·refine List.map_congr_left fun j a=>?_
  rw[List.mem_range] at a;unfold iY;rw[show 8*(k+1-1-j)=8*(k-1-j)+8 by omega,Nat.pow_add,Nat.mul_comm,←Nat.div_div_eq_div_mul]
 ·unfold iY
  simp
theorem O2(n:Nat):∀k,beN (be n k)=n % 256 ^ k:=by
 intro k
 induction k generalizing n with
 | zero=>simp[be,beN,Nat.mod_one]
 | succ k b =>
   rw[Nh,uP,b];have a:(UInt8.ofNat n).toNat=n % 256:=by simp
   rw[a,Nat.pow_succ,Nat.mul_comm (256 ^ k) 256,Nat.mod_mul];omega
theorem pG{z:Int}(h0:0≤z)(h:z<256 ^ k):(beN (be z.toNat k):Int)=z:=by
 rw[O2,Nat.mod_eq_of_lt]
 ·exact Int.toNat_of_nonneg h0
 ·have:((z.toNat:Nat):Int)<((256 ^ k:Nat):Int):=by rw[Int.toNat_of_nonneg h0];simpa using h
  exact_mod_cast this
theorem G5{A B C:List UInt8}(a:A.length=i)(b:B.length=k):((A++(B++C)).drop i).take k=B:=by
 subst a b;rw[List.drop_left,List.take_left]
theorem I2(p:Pt)(i:Nat)(h:i<3):((cJ p).drop (1+3*i)).take 1=be (p.addrs.getD i zAd).dev.toNat 1/\((cJ p).drop (1+3*i+1)).take 2=be (p.addrs.getD i zAd).sec.toNat 2:=by
 have a:i=0\/i=1\/i=2:=by omega
 rcases a with rfl|rfl|rfl<;>exact⟨rfl,rfl⟩
theorem KX(m:p.may=true)(h:i<3):Ae (cJ p) i=p.addrs.getD i zAd:=by
 obtain⟨e,f⟩:=I2 p i h;obtain⟨d,s,j,l,r⟩:=Kc (iF m).2.1 i;unfold Ae;rw[e,f,j];have a:=pG (z:=(d:Int)) (k:=1) (by omega) (by omega);have b:=pG (z:=(s:Int)) (k:=2) (by omega) (by omega);show (⟨_,_⟩:Ad)=_;rw[a,b]
theorem KY(u:p.sum.length=32)(b:p.may=true):gU (cJ p)=p:=by
 obtain⟨b1,r,d,s,e,t⟩:=iF b
 have m:beN ((cJ p).take 1)=p.addrs.length:=by
  have h0:(cJ p).take 1=be p.addrs.length 1:=rfl;have:=pG (z:=(p.addrs.length:Int)) (k:=1) (by omega) (by omega);rw[h0];rw[Int.toNat_natCast] at this
  exact_mod_cast this
 have l:dZ (cJ p) 3=p.addrs:=by
  unfold dZ;rw[m,Nat.min_eq_left b1];apply List.ext_getElem?;intro i;rw[List.getElem?_map]
  by_cases a:i<p.addrs.length
  ·rw[List.getElem?_range a,Option.map_some,KX b (by omega),List.getD_eq_getElem?_getD,List.getElem?_eq_getElem a]
   rfl
  ·rw[List.getElem?_eq_none (by simpa using a),List.getElem?_eq_none (by omega)]
   rfl
 have l3:(bW p 3).length=10:=fD p 3
 have f:((cJ p).drop 10).take 4=be p.birth.toNat 4:=by
  unfold cJ;rw[List.append_assoc,List.append_assoc];exact G5 l3 (bJ _ _)
 have h:((cJ p).drop 14).take 1=be p.level.toNat 1:=by
  unfold cJ;rw[List.append_assoc];exact G5 (by rw[List.length_append,l3,bJ]) (bJ _ _)
 have j:(cJ p).drop 15=p.sum:=by
  unfold cJ;have:(bW p 3++be p.birth.toNat 4++be p.level.toNat 1).length=15:=by rw[List.length_append,List.length_append,l3,bJ,bJ]
  rw[←this,List.drop_left]
 unfold gU;rw[l,f,h,j,pG d (by omega),pG e (by omega)]
end
end Go.Proofs.YtoeinblfcbpcmaaGreat
