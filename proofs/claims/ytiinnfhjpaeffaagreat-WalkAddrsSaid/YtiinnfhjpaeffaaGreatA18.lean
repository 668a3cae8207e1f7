import Derived.Test.YtiinnfhjpaeffaaGreatA1
import Derived.Test.YtiinnfhjpaeffaaGreatA17
namespace Go.Proofs.YtiinnfhjpaeffaaGreat
set_option maxHeartbeats 64000000
set_option maxRecDepth 100000
set_option linter.unusedVariables false
section
open Go.RowKit Go.Maps Go.ChangeMaps
def Ck(w:World)(cb g p m c:Nat):Prop:=w.heap[cb]?=some (.cells #[.slice (some ⟨g,p,none⟩) m c] 299 (0,0))
variable{n rb cb pb g o c B off k i:Nat}{w wr w':World}{v:Value}{q p:Pt}
theorem pP(w:World)(cb g p m c k:Nat)(bs:List UInt8)(f:Ck w cb g p m c)(u:w.rangeAt g p (bs.map vb))(s:bs.length=m)(P:m≤c)(S:c≤9223372036854775807)(K:1≤k)(L:k≤4)(N:k<m) :
 Calls Tryz.prog 213 #[.pointer cb,.int .i64 (k:Int)] w fun e w'=>e=.returned (.int .i64 (beN (bs.take k):Int))/\Ck w' cb g (p+k) (m-k) (c-k)/\aA (fun i=>i=cb) w w':=by
 have c0:w.cell? ⟨cb,0,none⟩=some (.slice (some ⟨g,p,none⟩) m c):=aC f rfl;have R:=dA f 0;have A:=O f;have D:=O u;have C:=O s;have M:(k:Int)≤(c:Int):=by omega
 have r:(k:Int)≤(m:Int):=by omega
 have J:(0:Int)≤(k:Int):=by omega
 have l:k≤c:=by omega
 clear f u s;go_in;go_wp2_with fail
 go_loop [5,15] (fun x i=>∃j:Nat,j≤k/\i=.int .i64 j/\x=.int .i64 (beN (bs.take j):Int)) (fun _ i=>k-(intOf i).toNat)
 case atStart=>exact⟨0,by omega,rfl,rfl⟩
 case round =>
  obtain⟨j,T,rfl,rfl⟩:=hrel
  by_cases I:j<k
  ·have b:j<bs.length:=by rw[C.out];omega
   have F:w.cell? ⟨g,p+j,none⟩=some (.int .u8 (bs[j].toNat:Int)):=D.out j _ (by simp[b,vb]);have z:=Da (bs.take j) (by simp;omega);have d:=sO (bs.take j) bs[j];have a:=bs[j].toNat_lt;rw[←List.take_succ_eq_append_getElem b] at d;obtain⟨q,t⟩:∃q,bs[j].toNat=q:=⟨_,rfl⟩
   rw[t] at F d a;obtain⟨y,h⟩:∃y,beN (bs.take j)=y:=⟨_,rfl⟩
   rw[h] at d z ⊢;have E:=O d;clear d h t;have G:(0:Int)≤(j:Int):=by omega
   have H:(j:Int)<(k:Int):=by omega
   have Q:=Fd y q z a;go_wp2
   go_round
   case rel=>exact⟨j+1,by omega,by go_num,by rw[E.out];simp⟩
   case measure=>simp[intOf];omega
  ·obtain rfl:j=k:=by omega
   go_wp2;go_ret;refine⟨rfl,?_,(aA.refl (fun i=>i=cb) w).setCell (p:=⟨cb,0,none⟩) (fun _=>rfl) _⟩;have:=dO A.out 0 (.slice (some ⟨g,p+j,none⟩) (m-j) (c-j));exact this
open Go.RowKit Go.Maps Go.ChangeMaps
set_option maxRecDepth 100000
set_option linter.unusedVariables false
def zPt:Pt:=⟨[],0,0,eP⟩
theorem AD(w:World):(zeroValue 27).run Tryz.prog w=.ok (.agg (aE (.slice none 0 0) zPt).toArray) w:=by kernel_rfl
def xQ(b:List UInt8)(i:Nat):Ad:=⟨(beN ((b.drop (1+3*i)).take 1):Int),(beN ((b.drop (1+3*i+1)).take 2):Int)⟩
def dZ(b:List UInt8)(k:Nat):List Ad:=(List.range (min (beN (b.take 1)) k)).map (xQ b)
def gG(b:List UInt8):Pt:=⟨dZ b 3,(beN ((b.drop 10).take 4):Int),(beN ((b.drop 14).take 1):Int),b.drop 15⟩
def kU(b:List UInt8):Bool:=decide (b.length=47) && (gG b).may && decide (ptB (gG b)=b)
theorem oS(b:List UInt8)(k:Nat):dZ b (k+1)=dZ b k++if k<beN (b.take 1) then [xQ b k] else []:=by
 unfold dZ
 by_cases h:k<beN (b.take 1)
 ·rw[if_pos h,Nat.min_eq_right (by omega),Nat.min_eq_right (by omega),List.range_succ,List.map_append]
  rfl
 ·rw[if_neg h,Nat.min_eq_left (by omega),Nat.min_eq_left (by omega),List.append_nil]
theorem uQ(l:List UInt8)(k:Nat)(h:l.length≤k):beN l<256 ^ k:=Nat.lt_of_lt_of_le (C9 l) (Nat.pow_le_pow_right (by omega) h)
theorem Db(h:n<16777216):Aq (n:Int):=⟨by omega,by omega⟩
theorem Fg(b:List UInt8)(i:Nat):eL (xQ b i):=by
 have a:=uQ ((b.drop (1+3*i)).take 1) 1 (by simp;omega);have d:=uQ ((b.drop (1+3*i+1)).take 2) 2 (by simp;omega);exact⟨Db (by omega),Db (by omega)⟩
theorem Dc(b:List UInt8)(k:Nat):iA (dZ b k):=fun x a=>by
 unfold dZ at a;obtain⟨i,-,rfl⟩:=List.mem_map.1 a;exact Fg b i
structure RdW(w wr:World)(rb cb pb g o c B off n:Nat)(v:Value)(q:Pt):Prop where
 res:wr.heap[rb]?=some (.cells (aE (.slice none 0 0) zPt).toArray 27 (0,0))
 cur:Ck wr cb g (o+off) (47-off) (c-off)
 pt:wr.heap[pb]?=some (.cells (aE v q).toArray 27 (0,0))
 row:wr.ownsRow B 82 2 v n (aF q.addrs)
 keep:aA aB w wr
 ord:w.heap.size≤rb/\rb<cb/\cb<pb/\pb<B
 sz:B≤wr.heap.size
theorem RdW.same(h:RdW w wr rb cb pb g o c B off n v q)(k:aA aB wr w'):RdW w w' rb cb pb g o c B off n v q:=
 ⟨k.blk h.res id,k.blk h.cur id,k.blk h.pt id,k.owns h.row fun _ _=>id,h.keep.trans k,h.ord,Nat.le_trans h.sz k.size⟩
theorem RdW.num(h:RdW w wr rb cb pb g o c B off n v q)(d:Ck w' cb g (o+off+k) (47-off-k) (c-off-k))(a:aA (fun i=>i=cb) wr w'):RdW w w' rb cb pb g o c B (off+k) n v q:=by
 obtain⟨f,j,l,m⟩:=h.ord;refine⟨a.blk h.res (by omega),?_,a.blk h.pt (by omega),a.owns h.row (fun i b e=>by have:=aW h.row b;omega),h.keep.trans' a (U:=aB) (fun _ _ h=>h) (fun i b e=>by omega),h.ord,Nat.le_trans h.sz a.size⟩;rw[←Nat.add_assoc,Nat.sub_add_eq,Nat.sub_add_eq];exact d
theorem RdW.put{m:Nat}{u:Value}{r:Pt}(h:RdW w wr rb cb pb g o c B off n v q)(f:w'.heap[pb]?=some (.cells (aE u r).toArray 27 (0,0)))(j:w'.ownsRow B 82 2 u m (aF r.addrs))(b:aA (fun i=>i=pb\/v.ownBlock=some i) wr w'):RdW w w' rb cb pb g o c B off m u r:=by
 obtain⟨l,s,t,x⟩:=h.ord
 have a:∀i,i<pb->¬(i=pb\/v.ownBlock=some i):=fun i d e=>by
  rcases e with e|e
  ·omega
  ·have:=aW h.row e;omega
 exact⟨b.blk h.res (a _ (by omega)),b.blk h.cur (a _ (by omega)),f,j,h.keep.trans' b (U:=aB) (fun _ _ h=>h) (fun i d e=>a i (by omega) e),h.ord,Nat.le_trans h.sz b.size⟩
theorem IN(v u:Value)(q:Pt)(l:List Ad):(aE v q).toArray.setIfInBounds 0 u=(aE u ⟨l,q.birth,q.level,q.sum⟩).toArray:=by rw[List.setIfInBounds_toArray];rfl
theorem IP(v:Value)(q:Pt)(x:Int):(aE v q).toArray.setIfInBounds 1 (.int .i64 x)=(aE v ⟨q.addrs,x,q.level,q.sum⟩).toArray:=by rw[List.setIfInBounds_toArray];rfl
theorem IQ(v:Value)(q:Pt)(x:Int):(aE v q).toArray.setIfInBounds 2 (.int .i64 x)=(aE v ⟨q.addrs,q.birth,x,q.sum⟩).toArray:=by rw[List.setIfInBounds_toArray];rfl
theorem KC(v:Value)(q:Pt)(s:List UInt8)(b:q.sum.length=32)(a:s.length=32):spl (aE v q).toArray 3 (s.map vb)=(aE v ⟨q.addrs,q.birth,q.level,s⟩).toArray:=by
 apply Array.ext_getElem?;intro j;rw[mC _ _ _ _ (by rw[List.size_toArray,aJ b,List.length_map,a];exact Nat.le_refl _)];simp only[List.getElem?_toArray,List.length_map,a]
 by_cases d:3≤j
 ·by_cases f:j<35
  ·rw[if_pos (by omega)]
   have e:(aE v ⟨q.addrs,q.birth,q.level,s⟩)[j]?=(s.map vb)[j-3]?:=by
    unfold aE;obtain⟨i,rfl⟩:∃i,j=i+3:=⟨j-3,by omega⟩
    simp
   rw[e]
  ·rw[if_neg (by omega),List.getElem?_eq_none (by rw[aJ b];omega),List.getElem?_eq_none (by rw[aJ (p:=⟨q.addrs,q.birth,q.level,s⟩) a];omega)]
 ·rw[if_neg (by omega)]
  have:j=0\/j=1\/j=2:=by omega
  rcases this with rfl|rfl|rfl<;>rfl
def zD(b a:Int):List PanicEntry:=[{ v:=.iface 234 (.agg #[.int .i64 b,.int .i64 a]),recovered:=false }]
def mM(w:World)(b:List UInt8)(e:Ending)(w':World):Prop:=
 aA aB w w'/\if kU b then ∃v,e=.returned (.agg (aE v (gG b)).toArray)/\w'.ownsRow w.heap.size 82 2 v (gG b).addrs.length (aF (gG b).addrs)
  else if b.length=47 then e=.panicked (zD 2 0) else e=.panicked (zD 4 (min b.length 47))
theorem Fh{l:List UInt8}(h:Rd w 1 v n (l.map vb))(t:l.length=n){x:UInt8}(d:l[k]?=some x):∃g o b,v=.slice (some ⟨g,o,none⟩) n b/\w.cell? ⟨g,o+k,none⟩=some (.int .u8 (x.toNat:Int)):=by
 obtain⟨h0,a,b,rfl,m,r,s,e⟩:=h;have j:=(List.getElem?_eq_some_iff.1 d).1;obtain⟨g,o,rfl,f⟩:=e (by rw[List.length_map];omega);exact⟨g,o,b,rfl,f k _ (by rw[List.getElem?_map,d];rfl)⟩
theorem wR(w:World)(x:Int):(Instr.build 182 #[(0,.int .i64 x)]).run Tryz.prog w=.ok (.agg #[.int .i64 x,.int .i64 0]) w:=by kernel_rfl
theorem zE(w:World)(x y:Int):(Instr.build 234 #[(0,.agg #[.int .i64 x,.int .i64 y])]).run Tryz.prog w=.ok (.agg #[.int .i64 x,.int .i64 y]) w:=by kernel_rfl
theorem Gq(w:World)(v v2:Value)(l m:List UInt8)(F:Rd w 1 v l.length (l.map vb))(M:Rd w 1 v2 m.length (m.map vb)):Calls Tryz.prog 214 #[v,v2] w (aX w (decide (l=m))):=by
 obtain⟨la,lc,rfl,-,-⟩:=F.form;obtain⟨ma,mc,rfl,-,-⟩:=M.form;have u:l.length≤maxLen:=by obtain⟨_,a',c',J,h2,h3,-⟩:=F;omega
 unfold maxLen at u;obtain⟨bb,d⟩:∃b,decide (l=m)=b:=⟨_,rfl⟩
 have a:=O d;rw[d];clear d;obtain⟨n,N⟩:∃n,l.length=n:=⟨_,rfl⟩
 obtain⟨q,P⟩:∃n,m.length=n:=⟨_,rfl⟩
 have S:=O F;have T:=O M;have D:=O N;have E:=O P;rw[N] at S u ⊢;rw[P] at T ⊢;clear F M N P
 by_cases z:n=q
 ·subst z
  go_in;go_wp2_with fail
  go_loopw [13] (fun t wr=>∃k:Nat,k≤n/\t=.int .i64 k/\Hid (l.take k=m.take k)/\Hid (aA aB w wr)) (fun t _=>n-(intOf t).toNat)
  case atStart=>exact⟨0,Nat.zero_le _,rfl,O (by simp),O (aA.refl _ _)⟩
  case round =>
  obtain⟨k,hk,rfl,U,r⟩:=hrel
  by_cases s:k<n
  ·have hki:(k:Int)<(n:Int):=by omega
   have hk0:(0:Int)≤(k:Int):=by omega
   obtain⟨x,Q⟩:∃x,l[k]?=some x:=⟨l[k]'(by rw[D.out];exact s),List.getElem?_eq_getElem _⟩
   obtain⟨y,R⟩:∃x,m[k]?=some x:=⟨m[k]'(by rw[E.out];exact s),List.getElem?_eq_getElem _⟩
   have Z:=S.keep r.out fun _ _=>id
   obtain⟨p,o,cap,hv,hc⟩:=Fh Z (by rw[D.out]) Q;have I:la=some ⟨p,o,none⟩:=by cases hv;rfl
   subst I;have A:=T.keep r.out fun _ _=>id
   obtain⟨p2,o2,X,C,hc2⟩:=Fh A (by rw[E.out]) R;have I:ma=some ⟨p2,o2,none⟩:=by cases C;rfl
   subst I;have V:=O Q;have W:=O R;obtain⟨bi,K⟩:∃b,((x.toNat:Int) != (y.toNat:Int))=b:=⟨_,rfl⟩
   have j:=O K;clear Z A hv C Q R;cases bi
   ·have e:x=y:=by
     have h:=j.out;simp only[bne_eq_false_iff_eq] at h;exact UInt8.toNat_inj.1 (by omega)
    have H:Hid (l.take (k+1)=m.take (k+1)):=O (by rw[List.take_add_one,List.take_add_one,U.out,V.out,W.out,e]);clear e;go_wp2_with fail
    go_quiet (fail)
    go_wp2_with fail;have G:=O (r.drewN nq)
    go_roundw
    case rel=>exact⟨k+1,by omega,by go_num,H,G⟩
    case measure=>simp[intOf];omega
   ·have f:bb=false:=by
     rw[←a.out];refine decide_eq_false fun e=>?_
     have J:=V.out;rw[e,W.out] at J;cases J
     have:=j.out;simp at this
    subst f;go_wp2_with fail
    go_quiet (fail)
    go_wp2;go_ret;exact⟨rfl,r.drewN nq⟩
  ·obtain rfl:n=k:=by omega
   have L:bb=true:=by
    rw[←a.out];refine decide_eq_true ?_;have h:=U.out
    rwa [List.take_of_length_le (by rw[D.out];exact Nat.le_refl _),List.take_of_length_le (by rw[E.out];exact Nat.le_refl _)] at h
   subst L;go_wp2;go_ret;exact⟨rfl,r.out⟩
 ·have f:bb=false:=by
   rw[←a.out];exact decide_eq_false fun e=>z (by rw[←D.out,←E.out,e])
  subst f;have Y:((n:Int) != (q:Int))=true:=by simp;omega
  go_in;go_wp2;go_ret;exact⟨rfl,aA.refl _ _⟩
theorem IR(w:World)(bv:Value)(b:List UInt8)(hr:Rd w 1 bv b.length (b.map vb))(hl:b.length=47):Calls Tryz.prog 164 #[bv] w (mM w b):=by
 obtain⟨g,o,c,rfl,N⟩:∃g o c,bv=.slice (some ⟨g,o,none⟩) 47 c/\w.rangeAt g o (b.map vb):=by
  obtain⟨h0,a,cap,rfl,h2,h3,h4,h5⟩:=hr;obtain⟨g,o,rfl,hc⟩:=h5 (by simp;omega);exact⟨g,o,cap,by rw[hl],hc⟩
 have hc47:47≤c/\c≤9223372036854775807:=by
  obtain⟨_,a',c',h1,h2,h3,-⟩:=hr;unfold maxLen at h3;injection h1 with e1 e2 e3
  omega
 have Y:=O hl
 have P:=O (fun wx (k:aA aB w wx) (off:Nat)=>(show wx.rangeAt g (o+off) ((b.drop off).map vb) from fun j v hj=>by
  rw[List.map_drop,List.getElem?_drop] at hj;rw[Nat.add_assoc];exact(k.rangeAt N) (off+j) v hj))
 have HRB:=O (fun wx (k:aA aB w wx)=>hr.keep k fun _ _=>id);rw[hl] at HRB;have hz:=AD;obtain⟨zc,hzc⟩:∃x,aE (.slice none 0 0) zPt=x:=⟨_,rfl⟩
 have hzl:zc.length=35:=by rw[←hzc];rfl
 have HZ:=O hzc;rw[hzc] at hz;obtain⟨wa,hwa,ka,ha,sa⟩:=aS w zc.toArray 27;obtain⟨wb,hwb,kb,hb,sb⟩:=aS wa #[.slice (some ⟨g,o,none⟩) 47 c] 299;obtain⟨wc,hwc,kc,hc,sc⟩:=aS wb zc.toArray 27;obtain⟨rb,hrb⟩:∃x,w.heap.size=x:=⟨_,rfl⟩
 obtain⟨cb,hcb⟩:∃x,wa.heap.size=x:=⟨_,rfl⟩
 obtain⟨pb,hpb⟩:∃x,wb.heap.size=x:=⟨_,rfl⟩
 obtain⟨B,hB⟩:∃x,wc.heap.size=x:=⟨_,rfl⟩
 rw[hrb] at ha;rw[hcb] at hb;rw[hpb] at hc;have HW0:Hid (RdW w wc rb cb pb g o c B 0 0 (.slice none 0 0) zPt):=O ⟨by rw[HZ.out];exact kc.blk (kb.blk ha id) id,kc.blk hb id,by rw[HZ.out];exact hc,World.ownsRow_nil _ _ _ _,(ka.trans kb).trans kc,by omega,by omega⟩;have HRBE:=O hrb;have HBE:=O hB;clear hr N ha hb hc sa sb sc ka kb kc hl hzc;go_in
 go_wp2_with (first
  | ((with_reducible show WL (some 2) (.alloc 27));refine aV rfl 27 rfl _ hz zc.toArray rfl ?_;rw[hwa,hrb])
  | ((with_reducible show WL (some 4) (.alloc 27));refine aV rfl 27 rfl _ hz zc.toArray rfl ?_;rw[hwc,hpb]))
 refine(pP _ cb g (o+(0)) (47-(0)) (c-(0)) 1 (b.drop (0)) HW0.cur (P.out _ HW0.keep _) (by rw[List.length_drop,Y.out]) (by omega) (by omega) (by omega) (by omega) (by omega)).mono ?_;rintro e w1 ⟨rfl,f,y⟩;have HW1:=O (HW0.num f y);clear f y;obtain⟨mn,hmn⟩:∃x,beN (b.take 1)=x:=⟨_,rfl⟩
 have hmnb:mn<256:=by rw[←hmn];exact uQ _ 1 (by simp;omega)
 have HMN:=O hmn;rw[List.drop_zero,hmn];clear hmn HW0 hwa hwb hwc hrb hcb hpb hB;go_wp2_with fail
 go_loopw [24] (fun i wr=>∃(k m:Nat) (L:Option Addr) (pc:Nat),k≤3/\m≤k/\i=.int .i64 k/\Hid ((dZ b k).length=m)/\Hid (RdW w wr rb cb pb g o c B (1+3*k) m (.slice L m pc) ⟨dZ b k,0,0,eP⟩)) (fun i _=>3-(intOf i).toNat)
 case atStart=>exact⟨0,0,none,0,by omega,by omega,rfl,O (by simp[dZ]),O (by
  have h:=HW1.out;have e:dZ b 0=[]:=by simp[dZ]
  rw[e];exact h)⟩
 case round =>
 clear HW1;obtain⟨k,m,L,z,hk,hqk,rfl,HQL,Z⟩:=hrel
 by_cases hlt:k<3
 ·have hki:(k:Int)<3:=by omega
  have hk0:(0:Int)≤(k:Int):=by omega
  have had:=Fg b k;obtain⟨d,hd⟩:∃x,beN ((b.drop (1+3*k)).take 1)=x:=⟨_,rfl⟩
  obtain⟨s,hs⟩:∃x,beN ((b.drop (1+3*k+1)).take 2)=x:=⟨_,rfl⟩
  have HAD:Hid (xQ b k=⟨(d:Int),(s:Int)⟩):=O (by unfold xQ;rw[hd,hs]);have HD:=O hd;have HS:=O hs;have hbe:=E5 (d:Int) (s:Int);clear hd hs had;go_wp2_with fail;refine(pP _ cb g (o+(1+3*k)) (47-(1+3*k)) (c-(1+3*k)) 1 (b.drop (1+3*k)) Z.cur (P.out _ Z.keep _) (by rw[List.length_drop,Y.out]) (by omega) (by omega) (by omega) (by omega) (by omega)).mono ?_;rintro e w2 ⟨rfl,f,y⟩;have A:=O (Z.num f y);clear f y;rw[HD.out];go_wp2_with fail;refine(pP _ cb g (o+(1+3*k+1)) (47-(1+3*k+1)) (c-(1+3*k+1)) 2 (b.drop (1+3*k+1)) A.cur (P.out _ A.keep _) (by rw[List.length_drop,Y.out]) (by omega) (by omega) (by omega) (by omega) (by omega)).mono ?_;rintro e w3 ⟨rfl,f,y⟩;have F:=O (A.num f y);clear f y;rw[HS.out];clear Z A;obtain⟨w4,hw4,hk4,hb4,hs4⟩:=aS w3 #[.int .i64 0,.int .i64 0] 82;obtain⟨ab,R⟩:∃x,w3.heap.size=x:=⟨_,rfl⟩
  rw[R] at hb4;have HB4:=O hb4;have C:=O (F.same hk4);have HABW:Hid (w.heap.size≤ab/\pb<ab/\∀i,(Value.slice L m z).ownBlock=some i->i<ab):=O ⟨by rw[←R];exact F.keep.size,by rw[←R];exact lt_of_block F.pt,fun i D=>by rw[←R];exact(F.row.lt i D).2⟩;clear hk4 hb4 hs4
  by_cases hkm:k<mn
  ·have hmi:(k:Int)<(mn:Int):=by omega
   have hmd:decide ((k:Int)<(mn:Int))=true:=decide_eq_true hmi
   go_wp2_with (first
    | ((with_reducible show WL (some 7) (.alloc 82));refine aV rfl 82 rfl bT eH #[.int .i64 0,.int .i64 0] rfl ?_;rw[hw4,R])
    | ((with_reducible show WL none (.store 82 (.tmp 7) (.tmp 31)));refine aR rfl 82 (.tmp 7) (.tmp 31) rfl ab 0 (aM ⟨(d:Int),(s:Int)⟩) rfl rfl #[.int .i64 0,.int .i64 0] 82 HB4.out (Nat.le_refl _) bH (bG _) ?_
       intro K I l;rw[aK _ _ (by rfl)] at I;have HAB:=O I
       have G:Hid (RdW w K rb cb pb g o c B (1+3*k+1+2) m (.slice L m z) ⟨dZ b k,0,0,eP⟩):=O (by
        have h:=C.out;obtain⟨o1,o2,o3,o4⟩:=h.ord;have h7:=HABW.out;have M:∀i,i<ab->¬i=ab:=fun i D=>by omega
        exact⟨l.blk h.res (M _ (by omega)),l.blk h.cur (M _ (by omega)),l.blk h.pt (M _ (by omega)),l.owns h.row (fun i D e=>by have:=h7.2.2 i D;omega),h.keep.trans' l (U:=aB) (fun _ _ h=>h) (fun i D e=>by omega),h.ord,Nat.le_trans h.sz l.size⟩)
       clear I l;have a5:K.cell? ⟨pb,0,none⟩=some (.slice L m z):=aC G.pt rfl;obtain⟨w6,hw6,hk6,hb6,hs6⟩:=aS K (aM ⟨(d:Int),(s:Int)⟩).toArray 82;obtain⟨bx,hbx⟩:∃x,K.heap.size=x:=⟨_,rfl⟩
       rw[hbx] at hb6;have HRN:Hid (Rd w6 2 (.slice bx 1 1) 1 (aM ⟨(d:Int),(s:Int)⟩)):=O (dE (n:=1) (size:=2) (vs:=aM ⟨(d:Int),(s:Int)⟩) hb6 rfl (by unfold maxLen;omega));have r:=O (G.same hk6);have hsz6:B≤w6.heap.size:=r.sz;clear hk6 hb6 hs6)
    | ((with_reducible show WL _ (.load 82 (.tmp 7)));refine wpList_load_mid rfl 82 (.tmp 7) rfl ab 0 rfl (aM ⟨(d:Int),(s:Int)⟩) _ (aD HAB.out) bB rfl bH ?_)
    | ((with_reducible show WL _ (.buildSlice _ 1 _));refine bL rfl 23 82 (.tmp 37) rfl Tryz.underlying23 cR (by decide) (aM ⟨(d:Int),(s:Int)⟩) rfl (by decide) rfl ?_;rw[hw6,hbx])
    | (at_builtin;refine aL rfl (.tmp 36) (.tmp 38) 23 rfl B 82 bT 2 16 Tryz.underlying23 cR rfl (by decide) (.slice L m z) m (aF (dZ b k)) rfl r.row (.slice bx 1 1) 1 (aM ⟨(d:Int),(s:Int)⟩) rfl HRN.out (bG _) (by unfold maxLen;omega) (by omega) hsz6 ?_
       intro v' X ho5 l hn5 I;obtain⟨va,vc,rfl,-,-⟩:=(Rd.of_owns ho5).form;have hp7:=l.blk r.pt (fun e=>by have:=aW r.row e;have:=r.ord;omega);have hcc7:X.cell? ⟨pb,0,none⟩=some (.slice L m z):=aC hp7 rfl;have hcf7:=dA hp7 0;have HP7:=O hp7;have HK7:=O l
       have HO7:Hid (X.ownsRow B 82 2 (.slice va (m+1) vc) (m+1) (aF (dZ b (k+1)))):=O (by
        rw[oS,if_pos (by rw[HMN.out];exact hkm),HAD.out,bO,fY];exact ho5)
       clear ho5 l hn5 I hp7))
   have J:Hid (RdW w (X.setCell ⟨pb,0,none⟩ (.slice va (m+1) vc)) rb cb pb g o c B (1+3*(k+1)) (m+1) (.slice va (m+1) vc) ⟨dZ b (k+1),0,0,eP⟩):=O (by
    have e:1+3*(k+1)=1+3*k+1+2:=by omega
    have E:aA (fun i=>i=pb) X (X.setCell ⟨pb,0,none⟩ (.slice va (m+1) vc)):=(aA.refl (fun i=>i=pb) X).setCell (p:=⟨pb,0,none⟩) (fun _=>rfl) _;rw[e];refine r.put ?_ (E.owns HO7.out (fun i D e=>by have:=aW HO7.out D;have:=r.ord;omega)) ((HK7.mono (fun _ _ h=>.inr h)).trans' E (fun _ _ h=>h) (fun i D e=>.inl e));rw[dO HP7.out,IN _ _ _ (dZ b (k+1))])
   have HQ8:Hid ((dZ b (k+1)).length=m+1):=O (by rw[oS,if_pos (by rw[HMN.out];exact hkm),List.length_append,HQL.out];rfl)
   go_roundw
   case rel=>exact⟨k+1,m+1,va,vc,by omega,by omega,by go_num,HQ8,J⟩
   case measure=>simp[intOf];omega
  ·have hmi:¬(k:Int)<(mn:Int):=by omega
   have hmd:decide ((k:Int)<(mn:Int))=false:=decide_eq_false hmi
   go_wp2_with (first
    | ((with_reducible show WL (some 7) (.alloc 82));refine aV rfl 82 rfl bT eH #[.int .i64 0,.int .i64 0] rfl ?_;rw[hw4,R])
    | ((with_reducible show WL none (.store 82 (.tmp 7) (.tmp 31)));refine aR rfl 82 (.tmp 7) (.tmp 31) rfl ab 0 (aM ⟨(d:Int),(s:Int)⟩) rfl rfl #[.int .i64 0,.int .i64 0] 82 HB4.out (Nat.le_refl _) bH (bG _) ?_
       intro K I l;rw[aK _ _ (by rfl)] at I;have HAB:=O I
       have G:Hid (RdW w K rb cb pb g o c B (1+3*k+1+2) m (.slice L m z) ⟨dZ b k,0,0,eP⟩):=O (by
        have h:=C.out;obtain⟨o1,o2,o3,o4⟩:=h.ord;have h7:=HABW.out;have M:∀i,i<ab->¬i=ab:=fun i D=>by omega
        exact⟨l.blk h.res (M _ (by omega)),l.blk h.cur (M _ (by omega)),l.blk h.pt (M _ (by omega)),l.owns h.row (fun i D e=>by have:=h7.2.2 i D;omega),h.keep.trans' l (U:=aB) (fun _ _ h=>h) (fun i D e=>by omega),h.ord,Nat.le_trans h.sz l.size⟩)
       clear I l
       skip))
   have J:Hid (RdW w K rb cb pb g o c B (1+3*(k+1)) m (.slice L m z) ⟨dZ b (k+1),0,0,eP⟩):=O (by
    have e:1+3*(k+1)=1+3*k+1+2:=by omega
    have e2:dZ b (k+1)=dZ b k:=by rw[oS,if_neg (by rw[HMN.out];exact hkm),List.append_nil]
    rw[e,e2];exact G.out)
   have HQ8:Hid ((dZ b (k+1)).length=m):=O (by rw[oS,if_neg (by rw[HMN.out];exact hkm),List.append_nil];exact HQL.out)
   go_roundw
   case rel=>exact⟨k+1,m,L,z,by omega,by omega,by go_num,HQ8,J⟩
   case measure=>simp[intOf];omega
 ·obtain rfl:k=3:=by omega
  have Z:=O (show RdW w wr rb cb pb g o c B 10 m (.slice L m z) ⟨dZ b 3,0,0,eP⟩ from Z.out);obtain⟨bi,hbi⟩:∃x,beN ((b.drop 10).take 4)=x:=⟨_,rfl⟩
  obtain⟨le,hle⟩:∃x,beN ((b.drop (10+4)).take 1)=x:=⟨_,rfl⟩
  have HBI:=O hbi;have HLE:=O hle;have V:Hid ((b.drop 15).length=32):=O (by rw[List.length_drop,Y.out]);clear hbi hle;go_wp2_with fail;refine(pP _ cb g (o+(10)) (47-(10)) (c-(10)) 4 (b.drop (10)) Z.cur (P.out _ Z.keep _) (by rw[List.length_drop,Y.out]) (by omega) (by omega) (by omega) (by omega) (by omega)).mono ?_;rintro e w2 ⟨rfl,f,y⟩;have A:=O (Z.num f y);clear f y;rw[HBI.out];have k0:=aC A.pt (i:=1) rfl;have kf:=dA A.pt 1;obtain⟨w3,hw1⟩:∃x,w2.setCell ⟨pb,1,none⟩ (.int .i64 (bi:Int))=x:=⟨_,rfl⟩
  have F:Hid (RdW w w3 rb cb pb g o c B (10+4) m (.slice L m z) ⟨dZ b 3,(bi:Int),0,eP⟩):=O (by
   have E:aA (fun i=>i=pb) w2 w3:=by rw[←hw1];exact(aA.refl (fun i=>i=pb) w2).setCell (p:=⟨pb,1,none⟩) (fun _=>rfl) _
   refine A.put ?_ (E.owns A.row (fun i D e=>by have:=aW A.row D;have:=A.ord;omega)) (E.mono (fun _ _ h=>.inl h));rw[←hw1,dO A.pt,IP _ _ (bi:Int)])
  clear Z;go_wp2_with fail;clear k0 kf hw1 A;refine(pP _ cb g (o+(10+4)) (47-(10+4)) (c-(10+4)) 1 (b.drop (10+4)) F.cur (P.out _ F.keep _) (by rw[List.length_drop,Y.out]) (by omega) (by omega) (by omega) (by omega) (by omega)).mono ?_;rintro e w4 ⟨rfl,f,y⟩;have C:=O (F.num f y);clear f y;rw[HLE.out];have k0:=aC C.pt (i:=2) rfl;have kf:=dA C.pt 2;obtain⟨K,hw2⟩:∃x,w4.setCell ⟨pb,2,none⟩ (.int .i64 (le:Int))=x:=⟨_,rfl⟩
  have G:Hid (RdW w K rb cb pb g o c B (10+4+1) m (.slice L m z) ⟨dZ b 3,(bi:Int),(le:Int),eP⟩):=O (by
   have E:aA (fun i=>i=pb) w4 K:=by rw[←hw2];exact(aA.refl (fun i=>i=pb) w4).setCell (p:=⟨pb,2,none⟩) (fun _=>rfl) _
   refine C.put ?_ (E.owns C.row (fun i D e=>by have:=aW C.row D;have:=C.ord;omega)) (E.mono (fun _ _ h=>.inl h));rw[←hw2,dO C.pt,IQ _ _ (le:Int)])
  go_wp2_with fail;clear k0 kf hw2 C F;obtain⟨S,hS0⟩:∃S:World->Prop,S=fun w'=>aA (fun i=>i=pb) K w':=⟨_,rfl⟩
  have HSE:=O (show ∀w',S w'->aA (fun i=>i=pb) K w' from fun w' h=>by rw[hS0] at h;exact h);have HSI:=O (show ∀w',aA (fun i=>i=pb) K w'->S w' from fun w' h=>by rw[hS0];exact h);have r:=O (G.same (aA.refl aB K).drew);have hS:S K.drew:=by rw[hS0];exact(aA.refl _ _).drew
  have HCU:=O (fun w' (h:S w')=>(aC ((HSE.out w' h).blk G.cur (by have:=G.ord;omega)) rfl:w'.cell? ⟨cb,0,none⟩=some (.slice (some ⟨g,o+(10+4+1),none⟩) (47-(10+4+1)) (c-(10+4+1)))));refine wp_region_held (S:=S) (by kernel_rfl) ?_;change wpAnyH _ _ _ _ _ _ _ _ K.drew;generalize K.drew=w6 at hS r ⊢;refine tkb 0 (.pointer (some ⟨pb,3,none⟩)) rfl hS ?_;simp only[Act.put,List.setIfInBounds_toArray,List.set_cons_zero,List.set_cons_succ,List.getElem_toArray,List.getElem_cons_zero];refine tnb 1 (.slice (some ⟨pb,3,none⟩) 32 32) rfl hS ?_;refine tna 2 (.pointer cb) rfl hS ?_;refine tnb 3 (.pointer cb) rfl hS ?_;refine tnb 4 (.pointer cb) rfl hS ?_;refine tnd 5 (.slice (some ⟨g,o+(10+4+1),none⟩) (47-(10+4+1)) (c-(10+4+1))) rfl (.inl ⟨by rfl,fun w' hw'=>by have c:=HCU.out w' hw';go_simp⟩) hS ?_;refine wA9 6 ?_;refine rI rfl (.tmp 49) (.tmp 53) 109 109 rfl 5 Tryz.underlying109 yO pb 3 32 32 rfl _ 32 ((b.drop 15).map vb) rfl ⟨by rw[List.length_map,V.out],some ⟨g,o+15,none⟩,c-15,rfl,by omega,by unfold maxLen;omega,(by intro h;cases h),fun _=>⟨g,o+15,rfl,fun i u hu=>P.out _ r.keep 15 i u hu⟩⟩ 32 rfl _ _ r.pt (by rw[List.size_toArray,aJ (p:=⟨dZ b 3,(bi:Int),(le:Int),eP⟩) rfl];decide) (bS _) ?_;intro X hb7 hk7;rw[List.take_of_length_le (by rw[List.length_map,V.out];exact Nat.le_refl _),KC _ _ _ rfl V.out] at hb7
  have HW7:Hid (RdW w X rb cb pb g o c B (10+4+1) m (.slice L m z) (gG b)):=O (by
   have e:gG b=⟨dZ b 3,(bi:Int),(le:Int),b.drop 15⟩:=by unfold gG;rw[HBI.out,HLE.out]
   rw[e];exact r.put hb7 (hk7.owns r.row (fun i D e=>by have:=aW r.row D;have:=r.ord;omega)) (hk7.mono (fun _ _ h=>.inl h)))
  have hS7:S X:=HSI.out _ ((HSE.out _ hS).trans hk7);clear hb7 hk7 hS hS0;refine wpList_nil ?_;refine⟨hS7,?_⟩;refine wpAnyH_done (by kernel_rfl) ?_ _;clear hS7 HSE HSI HCU r G
  have HPV:Hid (PtV X (.slice L m z) (gG b)):=O ⟨by
   have h:=Rd.of_owns HW7.row;have e:(gG b).addrs.length=m:=HQL.out;rw[e];exact h,Dc b 3,V.out⟩
  have Q:=O (aD HW7.pt);obtain⟨pc,hpc⟩:∃x,aE (.slice L m z) (gG b)=x:=⟨_,rfl⟩
  have W:pc.length=35:=by rw[←hpc];exact aJ V.out
  have HPC:=O hpc;have HBY:=O (uM X _ _ HPV.out);rw[hpc] at Q HBY;obtain⟨t,ht⟩:∃t,(gG b).may=t:=⟨_,rfl⟩
  have HT:=O ht;clear hpc ht
  go_wp2_with (first
   | ((with_reducible show WL _ (.load 27 (.tmp 4)));refine wpList_load_mid rfl 27 (.tmp 4) rfl (pb) 0 rfl pc _ Q.out aH rfl (bY W) ?_))
  refine HBY.mono ?_;rintro e w8 ⟨v8,rfl,ho8,hk8⟩;have J:=O (HW7.same hk8);have hrx:=Rd.of_owns ho8;obtain⟨xa,xc,rfl,-,-⟩:=hrx.form;have HRX:=O hrx;rw[HT.out];clear ho8 hk8 hrx HBY Q HW7;cases t
  ·have HPO:Hid (∀w' e,aA aB w w'->e=.panicked (zD 2 0)->mM w b e w'):=O (fun w' e k he=>by
    unfold mM;rw[show kU b=false by unfold kU;rw[HT.out];simp,if_neg (by decide),if_pos Y.out];exact⟨k,he⟩)
   have hb1:=fun w=>wR w 2
   have hb2:=fun w=>zE w 2 0
   go_wp2_with fail;exact⟨rfl,HPO.out _ _ J.keep rfl⟩
  ·obtain⟨u,hu⟩:∃u,decide (ptB (gG b)=b)=u:=⟨_,rfl⟩
   have HU:=O hu;have T:=Gq w8 _ (.slice (some ⟨g,o,none⟩) 47 c) (ptB (gG b)) b HRX.out (by rw[Y.out];exact HRB.out _ J.keep);rw[hu] at T;have T:=O T;clear hu;go_wp2_with fail;refine T.mono ?_;rintro e w9 ⟨rfl,hk9⟩;have H:=O (J.same hk9);have Q:=O (aD H.pt);rw[HPC.out] at Q;clear hk9 T J;cases u
   ·have HPO:Hid (∀w' e,aA aB w w'->e=.panicked (zD 2 0)->mM w b e w'):=O (fun w' e k he=>by
     unfold mM;rw[show kU b=false by unfold kU;rw[HU.out];simp,if_neg (by decide),if_pos Y.out];exact⟨k,he⟩)
    have hb1:=fun w=>wR w 2
    have hb2:=fun w=>zE w 2 0
    go_wp2_with fail;exact⟨rfl,HPO.out _ _ H.keep rfl⟩
   ·have hrs:=H.res
    rw[HZ.out] at hrs;have HRS:=O hrs
    have hpo:∀x∈pc,x.oneCell'=true:=by
     intro x hx;rw[←HPC.out] at hx;unfold aE at hx;simp only[List.mem_cons] at hx;rcases hx with rfl|rfl|rfl|hx
     ·rfl
     ·rfl
     ·rfl
     ·exact bS _ x hx
    clear hrs
    go_wp2_with (first
     | ((with_reducible show WL _ (.load 27 (.tmp 4)));refine wpList_load_mid rfl 27 (.tmp 4) rfl (pb) 0 rfl pc _ Q.out aH rfl (bY W) ?_)
     | ((with_reducible show WL none (.store 27 (.tmp 2) (.tmp 71)));refine aR rfl 27 (.tmp 2) (.tmp 71) rfl rb 0 pc rfl rfl zc.toArray 27 HRS.out (by rw[W,List.size_toArray,hzl];exact Nat.le_refl _) (bY W) hpo ?_;intro w10 hb10 hk10;have HB10:=O hb10;have HK10:=O hk10;clear hb10 hk10))
    refine bodyPost_ret (results_cell_row rfl _ _ rb _ _ _ _ rfl HB10.out aH rfl (by rw[eU,List.size_toArray,hzl];exact zC)) rfl ?_;have E:aA aB w w10:=H.keep.trans' HK10.out (fun _ _ h=>h) (fun i D e=>by have:=H.ord;omega);refine⟨E,?_⟩;rw[if_pos (by unfold kU;rw[Y.out,HT.out,HU.out];rfl)];refine⟨_,by rw[aK _ _ (by rw[W,List.size_toArray,hzl]),←HPC.out],?_⟩;have e:(gG b).addrs.length=m:=HQL.out;rw[e];exact aQ (HK10.owns H.row (fun i D e=>by have:=aW H.row D;have:=H.ord;omega)) (by have:=H.ord;omega)
open Go.RowKit Go.Maps Go.ChangeMaps
set_option maxRecDepth 100000
set_option linter.unusedVariables false
theorem Fi(w:World):(zeroValue 182).run Tryz.prog w=.ok (.agg #[.int .i64 0,.int .i64 0]) w:=by kernel_rfl
theorem AE{P:Program}{z:Func}{p q:Tmp}{f j:TypeId}(h:z.results=#[.cell p f,.cell q j])(tmps:Array Value)(w:World)(g e:Nat)(t C:TypeId)(cs a:Array Value)(A b:Nat×Nat)(d l:TypeDesc)
 (G:tmps.getD p undef=.pointer g) (E:w.heap[g]?=some (.cells cs t A)) (I:P.underlying f=some d) (D:(match d with|.struct _|.array _ _=>true|_=>false)=true) (F:(P.info? f).map (·.size)=some cs.size)
 (u:tmps.getD q undef=.pointer e) (r:w.heap[e]?=some (.cells a C b)) (y:P.underlying j=some l) (m:(match l with|.struct _|.array _ _=>true|_=>false)=true) (s:(P.info? j).map (·.size)=some a.size) :
 (results z tmps).run P w=.ok (.tuple #[.agg cs,.agg a]) w:=by
 have H:tmps[p]?.getD undef=.pointer g:=by simpa using G
 have x:tmps[q]?.getD undef=.pointer e:=by simpa using u
 simp[results,h,H,x,asAddr,run_loadVar_row w g t f cs A d E I D F,run_loadVar_row w e C j a b l r y m s]
theorem Ez(A F:Nat)(w:World) :
 CallsD Tryz.prog 163 #[.pointer A,.pointer F] .returning w fun e d w'=>e=.returned (.tuple #[])/\d=.returning/\w'=w:=by
 refine callsD_of_wpS Tryz.func163 rfl fun a f b=>?_
 apply wpS_seq;apply wpS_region;simp[wpOpsS,go_sem,recoverD,b,Tryz.ntmps163,Exit.thenS];refine wpS_of_wp ?_;go_wp2_with fail;cases a
 simp_all [bodyPostS,results,Tryz.results163]
open Go.RowKit Go.Maps Go.ChangeMaps
set_option maxRecDepth 100000
set_option linter.unusedVariables false
def LZ(b:List UInt8):Int×Int:=if b.length=47 then (2,0) else (4,min b.length 47)
def IS(w:World)(b:List UInt8)(e:Ending)(w':World):Prop:=
 aA aB w w'/\if kU b then ∃v,e=.returned (.tuple #[.agg (aE v (gG b)).toArray,.agg #[.int .i64 0,.int .i64 0]])/\w'.ownsRow w.heap.size 82 2 v (gG b).addrs.length (aF (gG b).addrs)
  else e=.returned (.tuple #[.agg (aE (.slice none 0 0) zPt).toArray,.agg #[.int .i64 (LZ b).1,.int .i64 (LZ b).2]])
theorem cP{d:Option Addr}{b:Nat}(p:Pt):∀u∈aE (.slice d n b) p,u.oneCell'=true:=by
 intro x a;unfold aE at a;simp only[List.mem_cons] at a;rcases a with rfl|rfl|rfl|a
 ·rfl
 ·rfl
 ·rfl
 ·exact bS _ x a
theorem KD(w:World)(bv:Value)(b:List UInt8)(hr:Rd w 1 bv b.length (b.map vb))(ht:kU b=true):Calls Tryz.prog 112 #[bv] w (IS w b):=by
 have T:b.length=47:=by
  have h:=ht;unfold kU at h;simp only[Bool.and_eq_true,decide_eq_true_eq] at h;exact h.1.1
 have HT:=O ht;have Z:=O (fun wx (k:aA aB w wx)=>IR wx bv b (hr.keep k fun _ _=>id) T);obtain⟨a,ca,rfl,-,-⟩:=hr.form;obtain⟨n,hn⟩:∃n,b.length=n:=⟨_,rfl⟩
 rw[hn] at Z ⊢;have hz:=AD;obtain⟨W,y⟩:∃x,aE (.slice none 0 0) zPt=x:=⟨_,rfl⟩
 have V:W.length=35:=by rw[←y];rfl
 have HZ:=O y;have HN:=O hn;rw[y] at hz;obtain⟨wa,hwa,ka,ha,sa⟩:=aS w W.toArray 27;obtain⟨wb,hwb,kb,hb,sb⟩:=aS wa #[.int .i64 0,.int .i64 0] 182;obtain⟨rb,J⟩:∃x,w.heap.size=x:=⟨_,rfl⟩
 obtain⟨K,R⟩:∃x,wa.heap.size=x:=⟨_,rfl⟩
 have hrf:rb<K:=by omega
 rw[J] at ha;rw[R] at hb;have A:=O (kb.blk ha id);have z:=O hb;have P:=O (ka.trans kb);have j:=O J;have E:Hid (wb.heap.size=K+1):=O (by omega);have hmf:∀(fn:Fn) (first Q:Array Value) (w:World),(Instr.makeFunc fn first Q).run Tryz.prog w=.ok (.func fn first Q) w:=fun _ _ _ _=>rfl
 clear hr ka kb ha hb sa sb y hn ht T
 go_enter_defers Tryz.func112,Tryz.ntmps112
 go_wp2_with (first
  | ((with_reducible show WL (some 2) (.alloc 27));refine aV rfl 27 rfl _ hz W.toArray rfl ?_;rw[hwa,J])
  | ((with_reducible show WL (some 3) (.alloc 182));refine aV rfl 182 rfl _ Fi #[.int .i64 0,.int .i64 0] rfl ?_;rw[hwb,R]))
 refine(Z.out _ P.out).mono ?_;intro e w4 d;unfold mM at d;obtain⟨r,d⟩:=d;have HRB:=O (r.blk A.out id);have L:=O (r.blk z.out id);have HK4:=O (P.trans r);have HS4:Hid (K<w4.heap.size):=O (lt_of_block L.out);clear r A z Z;rw[HT.out] at d;rw[if_pos rfl] at d;obtain⟨v,rfl,s⟩:=d;obtain⟨m,hm⟩:∃m,(gG b).addrs.length=m:=⟨_,rfl⟩
 have HM:=O hm;rw[hm] at s;obtain⟨va,vc,rfl,-,-⟩:=(Rd.of_owns s).form;have D:=O s
 have C:b.length=47:=by
  have h:=HT.out;unfold kU at h;simp only[Bool.and_eq_true,decide_eq_true_eq] at h;exact h.1.1
 obtain⟨pc,l⟩:∃x,aE (.slice va m vc) (gG b)=x:=⟨_,rfl⟩
 have t:pc.length=35:=by rw[←l];exact aJ (by show (b.drop 15).length=32;rw[List.length_drop,C])
 have hpo:∀u∈pc,u.oneCell'=true:=by rw[←l];exact cP _
 have HPC:=O l;rw[l];clear s hm l C
 go_wp2_with (first
  | ((with_reducible show WL none (.store 27 (.tmp 2) (.tmp 6)));refine aR rfl 27 (.tmp 2) (.tmp 6) rfl rb 0 pc rfl rfl W.toArray 27 HRB.out (by rw[t,List.size_toArray,V];exact Nat.le_refl _) (bY t) hpo ?_;intro w5 F H;rw[aK _ _ (by rw[t,List.size_toArray,V])] at F;have HF5:=O (H.blk L.out (by omega));have X:=O F;have M:=O H;clear F H)
  | ((with_reducible show WL none (.store 182 (.tmp 3) (.tmp 7)));refine aR rfl 182 (.tmp 3) (.tmp 7) rfl K 0 [.int .i64 0,.int .i64 0] rfl rfl #[.int .i64 0,.int .i64 0] 182 HF5.out (Nat.le_refl _) lH (by simp[Value.oneCell']) ?_;intro w6 G I;rw[aK _ _ (by rfl)] at G;have Y:=O (I.blk X.out (by omega));have HF6:=O G;have N:=O I;clear G I))
 refine leaves_cons (f:=163) (args:=#[.pointer rb,.pointer K]) (by simp) (by simp[go_sem]) ?_;refine(Ez _ _ _).mono ?_;rintro e u' w'' ⟨rfl,rfl,rfl⟩;refine⟨_,AE rfl _ _ rb K _ _ _ _ _ _ _ _ rfl Y.out aH rfl (by rw[List.size_toArray,t];exact zC) rfl HF6.out Tryz.underlying182 rfl lH,?_,?_⟩
 ·exact(HK4.trans' M.out (U:=aB) (fun _ _ h=>h) (fun i S e=>by have:=j.out;omega)).trans' N.out (fun _ _ h=>h) (fun i S e=>by have:=j.out;omega)
 ·rw[HT.out,if_pos rfl]
  refine⟨_,by rw[HPC.out],?_⟩;rw[HM.out];have h5:=M.owns D.out (fun i S e=>by have:=aW D.out S;have:=E.out;omega);exact aQ (N.owns h5 (fun i S e=>by have:=aW D.out S;have:=E.out;omega)) (by have:=j.out;have:=E.out;omega)
theorem Lh(n k:Nat):be n (k+1)=be (n / 256) k++[UInt8.ofNat n]:=by
 unfold be;rw[List.range_succ,List.map_append,List.map_cons,List.map_nil]
 congr 1
 ·refine List.map_congr_left fun j a=>?_
  rw[List.mem_range] at a;unfold iN;rw[show 8*(k+1-1-j)=8*(k-1-j)+8 by omega,Nat.pow_add,Nat.mul_comm,←Nat.div_div_eq_div_mul]
 ·unfold iN
  simp
theorem MU(n:Nat):∀k,beN (be n k)=n % 256 ^ k:=by
 intro k
 induction k generalizing n with
 | zero=>simp[be,beN,Nat.mod_one]
 | succ k b =>
   rw[Lh,sO,b];have a:(UInt8.ofNat n).toNat=n % 256:=by simp
   rw[a,Nat.pow_succ,Nat.mul_comm (256 ^ k) 256,Nat.mod_mul];omega
theorem oD{z:Int}(h0:0≤z)(h:z<256 ^ k):(beN (be z.toNat k):Int)=z:=by
 rw[MU,Nat.mod_eq_of_lt]
 ·exact Int.toNat_of_nonneg h0
 ·have:((z.toNat:Nat):Int)<((256 ^ k:Nat):Int):=by rw[Int.toNat_of_nonneg h0];simpa using h
  exact_mod_cast this
theorem Fm{A B C:List UInt8}(a:A.length=i)(b:B.length=k):((A++(B++C)).drop i).take k=B:=by
 subst a b;rw[List.drop_left,List.take_left]
theorem GO(p:Pt)(i:Nat)(h:i<3):((cF p).drop (1+3*i)).take 1=be (p.addrs.getD i zAd).dev.toNat 1/\((cF p).drop (1+3*i+1)).take 2=be (p.addrs.getD i zAd).sec.toNat 2:=by
 have a:i=0\/i=1\/i=2:=by omega
 rcases a with rfl|rfl|rfl<;>exact⟨rfl,rfl⟩
theorem Jn(m:p.may=true)(h:i<3):xQ (cF p) i=p.addrs.getD i zAd:=by
 obtain⟨e,f⟩:=GO p i h;obtain⟨d,s,j,l,r⟩:=ID (iK m).2.1 i;unfold xQ;rw[e,f,j];have a:=oD (z:=(d:Int)) (k:=1) (by omega) (by omega);have b:=oD (z:=(s:Int)) (k:=2) (by omega) (by omega);show (⟨_,_⟩:Ad)=_;rw[a,b]
theorem Jo(u:p.sum.length=32)(b:p.may=true):gG (cF p)=p:=by
 obtain⟨b1,r,d,s,e,t⟩:=iK b
 have m:beN ((cF p).take 1)=p.addrs.length:=by
  have h0:(cF p).take 1=be p.addrs.length 1:=rfl;have:=oD (z:=(p.addrs.length:Int)) (k:=1) (by omega) (by omega);rw[h0];rw[Int.toNat_natCast] at this
  exact_mod_cast this
 have l:dZ (cF p) 3=p.addrs:=by
  unfold dZ;rw[m,Nat.min_eq_left b1];apply List.ext_getElem?;intro i;rw[List.getElem?_map]
  by_cases a:i<p.addrs.length
  ·rw[List.getElem?_range a,Option.map_some,Jn b (by omega),List.getD_eq_getElem?_getD,List.getElem?_eq_getElem a]
   rfl
  ·rw[List.getElem?_eq_none (by simpa using a),List.getElem?_eq_none (by omega)]
   rfl
 have l3:(bW p 3).length=10:=eV p 3
 have f:((cF p).drop 10).take 4=be p.birth.toNat 4:=by
  unfold cF;rw[List.append_assoc,List.append_assoc];exact Fm l3 (bM _ _)
 have h:((cF p).drop 14).take 1=be p.level.toNat 1:=by
  unfold cF;rw[List.append_assoc];exact Fm (by rw[List.length_append,l3,bM]) (bM _ _)
 have j:(cF p).drop 15=p.sum:=by
  unfold cF;have:(bW p 3++be p.birth.toNat 4++be p.level.toNat 1).length=15:=by rw[List.length_append,List.length_append,l3,bM,bM]
  rw[←this,List.drop_left]
 unfold gG;rw[l,f,h,j,oD d (by omega),oD e (by omega)]
end
section
open Go.RowKit
def FB:Value:=.agg #[.int .i64 0,.int .i64 0]
theorem Nm:(Tryz.prog.info? 82).map (fun i=>(i.zero,i.size,i.bytes))=some (some FB,2,16):=by kernel_rfl
theorem JT(v u:Value)(p:Pt):(aE v p).toArray.setIfInBounds 0 u=(aE u p).toArray:=by rw[List.setIfInBounds_toArray];rfl
theorem Hj(w:World)(v:Value)(p:Pt)(h0:PtV w v p)(hl:p.addrs.length≤65536):Calls Tryz.prog 30 #[.agg (aE v p).toArray] w fun e w' =>
 ∃v',e=.returned (.agg (aE v' p).toArray)/\w'.ownsRow w.heap.size 82 2 v' p.addrs.length (aF p.addrs)/\aA aB w w':=by
 obtain⟨P,M,rfl,-,-⟩:=h0.rd.form;obtain⟨n,hn⟩:∃n,p.addrs.length=n:=⟨_,rfl⟩
 have HN:=O hn;have f:=O h0.sum;have u:=h0.rd;rw[hn] at hl u ⊢;obtain⟨w1,hw1,k1,F,s1⟩:=aS w (aE (.slice P n M) p).toArray 27;obtain⟨L,hw2,k2,G,s2⟩:=aS w1 (aE (.slice none 0 0) zPt).toArray 27;obtain⟨w3,hw3,N,hb3,s3⟩:=aS L #[] 82;have z:=O ((k1.trans k2).trans N);have Z:=O (show w3.heap.size=w.heap.size+3 by omega);have y:=O ((k2.trans N).blk F id);have Q:=O (N.blk G id);have C:Hid (w3.ownsRow L.heap.size 82 2 (.slice (L.heap.size) 0 0) 0 []):=O (by rw[←hw3];exact World.ownsRow_made L #[] 0 (Nat.le_refl _) (by unfold maxLen;omega) rfl);have W:=O (u.keep z.out fun _ _=>id);have hc0:=aC (i:=0) (v:=.slice P n M) y.out rfl;have hs:L.heap.size=w.heap.size+2:=by omega
 have hs1:w1.heap.size=w.heap.size+1:=by omega
 rw[hs] at C;clear k1 k2 N F G hb3 h0 u hn;have x:(aE (.slice none 0 0) zPt).length=35:=rfl;go_in
 go_wp2_with (first
  | ((with_reducible show WL (some 2) (.alloc 27));refine aV rfl 27 rfl _ AD (aE (.slice none 0 0) zPt).toArray rfl ?_)
  | (at_builtin;refine aL rfl (.tmp 3) (.tmp 5) 23 rfl (w.heap.size+2) 82 FB 2 16 Tryz.underlying23 Nm rfl (by decide) (.slice (some ⟨w.heap.size+2,0,none⟩) 0 0) 0 ([]) rfl C.out (.slice P n M) n (aF p.addrs) rfl W.out (cQ _) (by unfold maxLen;omega) (by omega) (by omega) ?_
     intro v' s r d hn4 I;obtain⟨a,b,rfl,-,-⟩:=(Rd.of_owns r).form;rw[Nat.zero_add,List.nil_append] at r;have l:=d.blk y.out (by intro e;have e':w.heap.size+2=w.heap.size:=Option.some.inj e;omega);have t:=d.blk Q.out (by intro e;have e':w.heap.size+2=w1.heap.size:=Option.some.inj e;omega);rw[hs1] at t;have hz4:w.heap.size+2<s.heap.size:=by have h1:=d.size;have h2:=Z.out;omega
     have hc4:=aC (i:=0) (v:=.slice P n M) l rfl;have hf4:=dA l 0;have D:=O r;have R:=O l;have X:=O t;have T:=O (z.trans' d (fun _ _ h=>h) (U:=aB) (fun i hi e=>by have e':w.heap.size+2=i:=Option.some.inj e;omega));clear r d hn4 I l t hc0)
  | ((with_reducible show WL _ (.load 27 (.tmp 1)))
     have m:=dO R.out 0 (.slice a n b);rw[JT] at m;have K:(s.setCell ⟨w.heap.size,0,none⟩ (.slice a n b)).heap[w.heap.size+1]?=_:=(heap_setCell_other s ⟨w.heap.size,0,none⟩ (w.heap.size+1) (.slice a n b) (by show w.heap.size+1≠w.heap.size;omega)).trans X.out;have E:Hid (((s.setCell ⟨w.heap.size,0,none⟩ (.slice a n b))).ownsRow (w.heap.size+2) 82 2 (.slice a n b) n (aF p.addrs)):=O ((((aA.refl (fun j=>j=w.heap.size) s).setCell (p:=⟨w.heap.size,0,none⟩) (fun _=>rfl) (.slice a n b))).owns D.out (fun j hj e=>by have:=aW D.out hj;omega));have V:=O (T.trans' ((aA.refl (fun j=>j=w.heap.size) s).setCell (p:=⟨w.heap.size,0,none⟩) (fun _=>rfl) (.slice a n b)) (U:=aB) (fun _ _ h=>h) (fun i hi e=>by omega));have hz5:(s.setCell ⟨w.heap.size,0,none⟩ (.slice a n b)).heap.size=s.heap.size:=by simp
     generalize s.setCell ⟨w.heap.size,0,none⟩ (.slice a n b)=w5 at *;refine wpList_load_mid rfl 27 (.tmp 1) rfl w.heap.size 0 rfl (aE (.slice a n b) p) _ (aD m) aH rfl (bY (aJ f.out)) ?_;have HB5:=O m;have Y:=O K;clear m K)
  | ((with_reducible show WL none (.store 27 (.tmp 2) (.tmp 8)))
     refine aR rfl 27 (.tmp 2) (.tmp 8) rfl (w.heap.size+1) 0 (aE (.slice a n b) p) rfl rfl (aE (.slice none 0 0) zPt).toArray 27 Y.out (by rw[List.size_toArray,x,aJ f.out];exact Nat.le_refl _) (bY (aJ f.out)) (cP p) ?_;intro w6 H J;have S:=O H;have A:=O J;clear H J))
 refine bodyPost_ret (results_cell_row rfl _ _ (w.heap.size+1) _ _ _ _ rfl S.out aH rfl (by rw[eU,List.size_toArray];exact bY x)) rfl ⟨.slice a n b,?_,?_,?_⟩
 ·rw[aK _ _ (by rw[List.size_toArray,x,aJ f.out])]
 ·exact aQ (A.owns E.out (fun j hj e=>by have:=aW E.out hj;omega)) (by omega)
 ·exact V.trans' A.out (fun _ _ h=>h) (fun i hi e=>by omega)
end
end Go.Proofs.YtiinnfhjpaeffaaGreat
