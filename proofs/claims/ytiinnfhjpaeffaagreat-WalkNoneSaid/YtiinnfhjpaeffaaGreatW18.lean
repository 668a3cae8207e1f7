import Derived.Test.YtiinnfhjpaeffaaGreatW1
import Derived.Test.YtiinnfhjpaeffaaGreatW17
namespace Go.Proofs.YtiinnfhjpaeffaaGreat
set_option maxHeartbeats 64000000
set_option maxRecDepth 100000
set_option linter.unusedVariables false
section
open Go.RowKit Go.Maps Go.ChangeMaps
def BX(w:World)(cb g p m c:Nat):Prop:=w.heap[cb]?=some (.cells #[.slice (some ⟨g,p,none⟩) m c] 299 (0,0))
theorem pM(w:World)(cb g p m c k:Nat)(bs:List UInt8)(hb:BX w cb g p m c)(hr:w.rangeAt g p (bs.map vb))(hl:bs.length=m)(hmc:m≤c)(hc:c≤9223372036854775807)(hk1:1≤k)(hk4:k≤4)(hkm:k<m) :
 Calls Tryz.prog 213 #[.pointer (some ⟨cb,0,none⟩),.int .i64 (k:Int)] w fun e w'=>e=.returned (.int .i64 (beN (bs.take k):Int))/\BX w' cb g (p+k) (m-k) (c-k)/\aA (fun i=>i=cb) w w':=by
 have c0:w.cell? ⟨cb,0,none⟩=some (.slice (some ⟨g,p,none⟩) m c):=aC hb rfl;have cf:=cV hb 0;have HB:=O hb;have HR:=O hr;have HL:=O hl;have hkc:(k:Int)≤(c:Int):=by omega
 have hkmi:(k:Int)≤(m:Int):=by omega
 have hk0:(0:Int)≤(k:Int):=by omega
 have hkcn:k≤c:=by omega
 clear hb hr hl;go_in;go_wp2_with fail
 go_loop [5,15] (fun x i=>∃j:Nat,j≤k/\i=.int .i64 j/\x=.int .i64 (beN (bs.take j):Int)) (fun _ i=>k-(intOf i).toNat)
 case atStart=>exact⟨0,by omega,rfl,rfl⟩
 case round =>
  obtain⟨j,hj,rfl,rfl⟩:=hrel
  by_cases hjk:j<k
  ·have hjl:j<bs.length:=by rw[HL.out];omega
   have cj:w.cell? ⟨g,p+j,none⟩=some (.int .u8 (bs[j].toNat:Int)):=HR.out j _ (by simp[hjl,vb]);have hx:=CL (bs.take j) (by simp;omega);have hs:=sI (bs.take j) bs[j];have hc8:=bs[j].toNat_lt;rw[←List.take_succ_eq_append_getElem hjl] at hs;obtain⟨q,hq⟩:∃q,bs[j].toNat=q:=⟨_,rfl⟩
   rw[hq] at cj hs hc8;obtain⟨y,hX⟩:∃y,beN (bs.take j)=y:=⟨_,rfl⟩
   rw[hX] at hs hx ⊢;have HS:=O hs;clear hs hX hq;have hj0:(0:Int)≤(j:Int):=by omega
   have hj1:(j:Int)<(k:Int):=by omega
   have hor:=EO y q hx hc8;go_wp2
   go_round
   case rel=>exact⟨j+1,by omega,by go_num,by rw[HS.out];simp⟩
   case measure=>simp[intOf];omega
  ·obtain rfl:j=k:=by omega
   go_wp2;go_ret;refine⟨rfl,?_,(aA.refl (fun i=>i=cb) w).setCell (p:=⟨cb,0,none⟩) (fun _=>rfl) _⟩;have:=dO HB.out 0 (.slice (some ⟨g,p+j,none⟩) (m-j) (c-j));exact this
open Go.RowKit Go.Maps Go.ChangeMaps
set_option maxRecDepth 100000
set_option linter.unusedVariables false
def zPt:Pt:=⟨[],0,0,eA⟩
theorem ER(w:World):(zeroValue 27).run Tryz.prog w=.ok (.agg (aE (.slice none 0 0) zPt).toArray) w:=by kernel_rfl
def xD(b:List UInt8)(i:Nat):Ad:=⟨(beN ((b.drop (1+3*i)).take 1):Int),(beN ((b.drop (1+3*i+1)).take 2):Int)⟩
def dS(b:List UInt8)(k:Nat):List Ad:=(List.range (min (beN (b.take 1)) k)).map (xD b)
def fZ(b:List UInt8):Pt:=⟨dS b 3,(beN ((b.drop 10).take 4):Int),(beN ((b.drop 14).take 1):Int),b.drop 15⟩
def kQ(b:List UInt8):Bool:=decide (b.length=47) && (fZ b).may && decide (ptB (fZ b)=b)
theorem oP(b:List UInt8)(k:Nat):dS b (k+1)=dS b k++if k<beN (b.take 1) then [xD b k] else []:=by
 unfold dS
 by_cases h:k<beN (b.take 1)
 ·rw[if_pos h,Nat.min_eq_right (by omega),Nat.min_eq_right (by omega),List.range_succ,List.map_append]
  rfl
 ·rw[if_neg h,Nat.min_eq_left (by omega),Nat.min_eq_left (by omega),List.append_nil]
theorem uE(l:List UInt8)(k:Nat)(h:l.length≤k):beN l<256 ^ k:=Nat.lt_of_lt_of_le (CK l) (Nat.pow_le_pow_right (by omega) h)
theorem CM{n:Nat}(h:n<16777216):Cd (n:Int):=⟨by omega,by omega⟩
theorem ES(b:List UInt8)(i:Nat):eM (xD b i):=by
 have h1:=uE ((b.drop (1+3*i)).take 1) 1 (by simp;omega);have h2:=uE ((b.drop (1+3*i+1)).take 2) 2 (by simp;omega);exact⟨CM (by omega),CM (by omega)⟩
theorem CN(b:List UInt8)(k:Nat):jU (dS b k):=fun x hx=>by
 unfold dS at hx;obtain⟨i,-,rfl⟩:=List.mem_map.1 hx;exact ES b i
structure RdW(w wr:World)(rb cb pb g o c B off n:Nat)(v:Value)(q:Pt):Prop where
 res:wr.heap[rb]?=some (.cells (aE (.slice none 0 0) zPt).toArray 27 (0,0))
 cur:BX wr cb g (o+off) (47-off) (c-off)
 pt:wr.heap[pb]?=some (.cells (aE v q).toArray 27 (0,0))
 row:wr.ownsRow B 82 2 v n (aQ q.addrs)
 keep:aA aB w wr
 ord:w.heap.size≤rb/\rb<cb/\cb<pb/\pb<B
 sz:B≤wr.heap.size
theorem RdW.same{w wr w':World}{rb cb pb g o c B off n:Nat}{v:Value}{q:Pt}(h:RdW w wr rb cb pb g o c B off n v q)(k:aA aB wr w'):RdW w w' rb cb pb g o c B off n v q:=
 ⟨k.blk h.res id,k.blk h.cur id,k.blk h.pt id,k.owns h.row fun _ _=>id,h.keep.trans k,h.ord,Nat.le_trans h.sz k.size⟩
theorem RdW.num{w wr w':World}{rb cb pb g o c B off n k:Nat}{v:Value}{q:Pt}(h:RdW w wr rb cb pb g o c B off n v q)(hc:BX w' cb g (o+off+k) (47-off-k) (c-off-k))(hk:aA (fun i=>i=cb) wr w'):RdW w w' rb cb pb g o c B (off+k) n v q:=by
 obtain⟨h1,h2,h3,h4⟩:=h.ord;refine⟨hk.blk h.res (by omega),?_,hk.blk h.pt (by omega),hk.owns h.row (fun i hi e=>by have:=bJ h.row hi;omega),h.keep.trans' hk (U:=aB) (fun _ _ h=>h) (fun i hi e=>by omega),h.ord,Nat.le_trans h.sz hk.size⟩;rw[←Nat.add_assoc,Nat.sub_add_eq,Nat.sub_add_eq];exact hc
theorem RdW.put{w wr w':World}{rb cb pb g o c B off n m:Nat}{v u:Value}{q r:Pt}(h:RdW w wr rb cb pb g o c B off n v q)(hp:w'.heap[pb]?=some (.cells (aE u r).toArray 27 (0,0)))(hr:w'.ownsRow B 82 2 u m (aQ r.addrs))(hk:aA (fun i=>i=pb\/v.ownBlock=some i) wr w'):RdW w w' rb cb pb g o c B off m u r:=by
 obtain⟨h1,h2,h3,h4⟩:=h.ord
 have hno:∀i,i<pb->¬(i=pb\/v.ownBlock=some i):=fun i hi e=>by
  rcases e with e|e
  ·omega
  ·have:=bJ h.row e;omega
 exact⟨hk.blk h.res (hno _ (by omega)),hk.blk h.cur (hno _ (by omega)),hp,hr,h.keep.trans' hk (U:=aB) (fun _ _ h=>h) (fun i hi e=>hno i (by omega) e),h.ord,Nat.le_trans h.sz hk.size⟩
theorem Ih(v u:Value)(q:Pt)(l:List Ad):(aE v q).toArray.setIfInBounds 0 u=(aE u ⟨l,q.birth,q.level,q.sum⟩).toArray:=by rw[List.setIfInBounds_toArray];rfl
theorem Ii(v:Value)(q:Pt)(x:Int):(aE v q).toArray.setIfInBounds 1 (.int .i64 x)=(aE v ⟨q.addrs,x,q.level,q.sum⟩).toArray:=by rw[List.setIfInBounds_toArray];rfl
theorem Ij(v:Value)(q:Pt)(x:Int):(aE v q).toArray.setIfInBounds 2 (.int .i64 x)=(aE v ⟨q.addrs,q.birth,x,q.sum⟩).toArray:=by rw[List.setIfInBounds_toArray];rfl
theorem Kc(v:Value)(q:Pt)(s:List UInt8)(hq:q.sum.length=32)(hs:s.length=32):spl (aE v q).toArray 3 (s.map vb)=(aE v ⟨q.addrs,q.birth,q.level,s⟩).toArray:=by
 apply Array.ext_getElem?;intro j;rw[mA _ _ _ _ (by rw[List.size_toArray,aJ hq,List.length_map,hs];exact Nat.le_refl _)];simp only[List.getElem?_toArray,List.length_map,hs]
 by_cases h3:3≤j
 ·by_cases hj:j<35
  ·rw[if_pos (by omega)]
   have e:(aE v ⟨q.addrs,q.birth,q.level,s⟩)[j]?=(s.map vb)[j-3]?:=by
    unfold aE;obtain⟨i,rfl⟩:∃i,j=i+3:=⟨j-3,by omega⟩
    simp
   rw[e]
  ·rw[if_neg (by omega),List.getElem?_eq_none (by rw[aJ hq];omega),List.getElem?_eq_none (by rw[aJ (p:=⟨q.addrs,q.birth,q.level,s⟩) hs];omega)]
 ·rw[if_neg (by omega)]
  have:j=0\/j=1\/j=2:=by omega
  rcases this with rfl|rfl|rfl<;>rfl
def yL(er ea:Int):List PanicEntry:=[{ v:=.iface 234 (.agg #[.int .i64 er,.int .i64 ea]),recovered:=false }]
def mK(w:World)(b:List UInt8)(e:Ending)(w':World):Prop:=
 aA aB w w'/\if kQ b then ∃v,e=.returned (.agg (aE v (fZ b)).toArray)/\w'.ownsRow w.heap.size 82 2 v (fZ b).addrs.length (aQ (fZ b).addrs)
  else if b.length=47 then e=.panicked (yL 2 0) else e=.panicked (yL 4 (min b.length 47))
theorem ET{w:World}{v:Value}{l:List UInt8}{n:Nat}(h:Rd w 1 v n (l.map vb))(hn:l.length=n){k:Nat}{x:UInt8}(hk:l[k]?=some x):∃g o cap,v=.slice (some ⟨g,o,none⟩) n cap/\w.cell? ⟨g,o+k,none⟩=some (.int .u8 (x.toNat:Int)):=by
 obtain⟨h0,a,cap,rfl,h1,h2,h3,h4⟩:=h;have hlt:=(List.getElem?_eq_some_iff.1 hk).1;obtain⟨g,o,rfl,hc⟩:=h4 (by rw[List.length_map];omega);exact⟨g,o,cap,rfl,hc k _ (by rw[List.getElem?_map,hk];rfl)⟩
theorem wG(w:World)(x:Int):(Instr.build 182 #[(0,.int .i64 x)]).run Tryz.prog w=.ok (.agg #[.int .i64 x,.int .i64 0]) w:=by kernel_rfl
theorem yM(w:World)(x y:Int):(Instr.build 234 #[(0,.agg #[.int .i64 x,.int .i64 y])]).run Tryz.prog w=.ok (.agg #[.int .i64 x,.int .i64 y]) w:=by kernel_rfl
theorem FT(w:World)(v v2:Value)(l m:List UInt8)(hl:Rd w 1 v l.length (l.map vb))(hm:Rd w 1 v2 m.length (m.map vb)):Calls Tryz.prog 214 #[v,v2] w (aX w (decide (l=m))):=by
 obtain⟨la,lc,rfl,-,-⟩:=hl.form;obtain⟨ma,mc,rfl,-,-⟩:=hm.form;have hlx:l.length≤maxLen:=by obtain⟨_,a',c',h1,h2,h3,-⟩:=hl;omega
 unfold maxLen at hlx;obtain⟨bb,hbb⟩:∃b,decide (l=m)=b:=⟨_,rfl⟩
 have HBB:=O hbb;rw[hbb];clear hbb;obtain⟨n,hn⟩:∃n,l.length=n:=⟨_,rfl⟩
 obtain⟨q,hq⟩:∃n,m.length=n:=⟨_,rfl⟩
 have HL:=O hl;have HM:=O hm;have HN:=O hn;have HQ:=O hq;rw[hn] at HL hlx ⊢;rw[hq] at HM ⊢;clear hl hm hn hq
 by_cases hne:n=q
 ·subst hne
  go_in;go_wp2_with fail
  go_loopw [13] (fun t wr=>∃k:Nat,k≤n/\t=.int .i64 k/\Hid (l.take k=m.take k)/\Hid (aA aB w wr)) (fun t _=>n-(intOf t).toNat)
  case atStart=>exact⟨0,Nat.zero_le _,rfl,O (by simp),O (aA.refl _ _)⟩
  case round =>
  obtain⟨k,hk,rfl,HT,HK⟩:=hrel
  by_cases hlt:k<n
  ·have hki:(k:Int)<(n:Int):=by omega
   have hk0:(0:Int)≤(k:Int):=by omega
   obtain⟨x,hx⟩:∃x,l[k]?=some x:=⟨l[k]'(by rw[HN.out];exact hlt),List.getElem?_eq_getElem _⟩
   obtain⟨y,hy⟩:∃x,m[k]?=some x:=⟨m[k]'(by rw[HQ.out];exact hlt),List.getElem?_eq_getElem _⟩
   have hr:=HL.out.keep HK.out fun _ _=>id
   obtain⟨p,o,cap,hv,hc⟩:=ET hr (by rw[HN.out]) hx;have e1:la=some ⟨p,o,none⟩:=by cases hv;rfl
   subst e1;have hr2:=HM.out.keep HK.out fun _ _=>id
   obtain⟨p2,o2,cap2,hv2,hc2⟩:=ET hr2 (by rw[HQ.out]) hy;have e1:ma=some ⟨p2,o2,none⟩:=by cases hv2;rfl
   subst e1;have HX:=O hx;have HY:=O hy;obtain⟨bi,hbi⟩:∃b,((x.toNat:Int) != (y.toNat:Int))=b:=⟨_,rfl⟩
   have HBI:=O hbi;clear hr hr2 hv hv2 hx hy;cases bi
   ·have e:x=y:=by
     have h:=HBI.out;simp only[bne_eq_false_iff_eq] at h;exact UInt8.toNat_inj.1 (by omega)
    have HTE:Hid (l.take (k+1)=m.take (k+1)):=O (by rw[List.take_add_one,List.take_add_one,HT.out,HX.out,HY.out,e]);clear e;go_wp2_with fail
    go_quiet (fail)
    go_wp2_with fail;have HK2:=O (HK.out.drewN nq)
    go_roundw
    case rel=>exact⟨k+1,by omega,by go_num,HTE,HK2⟩
    case measure=>simp[intOf];omega
   ·have hbf:bb=false:=by
     rw[←HBB.out];refine decide_eq_false fun e=>?_
     have h1:=HX.out;rw[e,HY.out] at h1;cases h1
     have:=HBI.out;simp at this
    subst hbf;go_wp2_with fail
    go_quiet (fail)
    go_wp2;go_ret;exact⟨rfl,HK.out.drewN nq⟩
  ·obtain rfl:n=k:=by omega
   have hbt:bb=true:=by
    rw[←HBB.out];refine decide_eq_true ?_;have h:=HT.out
    rwa [List.take_of_length_le (by rw[HN.out];exact Nat.le_refl _),List.take_of_length_le (by rw[HQ.out];exact Nat.le_refl _)] at h
   subst hbt;go_wp2;go_ret;exact⟨rfl,HK.out⟩
 ·have hbf:bb=false:=by
   rw[←HBB.out];exact decide_eq_false fun e=>hne (by rw[←HN.out,←HQ.out,e])
  subst hbf;have hnei:((n:Int) != (q:Int))=true:=by simp;omega
  go_in;go_wp2;go_ret;exact⟨rfl,aA.refl _ _⟩
theorem Ik(w:World)(bv:Value)(b:List UInt8)(hr:Rd w 1 bv b.length (b.map vb))(hl:b.length=47):Calls Tryz.prog 164 #[bv] w (mK w b):=by
 obtain⟨g,o,c,rfl,hcells⟩:∃g o c,bv=.slice (some ⟨g,o,none⟩) 47 c/\w.rangeAt g o (b.map vb):=by
  obtain⟨h0,a,cap,rfl,h2,h3,h4,h5⟩:=hr;obtain⟨g,o,rfl,hc⟩:=h5 (by simp;omega);exact⟨g,o,cap,by rw[hl],hc⟩
 have hc47:47≤c/\c≤9223372036854775807:=by
  obtain⟨_,a',c',h1,h2,h3,-⟩:=hr;unfold maxLen at h3;injection h1 with e1 e2 e3
  omega
 have HL:=O hl
 have HRG:=O (fun wx (k:aA aB w wx) (off:Nat)=>(show wx.rangeAt g (o+off) ((b.drop off).map vb) from fun j v hj=>by
  rw[List.map_drop,List.getElem?_drop] at hj;rw[Nat.add_assoc];exact(k.rangeAt hcells) (off+j) v hj))
 have HRB:=O (fun wx (k:aA aB w wx)=>hr.keep k fun _ _=>id);rw[hl] at HRB;have hz:=ER;obtain⟨zc,hzc⟩:∃x,aE (.slice none 0 0) zPt=x:=⟨_,rfl⟩
 have hzl:zc.length=35:=by rw[←hzc];rfl
 have HZ:=O hzc;rw[hzc] at hz;obtain⟨wa,hwa,ka,ha,sa⟩:=aT w zc.toArray 27;obtain⟨wb,hwb,kb,hb,sb⟩:=aT wa #[.slice (some ⟨g,o,none⟩) 47 c] 299;obtain⟨wc,hwc,kc,hc,sc⟩:=aT wb zc.toArray 27;obtain⟨rb,hrb⟩:∃x,w.heap.size=x:=⟨_,rfl⟩
 obtain⟨cb,hcb⟩:∃x,wa.heap.size=x:=⟨_,rfl⟩
 obtain⟨pb,hpb⟩:∃x,wb.heap.size=x:=⟨_,rfl⟩
 obtain⟨B,hB⟩:∃x,wc.heap.size=x:=⟨_,rfl⟩
 rw[hrb] at ha;rw[hcb] at hb;rw[hpb] at hc;have HW0:Hid (RdW w wc rb cb pb g o c B 0 0 (.slice none 0 0) zPt):=O ⟨by rw[HZ.out];exact kc.blk (kb.blk ha id) id,kc.blk hb id,by rw[HZ.out];exact hc,World.ownsRow_nil _ _ _ _,(ka.trans kb).trans kc,by omega,by omega⟩;have HRBE:=O hrb;have HBE:=O hB;clear hr hcells ha hb hc sa sb sc ka kb kc hl hzc;go_in
 go_wp2_with (first
  | ((with_reducible show WL (some 2) (.alloc 27));refine aR rfl 27 rfl _ hz zc.toArray rfl ?_;rw[hwa,hrb])
  | ((with_reducible show WL (some 4) (.alloc 27));refine aR rfl 27 rfl _ hz zc.toArray rfl ?_;rw[hwc,hpb]))
 refine(pM _ cb g (o+(0)) (47-(0)) (c-(0)) 1 (b.drop (0)) HW0.out.cur (HRG.out _ HW0.out.keep _) (by rw[List.length_drop,HL.out]) (by omega) (by omega) (by omega) (by omega) (by omega)).mono ?_;rintro e w1 ⟨rfl,hcur,hkc⟩;have HW1:=O (HW0.out.num hcur hkc);clear hcur hkc;obtain⟨mn,hmn⟩:∃x,beN (b.take 1)=x:=⟨_,rfl⟩
 have hmnb:mn<256:=by rw[←hmn];exact uE _ 1 (by simp;omega)
 have HMN:=O hmn;rw[List.drop_zero,hmn];clear hmn HW0 hwa hwb hwc hrb hcb hpb hB;go_wp2_with fail
 go_loopw [24] (fun i wr=>∃(k ql:Nat) (pa:Option Addr) (pc:Nat),k≤3/\ql≤k/\i=.int .i64 k/\Hid ((dS b k).length=ql)/\Hid (RdW w wr rb cb pb g o c B (1+3*k) ql (.slice pa ql pc) ⟨dS b k,0,0,eA⟩)) (fun i _=>3-(intOf i).toNat)
 case atStart=>exact⟨0,0,none,0,by omega,by omega,rfl,O (by simp[dS]),O (by
  have h:=HW1.out;have e:dS b 0=[]:=by simp[dS]
  rw[e];exact h)⟩
 case round =>
 clear HW1;obtain⟨k,ql,pa,pcp,hk,hqk,rfl,HQL,HW⟩:=hrel
 by_cases hlt:k<3
 ·have hki:(k:Int)<3:=by omega
  have hk0:(0:Int)≤(k:Int):=by omega
  have had:=ES b k;obtain⟨d,hd⟩:∃x,beN ((b.drop (1+3*k)).take 1)=x:=⟨_,rfl⟩
  obtain⟨s,hs⟩:∃x,beN ((b.drop (1+3*k+1)).take 2)=x:=⟨_,rfl⟩
  have HAD:Hid (xD b k=⟨(d:Int),(s:Int)⟩):=O (by unfold xD;rw[hd,hs]);have HD:=O hd;have HS:=O hs;have hbe:=LL (d:Int) (s:Int);clear hd hs had;go_wp2_with fail;refine(pM _ cb g (o+(1+3*k)) (47-(1+3*k)) (c-(1+3*k)) 1 (b.drop (1+3*k)) HW.out.cur (HRG.out _ HW.out.keep _) (by rw[List.length_drop,HL.out]) (by omega) (by omega) (by omega) (by omega) (by omega)).mono ?_;rintro e w2 ⟨rfl,hcur,hkc⟩;have HW2:=O (HW.out.num hcur hkc);clear hcur hkc;rw[HD.out];go_wp2_with fail;refine(pM _ cb g (o+(1+3*k+1)) (47-(1+3*k+1)) (c-(1+3*k+1)) 2 (b.drop (1+3*k+1)) HW2.out.cur (HRG.out _ HW2.out.keep _) (by rw[List.length_drop,HL.out]) (by omega) (by omega) (by omega) (by omega) (by omega)).mono ?_;rintro e w3 ⟨rfl,hcur,hkc⟩;have HW3:=O (HW2.out.num hcur hkc);clear hcur hkc;rw[HS.out];clear HW HW2;obtain⟨w4,hw4,hk4,hb4,hs4⟩:=aT w3 #[.int .i64 0,.int .i64 0] 82;obtain⟨ab,hab⟩:∃x,w3.heap.size=x:=⟨_,rfl⟩
  rw[hab] at hb4;have HB4:=O hb4;have HW4:=O (HW3.out.same hk4);have HABW:Hid (w.heap.size≤ab/\pb<ab/\∀i,(Value.slice pa ql pcp).ownBlock=some i->i<ab):=O ⟨by rw[←hab];exact HW3.out.keep.size,by rw[←hab];exact lt_of_block HW3.out.pt,fun i hi=>by rw[←hab];exact(HW3.out.row.lt i hi).2⟩;clear hk4 hb4 hs4
  by_cases hkm:k<mn
  ·have hmi:(k:Int)<(mn:Int):=by omega
   have hmd:decide ((k:Int)<(mn:Int))=true:=decide_eq_true hmi
   go_wp2_with (first
    | ((with_reducible show WL (some 7) (.alloc 82));refine aR rfl 82 rfl eF eC #[.int .i64 0,.int .i64 0] rfl ?_;rw[hw4,hab])
    | ((with_reducible show WL none (.store 82 (.tmp 7) (.tmp 31)));refine aP rfl 82 (.tmp 7) (.tmp 31) rfl ab 0 (aO ⟨(d:Int),(s:Int)⟩) rfl rfl #[.int .i64 0,.int .i64 0] 82 HB4.out (Nat.le_refl _) bW (bL _) ?_
       intro w5 hb5 hk5;rw[aI _ _ (by rfl)] at hb5;have HAB:=O hb5
       have HW5:Hid (RdW w w5 rb cb pb g o c B (1+3*k+1+2) ql (.slice pa ql pcp) ⟨dS b k,0,0,eA⟩):=O (by
        have h:=HW4.out;obtain⟨o1,o2,o3,o4⟩:=h.ord;have h7:=HABW.out;have hne:∀i,i<ab->¬i=ab:=fun i hi=>by omega
        exact⟨hk5.blk h.res (hne _ (by omega)),hk5.blk h.cur (hne _ (by omega)),hk5.blk h.pt (hne _ (by omega)),hk5.owns h.row (fun i hi e=>by have:=h7.2.2 i hi;omega),h.keep.trans' hk5 (U:=aB) (fun _ _ h=>h) (fun i hi e=>by omega),h.ord,Nat.le_trans h.sz hk5.size⟩)
       clear hb5 hk5;have a5:w5.cell? ⟨pb,0,none⟩=some (.slice pa ql pcp):=aC HW5.out.pt rfl;obtain⟨w6,hw6,hk6,hb6,hs6⟩:=aT w5 (aO ⟨(d:Int),(s:Int)⟩).toArray 82;obtain⟨bx,hbx⟩:∃x,w5.heap.size=x:=⟨_,rfl⟩
       rw[hbx] at hb6;have HRN:Hid (Rd w6 2 (.slice (some ⟨bx,0,none⟩) 1 1) 1 (aO ⟨(d:Int),(s:Int)⟩)):=O (eE (n:=1) (size:=2) (vs:=aO ⟨(d:Int),(s:Int)⟩) hb6 rfl (by unfold maxLen;omega));have HW6:=O (HW5.out.same hk6);have hsz6:B≤w6.heap.size:=HW6.out.sz;clear hk6 hb6 hs6)
    | ((with_reducible show WL _ (.load 82 (.tmp 7)));refine wpList_load_mid rfl 82 (.tmp 7) rfl ab 0 rfl (aO ⟨(d:Int),(s:Int)⟩) _ (aD HAB.out) bS rfl bW ?_)
    | ((with_reducible show WL _ (.buildSlice _ 1 _));refine cC rfl 23 82 (.tmp 37) rfl Tryz.underlying23 rC (by decide) (aO ⟨(d:Int),(s:Int)⟩) rfl (by decide) rfl ?_;rw[hw6,hbx])
    | (at_builtin;refine aN rfl (.tmp 36) (.tmp 38) 23 rfl B 82 eF 2 16 Tryz.underlying23 rC rfl (by decide) (.slice pa ql pcp) ql (aQ (dS b k)) rfl HW6.out.row (.slice (some ⟨bx,0,none⟩) 1 1) 1 (aO ⟨(d:Int),(s:Int)⟩) rfl HRN.out (bL _) (by unfold maxLen;omega) (by omega) hsz6 ?_
       intro v' w7 ho5 hk5 hn5 hb5;obtain⟨va,vc,rfl,-,-⟩:=(Rd.of_owns ho5).form;have hp7:=hk5.blk HW6.out.pt (fun e=>by have:=bJ HW6.out.row e;have:=HW6.out.ord;omega);have hcc7:w7.cell? ⟨pb,0,none⟩=some (.slice pa ql pcp):=aC hp7 rfl;have hcf7:=cV hp7 0;have HP7:=O hp7;have HK7:=O hk5
       have HO7:Hid (w7.ownsRow B 82 2 (.slice va (ql+1) vc) (ql+1) (aQ (dS b (k+1)))):=O (by
        rw[oP,if_pos (by rw[HMN.out];exact hkm),HAD.out,mE,wA];exact ho5)
       clear ho5 hk5 hn5 hb5 hp7))
   have HW8:Hid (RdW w (w7.setCell ⟨pb,0,none⟩ (.slice va (ql+1) vc)) rb cb pb g o c B (1+3*(k+1)) (ql+1) (.slice va (ql+1) vc) ⟨dS b (k+1),0,0,eA⟩):=O (by
    have e:1+3*(k+1)=1+3*k+1+2:=by omega
    have hkk:aA (fun i=>i=pb) w7 (w7.setCell ⟨pb,0,none⟩ (.slice va (ql+1) vc)):=(aA.refl (fun i=>i=pb) w7).setCell (p:=⟨pb,0,none⟩) (fun _=>rfl) _;rw[e];refine HW6.out.put ?_ (hkk.owns HO7.out (fun i hi e=>by have:=bJ HO7.out hi;have:=HW6.out.ord;omega)) ((HK7.out.mono (fun _ _ h=>.inr h)).trans' hkk (fun _ _ h=>h) (fun i hi e=>.inl e));rw[dO HP7.out,Ih _ _ _ (dS b (k+1))])
   have HQ8:Hid ((dS b (k+1)).length=ql+1):=O (by rw[oP,if_pos (by rw[HMN.out];exact hkm),List.length_append,HQL.out];rfl)
   go_roundw
   case rel=>exact⟨k+1,ql+1,va,vc,by omega,by omega,by go_num,HQ8,HW8⟩
   case measure=>simp[intOf];omega
  ·have hmi:¬(k:Int)<(mn:Int):=by omega
   have hmd:decide ((k:Int)<(mn:Int))=false:=decide_eq_false hmi
   go_wp2_with (first
    | ((with_reducible show WL (some 7) (.alloc 82));refine aR rfl 82 rfl eF eC #[.int .i64 0,.int .i64 0] rfl ?_;rw[hw4,hab])
    | ((with_reducible show WL none (.store 82 (.tmp 7) (.tmp 31)));refine aP rfl 82 (.tmp 7) (.tmp 31) rfl ab 0 (aO ⟨(d:Int),(s:Int)⟩) rfl rfl #[.int .i64 0,.int .i64 0] 82 HB4.out (Nat.le_refl _) bW (bL _) ?_
       intro w5 hb5 hk5;rw[aI _ _ (by rfl)] at hb5;have HAB:=O hb5
       have HW5:Hid (RdW w w5 rb cb pb g o c B (1+3*k+1+2) ql (.slice pa ql pcp) ⟨dS b k,0,0,eA⟩):=O (by
        have h:=HW4.out;obtain⟨o1,o2,o3,o4⟩:=h.ord;have h7:=HABW.out;have hne:∀i,i<ab->¬i=ab:=fun i hi=>by omega
        exact⟨hk5.blk h.res (hne _ (by omega)),hk5.blk h.cur (hne _ (by omega)),hk5.blk h.pt (hne _ (by omega)),hk5.owns h.row (fun i hi e=>by have:=h7.2.2 i hi;omega),h.keep.trans' hk5 (U:=aB) (fun _ _ h=>h) (fun i hi e=>by omega),h.ord,Nat.le_trans h.sz hk5.size⟩)
       clear hb5 hk5
       skip))
   have HW8:Hid (RdW w w5 rb cb pb g o c B (1+3*(k+1)) ql (.slice pa ql pcp) ⟨dS b (k+1),0,0,eA⟩):=O (by
    have e:1+3*(k+1)=1+3*k+1+2:=by omega
    have e2:dS b (k+1)=dS b k:=by rw[oP,if_neg (by rw[HMN.out];exact hkm),List.append_nil]
    rw[e,e2];exact HW5.out)
   have HQ8:Hid ((dS b (k+1)).length=ql):=O (by rw[oP,if_neg (by rw[HMN.out];exact hkm),List.append_nil];exact HQL.out)
   go_roundw
   case rel=>exact⟨k+1,ql,pa,pcp,by omega,by omega,by go_num,HQ8,HW8⟩
   case measure=>simp[intOf];omega
 ·obtain rfl:k=3:=by omega
  have HW:=O (show RdW w wr rb cb pb g o c B 10 ql (.slice pa ql pcp) ⟨dS b 3,0,0,eA⟩ from HW.out);obtain⟨bi,hbi⟩:∃x,beN ((b.drop 10).take 4)=x:=⟨_,rfl⟩
  obtain⟨le,hle⟩:∃x,beN ((b.drop (10+4)).take 1)=x:=⟨_,rfl⟩
  have HBI:=O hbi;have HLE:=O hle;have HSB:Hid ((b.drop 15).length=32):=O (by rw[List.length_drop,HL.out]);clear hbi hle;go_wp2_with fail;refine(pM _ cb g (o+(10)) (47-(10)) (c-(10)) 4 (b.drop (10)) HW.out.cur (HRG.out _ HW.out.keep _) (by rw[List.length_drop,HL.out]) (by omega) (by omega) (by omega) (by omega) (by omega)).mono ?_;rintro e w2 ⟨rfl,hcur,hkc⟩;have HW2:=O (HW.out.num hcur hkc);clear hcur hkc;rw[HBI.out];have k0:=aC HW2.out.pt (i:=1) rfl;have kf:=cV HW2.out.pt 1;obtain⟨w3,hw1⟩:∃x,w2.setCell ⟨pb,1,none⟩ (.int .i64 (bi:Int))=x:=⟨_,rfl⟩
  have HW3:Hid (RdW w w3 rb cb pb g o c B (10+4) ql (.slice pa ql pcp) ⟨dS b 3,(bi:Int),0,eA⟩):=O (by
   have hkk:aA (fun i=>i=pb) w2 w3:=by rw[←hw1];exact(aA.refl (fun i=>i=pb) w2).setCell (p:=⟨pb,1,none⟩) (fun _=>rfl) _
   refine HW2.out.put ?_ (hkk.owns HW2.out.row (fun i hi e=>by have:=bJ HW2.out.row hi;have:=HW2.out.ord;omega)) (hkk.mono (fun _ _ h=>.inl h));rw[←hw1,dO HW2.out.pt,Ii _ _ (bi:Int)])
  clear HW;go_wp2_with fail;clear k0 kf hw1 HW2;refine(pM _ cb g (o+(10+4)) (47-(10+4)) (c-(10+4)) 1 (b.drop (10+4)) HW3.out.cur (HRG.out _ HW3.out.keep _) (by rw[List.length_drop,HL.out]) (by omega) (by omega) (by omega) (by omega) (by omega)).mono ?_;rintro e w4 ⟨rfl,hcur,hkc⟩;have HW4:=O (HW3.out.num hcur hkc);clear hcur hkc;rw[HLE.out];have k0:=aC HW4.out.pt (i:=2) rfl;have kf:=cV HW4.out.pt 2;obtain⟨w5,hw2⟩:∃x,w4.setCell ⟨pb,2,none⟩ (.int .i64 (le:Int))=x:=⟨_,rfl⟩
  have HW5:Hid (RdW w w5 rb cb pb g o c B (10+4+1) ql (.slice pa ql pcp) ⟨dS b 3,(bi:Int),(le:Int),eA⟩):=O (by
   have hkk:aA (fun i=>i=pb) w4 w5:=by rw[←hw2];exact(aA.refl (fun i=>i=pb) w4).setCell (p:=⟨pb,2,none⟩) (fun _=>rfl) _
   refine HW4.out.put ?_ (hkk.owns HW4.out.row (fun i hi e=>by have:=bJ HW4.out.row hi;have:=HW4.out.ord;omega)) (hkk.mono (fun _ _ h=>.inl h));rw[←hw2,dO HW4.out.pt,Ij _ _ (le:Int)])
  go_wp2_with fail;clear k0 kf hw2 HW4 HW3;obtain⟨S,hS0⟩:∃S:World->Prop,S=fun w'=>aA (fun i=>i=pb) w5 w':=⟨_,rfl⟩
  have HSE:=O (show ∀w',S w'->aA (fun i=>i=pb) w5 w' from fun w' h=>by rw[hS0] at h;exact h);have HSI:=O (show ∀w',aA (fun i=>i=pb) w5 w'->S w' from fun w' h=>by rw[hS0];exact h);have HW6:=O (HW5.out.same (aA.refl aB w5).drew);have hS:S w5.drew:=by rw[hS0];exact(aA.refl _ _).drew
  have HCU:=O (fun w' (h:S w')=>(aC ((HSE.out w' h).blk HW5.out.cur (by have:=HW5.out.ord;omega)) rfl:w'.cell? ⟨cb,0,none⟩=some (.slice (some ⟨g,o+(10+4+1),none⟩) (47-(10+4+1)) (c-(10+4+1)))));refine wp_region_held (S:=S) (by kernel_rfl) ?_;change wpAnyH _ _ _ _ _ _ _ _ w5.drew;generalize w5.drew=w6 at hS HW6 ⊢;refine tkb 0 (.pointer (some ⟨pb,3,none⟩)) rfl hS ?_;simp only[Act.put,List.setIfInBounds_toArray,List.set_cons_zero,List.set_cons_succ,List.getElem_toArray,List.getElem_cons_zero];refine tnb 1 (.slice (some ⟨pb,3,none⟩) 32 32) rfl hS ?_;refine tna 2 (.pointer (some ⟨cb,0,none⟩)) rfl hS ?_;refine tnb 3 (.pointer (some ⟨cb,0,none⟩)) rfl hS ?_;refine tnb 4 (.pointer (some ⟨cb,0,none⟩)) rfl hS ?_;refine tnd 5 (.slice (some ⟨g,o+(10+4+1),none⟩) (47-(10+4+1)) (c-(10+4+1))) rfl (.inl ⟨by rfl,fun w' hw'=>by have c:=HCU.out w' hw';go_simp⟩) hS ?_;refine wA9 6 ?_;refine rA rfl (.tmp 49) (.tmp 53) 109 109 rfl 5 Tryz.underlying109 yA pb 3 32 32 rfl _ 32 ((b.drop 15).map vb) rfl ⟨by rw[List.length_map,HSB.out],some ⟨g,o+15,none⟩,c-15,rfl,by omega,by unfold maxLen;omega,(by intro h;cases h),fun _=>⟨g,o+15,rfl,fun i u hu=>HRG.out _ HW6.out.keep 15 i u hu⟩⟩ 32 rfl _ _ HW6.out.pt (by rw[List.size_toArray,aJ (p:=⟨dS b 3,(bi:Int),(le:Int),eA⟩) rfl];decide) (bN _) ?_;intro w7 hb7 hk7;rw[List.take_of_length_le (by rw[List.length_map,HSB.out];exact Nat.le_refl _),Kc _ _ _ rfl HSB.out] at hb7
  have HW7:Hid (RdW w w7 rb cb pb g o c B (10+4+1) ql (.slice pa ql pcp) (fZ b)):=O (by
   have e:fZ b=⟨dS b 3,(bi:Int),(le:Int),b.drop 15⟩:=by unfold fZ;rw[HBI.out,HLE.out]
   rw[e];exact HW6.out.put hb7 (hk7.owns HW6.out.row (fun i hi e=>by have:=bJ HW6.out.row hi;have:=HW6.out.ord;omega)) (hk7.mono (fun _ _ h=>.inl h)))
  have hS7:S w7:=HSI.out _ ((HSE.out _ hS).trans hk7);clear hb7 hk7 hS hS0;refine wpList_nil ?_;refine⟨hS7,?_⟩;refine wpAnyH_done (by kernel_rfl) ?_ _;clear hS7 HSE HSI HCU HW6 HW5
  have HPV:Hid (PtV w7 (.slice pa ql pcp) (fZ b)):=O ⟨by
   have h:=Rd.of_owns HW7.out.row;have e:(fZ b).addrs.length=ql:=HQL.out;rw[e];exact h,CN b 3,HSB.out⟩
  have HRO:=O (aD HW7.out.pt);obtain⟨pc,hpc⟩:∃x,aE (.slice pa ql pcp) (fZ b)=x:=⟨_,rfl⟩
  have hpl:pc.length=35:=by rw[←hpc];exact aJ HSB.out
  have HPC:=O hpc;have HBY:=O (uB w7 _ _ HPV.out);rw[hpc] at HRO HBY;obtain⟨t,ht⟩:∃t,(fZ b).may=t:=⟨_,rfl⟩
  have HT:=O ht;clear hpc ht
  go_wp2_with (first
   | ((with_reducible show WL _ (.load 27 (.tmp 4)));refine wpList_load_mid rfl 27 (.tmp 4) rfl (pb) 0 rfl pc _ HRO.out aF rfl (cH hpl) ?_))
  refine HBY.out.mono ?_;rintro e w8 ⟨v8,rfl,ho8,hk8⟩;have HW8:=O (HW7.out.same hk8);have hrx:=Rd.of_owns ho8;obtain⟨xa,xc,rfl,-,-⟩:=hrx.form;have HRX:=O hrx;rw[HT.out];clear ho8 hk8 hrx HBY HRO HW7;cases t
  ·have HPO:Hid (∀w' e,aA aB w w'->e=.panicked (yL 2 0)->mK w b e w'):=O (fun w' e k he=>by
    unfold mK;rw[show kQ b=false by unfold kQ;rw[HT.out];simp,if_neg (by decide),if_pos HL.out];exact⟨k,he⟩)
   have hb1:=fun w=>wG w 2
   have hb2:=fun w=>yM w 2 0
   go_wp2_with fail;exact⟨rfl,HPO.out _ _ HW8.out.keep rfl⟩
  ·obtain⟨u,hu⟩:∃u,decide (ptB (fZ b)=b)=u:=⟨_,rfl⟩
   have HU:=O hu;have HEQ:=FT w8 _ (.slice (some ⟨g,o,none⟩) 47 c) (ptB (fZ b)) b HRX.out (by rw[HL.out];exact HRB.out _ HW8.out.keep);rw[hu] at HEQ;have HEQ:=O HEQ;clear hu;go_wp2_with fail;refine HEQ.out.mono ?_;rintro e w9 ⟨rfl,hk9⟩;have HW9:=O (HW8.out.same hk9);have HRO:=O (aD HW9.out.pt);rw[HPC.out] at HRO;clear hk9 HEQ HW8;cases u
   ·have HPO:Hid (∀w' e,aA aB w w'->e=.panicked (yL 2 0)->mK w b e w'):=O (fun w' e k he=>by
     unfold mK;rw[show kQ b=false by unfold kQ;rw[HU.out];simp,if_neg (by decide),if_pos HL.out];exact⟨k,he⟩)
    have hb1:=fun w=>wG w 2
    have hb2:=fun w=>yM w 2 0
    go_wp2_with fail;exact⟨rfl,HPO.out _ _ HW9.out.keep rfl⟩
   ·have hrs:=HW9.out.res
    rw[HZ.out] at hrs;have HRS:=O hrs
    have hpo:∀x∈pc,x.oneCell'=true:=by
     intro x hx;rw[←HPC.out] at hx;unfold aE at hx;simp only[List.mem_cons] at hx;rcases hx with rfl|rfl|rfl|hx
     ·rfl
     ·rfl
     ·rfl
     ·exact bN _ x hx
    clear hrs
    go_wp2_with (first
     | ((with_reducible show WL _ (.load 27 (.tmp 4)));refine wpList_load_mid rfl 27 (.tmp 4) rfl (pb) 0 rfl pc _ HRO.out aF rfl (cH hpl) ?_)
     | ((with_reducible show WL none (.store 27 (.tmp 2) (.tmp 71)));refine aP rfl 27 (.tmp 2) (.tmp 71) rfl rb 0 pc rfl rfl zc.toArray 27 HRS.out (by rw[hpl,List.size_toArray,hzl];exact Nat.le_refl _) (cH hpl) hpo ?_;intro w10 hb10 hk10;have HB10:=O hb10;have HK10:=O hk10;clear hb10 hk10))
    refine bodyPost_ret (results_cell_row rfl _ _ rb _ _ _ _ rfl HB10.out aF rfl (by rw[fJ,List.size_toArray,hzl];exact yK)) rfl ?_;have hkk:aA aB w w10:=HW9.out.keep.trans' HK10.out (fun _ _ h=>h) (fun i hi e=>by have:=HW9.out.ord;omega);refine⟨hkk,?_⟩;rw[if_pos (by unfold kQ;rw[HL.out,HT.out,HU.out];rfl)];refine⟨_,by rw[aI _ _ (by rw[hpl,List.size_toArray,hzl]),←HPC.out],?_⟩;have e:(fZ b).addrs.length=ql:=HQL.out;rw[e];exact aV (HK10.out.owns HW9.out.row (fun i hi e=>by have:=bJ HW9.out.row hi;have:=HW9.out.ord;omega)) (by have:=HW9.out.ord;omega)
open Go.RowKit Go.Maps Go.ChangeMaps
set_option maxRecDepth 100000
set_option linter.unusedVariables false
theorem EU(w:World):(zeroValue 182).run Tryz.prog w=.ok (.agg #[.int .i64 0,.int .i64 0]) w:=by kernel_rfl
theorem Ai{P:Program}{fn:Func}{p q:Tmp}{ty uy:TypeId}(h:fn.results=#[.cell p ty,.cell q uy])(tmps:Array Value)(w:World)(g g':Nat)(t t':TypeId)(cs cs':Array Value)(fr fr':Nat×Nat)(d d':TypeDesc)
 (hp:tmps.getD p undef=.pointer (some ⟨g,0,none⟩)) (hg:w.heap[g]?=some (.cells cs t fr)) (hu:P.underlying ty=some d) (hd:(match d with|.struct _|.array _ _=>true|_=>false)=true) (hi:(P.info? ty).map (·.size)=some cs.size)
 (hp':tmps.getD q undef=.pointer (some ⟨g',0,none⟩)) (hg':w.heap[g']?=some (.cells cs' t' fr')) (hu':P.underlying uy=some d') (hd':(match d' with|.struct _|.array _ _=>true|_=>false)=true) (hi':(P.info? uy).map (·.size)=some cs'.size) :
 (results fn tmps).run P w=.ok (.tuple #[.agg cs,.agg cs']) w:=by
 have hq:tmps[p]?.getD undef=.pointer (some ⟨g,0,none⟩):=by simpa using hp
 have hq':tmps[q]?.getD undef=.pointer (some ⟨g',0,none⟩):=by simpa using hp'
 simp[results,h,hq,hq',asAddr,run_loadVar_row w g t ty cs fr d hg hu hd hi,run_loadVar_row w g' t' uy cs' fr' d' hg' hu' hd' hi']
theorem Ef(A F:Nat)(w:World) :
 CallsD Tryz.prog 163 #[.pointer (some ⟨A,0,none⟩),.pointer (some ⟨F,0,none⟩)] .returning w fun e u' w'=>e=.returned (.tuple #[])/\u'=.returning/\w'=w:=by
 refine callsD_of_wpS Tryz.func163 rfl fun c₀ cs hu=>?_
 apply wpS_seq;apply wpS_region;simp[wpOpsS,go_sem,recoverD,hu,Tryz.ntmps163,Exit.thenS];refine wpS_of_wp ?_;go_wp2_with fail;cases c₀
 simp_all [bodyPostS,results,Tryz.results163]
open Go.RowKit Go.Maps Go.ChangeMaps
set_option maxRecDepth 100000
set_option linter.unusedVariables false
def Ly(b:List UInt8):Int×Int:=if b.length=47 then (2,0) else (4,min b.length 47)
def Il(w:World)(b:List UInt8)(e:Ending)(w':World):Prop:=
 aA aB w w'/\if kQ b then ∃v,e=.returned (.tuple #[.agg (aE v (fZ b)).toArray,.agg #[.int .i64 0,.int .i64 0]])/\w'.ownsRow w.heap.size 82 2 v (fZ b).addrs.length (aQ (fZ b).addrs)
  else e=.returned (.tuple #[.agg (aE (.slice none 0 0) zPt).toArray,.agg #[.int .i64 (Ly b).1,.int .i64 (Ly b).2]])
theorem cS{oa:Option Addr}{n ca:Nat}(p:Pt):∀u∈aE (.slice oa n ca) p,u.oneCell'=true:=by
 intro x hx;unfold aE at hx;simp only[List.mem_cons] at hx;rcases hx with rfl|rfl|rfl|hx
 ·rfl
 ·rfl
 ·rfl
 ·exact bN _ x hx
theorem Kd(w:World)(bv:Value)(b:List UInt8)(hr:Rd w 1 bv b.length (b.map vb))(ht:kQ b=true):Calls Tryz.prog 112 #[bv] w (Il w b):=by
 have hl0:b.length=47:=by
  have h:=ht;unfold kQ at h;simp only[Bool.and_eq_true,decide_eq_true_eq] at h;exact h.1.1
 have HT:=O ht;have HC:=O (fun wx (k:aA aB w wx)=>Ik wx bv b (hr.keep k fun _ _=>id) hl0);obtain⟨a,ca,rfl,-,-⟩:=hr.form;obtain⟨n,hn⟩:∃n,b.length=n:=⟨_,rfl⟩
 rw[hn] at HC ⊢;have hz:=ER;obtain⟨zc,hzc⟩:∃x,aE (.slice none 0 0) zPt=x:=⟨_,rfl⟩
 have hzl:zc.length=35:=by rw[←hzc];rfl
 have HZ:=O hzc;have HN:=O hn;rw[hzc] at hz;obtain⟨wa,hwa,ka,ha,sa⟩:=aT w zc.toArray 27;obtain⟨wb,hwb,kb,hb,sb⟩:=aT wa #[.int .i64 0,.int .i64 0] 182;obtain⟨rb,hrb⟩:∃x,w.heap.size=x:=⟨_,rfl⟩
 obtain⟨fb,hfb⟩:∃x,wa.heap.size=x:=⟨_,rfl⟩
 have hrf:rb<fb:=by omega
 rw[hrb] at ha;rw[hfb] at hb;have HRB0:=O (kb.blk ha id);have HFB0:=O hb;have HKB:=O (ka.trans kb);have HRBE:=O hrb;have HSW:Hid (wb.heap.size=fb+1):=O (by omega);have hmf:∀(fn:Fn) (first cap:Array Value) (w:World),(Instr.makeFunc fn first cap).run Tryz.prog w=.ok (.func fn first cap) w:=fun _ _ _ _=>rfl
 clear hr ka kb ha hb sa sb hzc hn ht hl0
 go_enter_defers Tryz.func112,Tryz.ntmps112
 go_wp2_with (first
  | ((with_reducible show WL (some 2) (.alloc 27));refine aR rfl 27 rfl _ hz zc.toArray rfl ?_;rw[hwa,hrb])
  | ((with_reducible show WL (some 3) (.alloc 182));refine aR rfl 182 rfl _ EU #[.int .i64 0,.int .i64 0] rfl ?_;rw[hwb,hfb]))
 refine(HC.out _ HKB.out).mono ?_;intro e w4 hpost;unfold mK at hpost;obtain⟨hk4,hpost⟩:=hpost;have HRB:=O (hk4.blk HRB0.out id);have HFB:=O (hk4.blk HFB0.out id);have HK4:=O (HKB.out.trans hk4);have HS4:Hid (fb<w4.heap.size):=O (lt_of_block HFB.out);clear hk4 HRB0 HFB0 HC;rw[HT.out] at hpost;rw[if_pos rfl] at hpost;obtain⟨v,rfl,ho4⟩:=hpost;obtain⟨m,hm⟩:∃m,(fZ b).addrs.length=m:=⟨_,rfl⟩
 have HM:=O hm;rw[hm] at ho4;obtain⟨va,vc,rfl,-,-⟩:=(Rd.of_owns ho4).form;have HO4:=O ho4
 have hl47:b.length=47:=by
  have h:=HT.out;unfold kQ at h;simp only[Bool.and_eq_true,decide_eq_true_eq] at h;exact h.1.1
 obtain⟨pc,hpc⟩:∃x,aE (.slice va m vc) (fZ b)=x:=⟨_,rfl⟩
 have hpl:pc.length=35:=by rw[←hpc];exact aJ (by show (b.drop 15).length=32;rw[List.length_drop,hl47])
 have hpo:∀u∈pc,u.oneCell'=true:=by rw[←hpc];exact cS _
 have HPC:=O hpc;rw[hpc];clear ho4 hm hpc hl47
 go_wp2_with (first
  | ((with_reducible show WL none (.store 27 (.tmp 2) (.tmp 6)));refine aP rfl 27 (.tmp 2) (.tmp 6) rfl rb 0 pc rfl rfl zc.toArray 27 HRB.out (by rw[hpl,List.size_toArray,hzl];exact Nat.le_refl _) (cH hpl) hpo ?_;intro w5 hb5 hk5;rw[aI _ _ (by rw[hpl,List.size_toArray,hzl])] at hb5;have HF5:=O (hk5.blk HFB.out (by omega));have HB5:=O hb5;have HK5:=O hk5;clear hb5 hk5)
  | ((with_reducible show WL none (.store 182 (.tmp 3) (.tmp 7)));refine aP rfl 182 (.tmp 3) (.tmp 7) rfl fb 0 [.int .i64 0,.int .i64 0] rfl rfl #[.int .i64 0,.int .i64 0] 182 HF5.out (Nat.le_refl _) lD (by simp[Value.oneCell']) ?_;intro w6 hb6 hk6;rw[aI _ _ (by rfl)] at hb6;have HB6:=O (hk6.blk HB5.out (by omega));have HF6:=O hb6;have HK6:=O hk6;clear hb6 hk6))
 refine leaves_cons (f:=163) (args:=#[.pointer (some ⟨rb,0,none⟩),.pointer (some ⟨fb,0,none⟩)]) (by simp) (by simp[go_sem]) ?_;refine(Ef _ _ _).mono ?_;rintro e u' w'' ⟨rfl,rfl,rfl⟩;refine⟨_,Ai rfl _ _ rb fb _ _ _ _ _ _ _ _ rfl HB6.out aF rfl (by rw[List.size_toArray,hpl];exact yK) rfl HF6.out Tryz.underlying182 rfl lD,?_,?_⟩
 ·exact(HK4.out.trans' HK5.out (U:=aB) (fun _ _ h=>h) (fun i hi e=>by have:=HRBE.out;omega)).trans' HK6.out (fun _ _ h=>h) (fun i hi e=>by have:=HRBE.out;omega)
 ·rw[HT.out,if_pos rfl]
  refine⟨_,by rw[HPC.out],?_⟩;rw[HM.out];have h5:=HK5.out.owns HO4.out (fun i hi e=>by have:=bJ HO4.out hi;have:=HSW.out;omega);exact aV (HK6.out.owns h5 (fun i hi e=>by have:=bJ HO4.out hi;have:=HSW.out;omega)) (by have:=HRBE.out;have:=HSW.out;omega)
theorem KK(n k:Nat):be n (k+1)=be (n / 256) k++[UInt8.ofNat n]:=by
 unfold be;rw[List.range_succ,List.map_append,List.map_cons,List.map_nil]
 congr 1
 ·refine List.map_congr_left fun j hj=>?_
  rw[List.mem_range] at hj;unfold iF;rw[show 8*(k+1-1-j)=8*(k-1-j)+8 by omega,Nat.pow_add,Nat.mul_comm,←Nat.div_div_eq_div_mul]
 ·unfold iF
  simp
theorem Mx(n:Nat):∀k,beN (be n k)=n % 256 ^ k:=by
 intro k
 induction k generalizing n with
 | zero=>simp[be,beN,Nat.mod_one]
 | succ k ih =>
   rw[KK,sI,ih];have h1:(UInt8.ofNat n).toNat=n % 256:=by simp
   rw[h1,Nat.pow_succ,Nat.mul_comm (256 ^ k) 256,Nat.mod_mul];omega
theorem oB{z:Int}{k:Nat}(h0:0≤z)(h:z<256 ^ k):(beN (be z.toNat k):Int)=z:=by
 rw[Mx,Nat.mod_eq_of_lt]
 ·exact Int.toNat_of_nonneg h0
 ·have:((z.toNat:Nat):Int)<((256 ^ k:Nat):Int):=by rw[Int.toNat_of_nonneg h0];simpa using h
  exact_mod_cast this
theorem EY{A B C:List UInt8}{i k:Nat}(h1:A.length=i)(h2:B.length=k):((A++(B++C)).drop i).take k=B:=by
 subst h1 h2;rw[List.drop_left,List.take_left]
theorem Gk(p:Pt)(i:Nat)(h:i<3):((bY p).drop (1+3*i)).take 1=be (p.addrs.getD i zAd).dev.toNat 1/\((bY p).drop (1+3*i+1)).take 2=be (p.addrs.getD i zAd).sec.toNat 2:=by
 have h3:i=0\/i=1\/i=2:=by omega
 rcases h3 with rfl|rfl|rfl<;>exact⟨rfl,rfl⟩
theorem IT{p:Pt}(hm:p.may=true){i:Nat}(h:i<3):xD (bY p) i=p.addrs.getD i zAd:=by
 obtain⟨h1,h2⟩:=Gk p i h;obtain⟨d,s,hd,hd8,hs⟩:=H7 (iC hm).2.1 i;unfold xD;rw[h1,h2,hd];have e1:=oB (z:=(d:Int)) (k:=1) (by omega) (by omega);have e2:=oB (z:=(s:Int)) (k:=2) (by omega) (by omega);show (⟨_,_⟩:Ad)=_;rw[e1,e2]
theorem IU{p:Pt}(hs:p.sum.length=32)(hm:p.may=true):fZ (bY p)=p:=by
 obtain⟨b1,b2,b3,b4,b5,b6⟩:=iC hm
 have hc:beN ((bY p).take 1)=p.addrs.length:=by
  have h0:(bY p).take 1=be p.addrs.length 1:=rfl;have:=oB (z:=(p.addrs.length:Int)) (k:=1) (by omega) (by omega);rw[h0];rw[Int.toNat_natCast] at this
  exact_mod_cast this
 have ha:dS (bY p) 3=p.addrs:=by
  unfold dS;rw[hc,Nat.min_eq_left b1];apply List.ext_getElem?;intro i;rw[List.getElem?_map]
  by_cases hi:i<p.addrs.length
  ·rw[List.getElem?_range hi,Option.map_some,IT hm (by omega),List.getD_eq_getElem?_getD,List.getElem?_eq_getElem hi]
   rfl
  ·rw[List.getElem?_eq_none (by simpa using hi),List.getElem?_eq_none (by omega)]
   rfl
 have l3:(bR p 3).length=10:=eQ p 3
 have e1:((bY p).drop 10).take 4=be p.birth.toNat 4:=by
  unfold bY;rw[List.append_assoc,List.append_assoc];exact EY l3 (bH _ _)
 have e2:((bY p).drop 14).take 1=be p.level.toNat 1:=by
  unfold bY;rw[List.append_assoc];exact EY (by rw[List.length_append,l3,bH]) (bH _ _)
 have e3:(bY p).drop 15=p.sum:=by
  unfold bY;have:(bR p 3++be p.birth.toNat 4++be p.level.toNat 1).length=15:=by rw[List.length_append,List.length_append,l3,bH,bH]
  rw[←this,List.drop_left]
 unfold fZ;rw[ha,e1,e2,e3,oB b3 (by omega),oB b5 (by omega)]
end
end Go.Proofs.YtiinnfhjpaeffaaGreat
