/- A part of the proof. Conditions: those told. -/
import Derived.Test.YtjkbekifgobeaaaGreatT1
import Derived.Test.YtjkbekifgobeaaaGreatT30
namespace Go.Proofs.YtjkbekifgobeaaaGreat
set_option maxHeartbeats 64000000
set_option maxRecDepth 100000
set_option linter.unusedVariables false
section
open Go.RowKit Go.Maps Go.ChangeMaps
def oU(S:Kor)(t:Tr)(n:Nat)(bs:List UInt8):Option Tr×Kor:=if t.blk 3 n=bs then (some t,S) else gC 3 S t n bs
theorem Cp(S:Kor)(t:Tr)(n:Nat)(bs:List UInt8){k y:Nat}(h:k+y=2):gC (k+1) S (aP n t y) n bs=match gC k S (aP n t (y+1)) n bs with
 | (none,T)=>(none,T)
 | (some u,T)=>T.lay (k+1) (eK (aP n t y).kid (n / 4 ^ k % 4) u):=by
 have e:aP n t (y+1)=(aP n t y).kid (n / 4 ^ k % 4):=by
  show (aP n t y).kid (n / 4 ^ (2-y) % 4)=_;rw[show 2-y=k by omega]
 rw[e];rfl
theorem AC{S:Kor}{t:Tr}{n:Nat}{bs:List UInt8}{T:Kor}:∀{y k:Nat},k+y=3->gC k S (aP n t y) n bs=(none,T)->gC 3 S t n bs=(none,T)
 | 0,k,h,e=>by
   have hk:k=3:=by omega
   subst hk;exact e
 | y+1,k,h,e=>AC (y:=y) (k:=k+1) (by omega) (by rw[Cp S t n bs (k:=k) (y:=y) (by omega),e])
theorem DJ{S:Kor}(hb:S.Bd){t:Tr}(ht:Tr.Ok S 3 t){n:Nat}{bs:List UInt8}(hbl:bs.length=256)(hne:¬t.blk 3 n=bs){k y:Nat}(h:k+y=3){u:Tr}{T:Kor}(e:gC k S (aP n t y) n bs=(some u,T)) :
 Beh S T/\Tr.Ok T k u/\u.ptr.eqB (aP n t y).ptr=false:=by
 have hO:Tr.Ok S k (aP n t y):=by
  have:=hE (n:=n) ht y (by omega)
  rwa [show 3-y=k by omega] at this
 obtain⟨h1,h2⟩:=yT hbl n (by omega) hb hO e;obtain⟨h3,h4,h5⟩:=h2 u rfl;have hu:u.blk k n=bs:=by rw[h4,if_pos rfl]
 have hp:∀x j,x+j=3->t.blk 3 n=(aP n t x).blk j n:=by
  intro x
  induction x with
  | zero =>
     intro j hj;obtain rfl:j=3:=by omega
     rfl
  | succ x ih =>
    intro j hj;have hx:=hE (n:=n) ht x (by omega);rw[show 3-x=j+1 by omega] at hx;rw[ih (j+1) (by omega),hx.blk_succ];show _=((aP n t x).kid (n / 4 ^ (2-x) % 4)).blk j n;rw[show 2-x=j by omega]
 have hq:=hp y k (by omega);refine⟨h1,h3,?_⟩;cases hh:(aP n t y).isHole with
 | false=>exact Fr.ne hO hh h5
 | true =>
   have ey:=fV hh;rw[ey,Tr.blk_hole] at hq;rw[ey];refine Fr.ne_hole (S:=S) h3 ?_;cases hu2:u.isHole with
   | false=>rfl
   | true =>
     rw[fV hu2,Tr.blk_hole] at hu;rw[←hu] at hne;exact absurd hq hne
theorem Cq(k:Nat->Tr)(d:Nat)(u:Tr):fC (fun i=>(k i).ptr) d u.ptr=fun i=>(eK k d u i).ptr:=by
 funext i
 unfold fC eK
 by_cases e:i=d
 ·rw[if_pos e,if_pos e]
 ·rw[if_neg e,if_neg e]
theorem Kv{S T:Kor}{l:Nat}{k:Nat->Tr}{d:Nat}{u:Tr}(hk:∀i,i<4->Tr.Ok S l (k i))(e:Ext S T)(hu:Tr.Ok T l u):∀i,i<4->Tr.Ok T l (eK k d u i):=fun i hi=>by
 by_cases h:i=d
 ·rw[h,jO];exact hu
 ·rw[jP _ _ h];exact(hk i hi).ext e
abbrev E3:TypeId:=46
abbrev E4:TypeId:=26
def rT(W0:World)(b8 b9 b10 b12 c:Nat)(S:Kor)(B0:Nat->Prop)(n:Nat)(t:Tr)(bs:List UInt8)(k:Nat)(W:World):Prop:=
 ∃y v B',k+y=3/\W.heap[b12]?=some (.cells (aJ v (dM (gC k S (aP n t y) n bs).1)).toArray E4 (0,0)) /\
  W.heap[b10]?=some (.cells #[.int .i64 (eL (gC k S (aP n t y) n bs).1)] E3 (0,0)) /\
  aL W B' v (dM (gC k S (aP n t y) n bs).1)/\(∀i,v.ownBlock=some i->i≠b8/\i≠b9/\i≠b10/\i≠b12) /\
  KI W c (gC k S (aP n t y) n bs).2 B'/\(∀i,B' i->B0 i\/W0.heap.size≤i)/\(∀i,B' i->IsC W i\/i<W0.heap.size/\B0 i/\¬IsC W0 i) /\
  aA (fun i=>B0 i\/i=b10\/i=b12) W0 W
def Cr(W0:World)(b8 b9 b10 b12 c:Nat)(S:Kor)(B0:Nat->Prop)(n:Nat)(t:Tr)(bs:List UInt8)(W:World):Prop:=
 ∃T B',gC 3 S t n bs=(none,T)/\W.heap[b8]?=some (.cells aH.toArray E4 (0,0))/\W.heap[b9]?=some (.cells #[.int .i64 15] E3 (0,0)) /\
  KI W c T B'/\(∀i,B' i->B0 i\/W0.heap.size≤i)/\(∀i,B' i->IsC W i\/i<W0.heap.size/\B0 i/\¬IsC W0 i)/\aA (fun i=>B0 i\/i=b8\/i=b9\/i=b10\/i=b12) W0 W
theorem mF{W:World}{l:Nat}{o:Obj}(ho:W.heap[l]?=some o)(hc:o.isCells=false){i:Nat}(h:IsC W i):¬(some l=some i):=fun e=>by
 obtain⟨cs,t,h⟩:=h;injection e with e
 rw[←e,ho] at h;injection h with h
 rw[h] at hc;cases hc
theorem rT.put{W0 W:World}{b8 b9 b10 b12 c:Nat}{S:Kor}{B0:Nat->Prop}{n:Nat}{t:Tr}{bs:List UInt8}{k l:Nat}{o:Obj}(h:rT W0 b8 b9 b10 b12 c S B0 n t bs k W)(hl:W0.heap.size≤l)(ho:W.heap[l]?=some o)(hc:o.isCells=false)(o':Obj):rT W0 b8 b9 b10 b12 c S B0 n t bs k (W.putObj l o'):=by
 obtain⟨y,v,B',h1,h2,h3,h4,h5,h6,h7,h8,h9⟩:=h;have kd:=aA.of_grown (grownBy_putObj' W l o');have no:=fun {i:Nat}(h:IsC W i)=>mF ho hc h
 refine⟨y,v,B',h1,kd.blk h2 (no ⟨_,_,h2⟩),kd.blk h3 (no ⟨_,_,h3⟩),h4.keepT kd (fun i hi=>no (h4.off i hi).2),h5,h6.keepT kd (fun i e hb=>?_),h7,fun i hb=>?_,h9.trans' kd (fun _ _ h=>h) (fun i hi e=>by injection e with e;omega)⟩
 ·rcases h8 i hb with h|h
  ·exact no h e
  ·have:=h.1;injection e with e;omega
 ·rcases h8 i hb with h|h
  ·exact .inl (h.keep kd (no h))
  ·exact .inr h
theorem Cr.put{W0 W:World}{b8 b9 b10 b12 c:Nat}{S:Kor}{B0:Nat->Prop}{n:Nat}{t:Tr}{bs:List UInt8}{l:Nat}{o:Obj}(h:Cr W0 b8 b9 b10 b12 c S B0 n t bs W)(hl:W0.heap.size≤l)(ho:W.heap[l]?=some o)(hc:o.isCells=false)(o':Obj):Cr W0 b8 b9 b10 b12 c S B0 n t bs (W.putObj l o'):=by
 obtain⟨T,B',h1,h2,h3,h6,h7,h8,h9⟩:=h;have kd:=aA.of_grown (grownBy_putObj' W l o');have no:=fun {i:Nat}(h:IsC W i)=>mF ho hc h
 refine⟨T,B',h1,kd.blk h2 (no ⟨_,_,h2⟩),kd.blk h3 (no ⟨_,_,h3⟩),h6.keepT kd (fun i e hb=>?_),h7,fun i hb=>?_,h9.trans' kd (fun _ _ h=>h) (fun i hi e=>by injection e with e;omega)⟩
 ·rcases h8 i hb with h|h
  ·exact no h e
  ·have:=h.1;injection e with e;omega
 ·rcases h8 i hb with h|h
  ·exact .inl (h.keep kd (no h))
  ·exact .inr h
theorem rT.keep0{W0 W W':World}{b8 b9 b10 b12 c:Nat}{S:Kor}{B0:Nat->Prop}{n:Nat}{t:Tr}{bs:List UInt8}{k:Nat}(h:rT W0 b8 b9 b10 b12 c S B0 n t bs k W)(kp:aA aB W W'):rT W0 b8 b9 b10 b12 c S B0 n t bs k W':=by
 obtain⟨y,v,B',h1,h2,h3,h4,h5,h6,h7,h8,h9⟩:=h;exact⟨y,v,B',h1,kp.blk h2 id,kp.blk h3 id,h4.keep0 kp,h5,h6.keep0 kp,h7,fun i hb=>(h8 i hb).imp (fun h=>h.keep kp id) id,h9.trans kp.any⟩
open Go.RowKit Go.Maps Go.ChangeMaps
set_option maxRecDepth 100000
theorem Tr.Ok.blk_len{S:Kor}:∀{l:Nat}{t:Tr},Tr.Ok S l t->∀(i:Nat),(t.blk l i).length=256
 | l,.hole,h,i=>by rw[Tr.blk_hole];exact GQ
 | 0,.leaf p b,h,i=>h.1.len
 | 0,.node p k,h,i=>h.elim
 | l+1,.leaf p b,h,i=>h.elim
 | l+1,.node p k,h,i=>(h.2.1 _ (gD i l)).blk_len i
theorem Loc.wide{S B:Nat->Prop}{w0 w:World}{l:List (Nat×Array Value×TypeId)}(h:Loc aB aB w0 w l)(hB:∀k,B k->k<w0.heap.size):Loc S B w0 w l:=
 ⟨h.keep.any,h.ge,h.nd,h.at_,fun x hx e=>by have:=h.ge x hx;have:=hB _ e;omega⟩
structure Lf(a b N:Nat)(k:Nat)(sv:Value)(pvs:Nat->Value)(vss:Nat->Nat->Value):Prop where
 sv:∀i,sv.ownBlock=some i->(i<a\/b≤i)/\i<N
 pvs:∀j,j<k->∀i,(pvs j).ownBlock=some i->(i<a\/b≤i)/\i<N
 vss:∀j,j<k->∀q,q<4->∀i,(vss j q).ownBlock=some i->(i<a\/b≤i)/\i<N
theorem bM.zone{w w0 w':World}{B:Nat->Prop}{M:Nat}{pv0:Value}{n:Nat}{t:Tr}{k:Nat}{sv:Value}{pvs:Nat->Value}{vss:Nat->Nat->Value}(h:bM w0 w' B M pv0 n t k sv pvs vss)(hM:w0.heap.size≤M)(h0:∀i,pv0.ownBlock=some i->i<w.heap.size):Lf w.heap.size w0.heap.size w'.heap.size k sv pvs vss:=by
 refine⟨fun i hi=>⟨.inr (bH h.row hi),?_⟩,fun j hj i hi=>⟨?_,((h.pvs j hj).1.off i hi).2.lt⟩,fun j hj q hq i hi=>⟨.inr (Nat.le_trans hM (((h.vss j hj).2 q hq).2 i hi)),(((h.vss j hj).1 q hq).off i hi).2.lt⟩⟩
 ·obtain⟨cur,hc⟩:=aO h.row hi
  exact lt_of_block hc
 ·rcases (h.pvs j hj).2.2 with e|e
  ·exact .inl (h0 i (e▸hi))
  ·exact .inr (Nat.le_trans hM (e i hi))
theorem bM.keepZ{T:Nat->Prop}{a b N:Nat}{w w0 w':World}{B:Nat->Prop}{M:Nat}{pv0:Value}{n:Nat}{t:Tr}{k:Nat}{sv:Value}{pvs:Nat->Value}{vss:Nat->Nat->Value}(h:bM w0 w B M pv0 n t k sv pvs vss)(z:Lf a b N k sv pvs vss)(kp:aA T w w')(hT:∀i,T i->(a≤i/\i<b)\/N≤i):bM w0 w' B M pv0 n t k sv pvs vss:=by
 have no:∀i,(i<a\/b≤i)/\i<N->¬T i:=fun i h e=>by rcases hT i e with h2|h2<;>omega
 exact⟨kp.owns h.row fun i hi=>no i (z.sv i hi),fun j hj=>⟨(h.pvs j hj).1.keepT kp fun i hi=>no i (z.pvs j hj i hi),(h.pvs j hj).2⟩,fun j hj=>⟨fun q hq=>((h.vss j hj).1 q hq).keepT kp fun i hi=>no i (z.vss j hj q hq i hi),(h.vss j hj).2⟩⟩
theorem bM.toB{w w0 w':World}{B B':Nat->Prop}{M:Nat}{pv0:Value}{n:Nat}{t:Tr}{k:Nat}{sv:Value}{pvs:Nat->Value}{vss:Nat->Nat->Value}(h:bM w0 w B M pv0 n t k sv pvs vss)(kp:aA B w w')(hB:∀i,B' i->B i\/w.heap.size≤i)(hs:∀i,sv.ownBlock=some i->¬B i):bM w0 w' B' M pv0 n t k sv pvs vss:=
 ⟨kp.owns h.row hs,fun j hj=>⟨(h.pvs j hj).1.keep kp hB,(h.pvs j hj).2⟩,fun j hj=>⟨fun q hq=>((h.vss j hj).1 q hq).keep kp hB,(h.vss j hj).2⟩⟩
theorem aL.grow{W0 W:World}{B0 B' T:Nat->Prop}{v:Value}{p:Pt}(h:aL W0 B0 v p)(k:aA (fun i=>B0 i\/T i) W0 W)(hb:∀i,v.ownBlock=some i->¬T i)(hB:∀i,B' i->B0 i\/W0.heap.size≤i):aL W B' v p:=
 ⟨h.pt.keep k fun i hi e=>e.elim (h.off i hi).1 (hb i hi),fun i hi=>⟨fun e=>(hB i e).elim (h.off i hi).1 fun e=>by have:=(h.off i hi).2.lt;omega,(h.off i hi).2.keep k fun e=>e.elim (h.off i hi).1 (hb i hi)⟩⟩
theorem DK{n:Nat}{t:Tr}{w0 w:World}{B:Nat->Prop}{M:Nat}{pv0:Value}{k:Nat}{sv:Value}{pvs:Nat->Value}{vss:Nat->Nat->Value}(h:bM w0 w B M pv0 n t k sv pvs vss){x:Nat}(hx:x<k):(dJ n t x (pvs x) (vss x)).length=177:=by
 unfold dJ;rw[List.length_append,List.length_append,aN (h.pvs x hx).1.pt.sum,dF _ _ (h.vss x hx).1.nv];rfl
theorem GW{n:Nat}{t:Tr}{w0 w:World}{B:Nat->Prop}{M:Nat}{pv0:Value}{k:Nat}{sv:Value}{pvs:Nat->Value}{vss:Nat->Nat->Value}(h:bM w0 w B M pv0 n t k sv pvs vss)(hk:0<k):∃g cap cur,sv=.slice (some ⟨g,0,none⟩) k cap/\k≤cap/\w.heap[g]?=some (.cells cur 125 (0,0))/\∀x,x<k->w.rangeAt g (x*177) (dJ n t x (pvs x) (vss x)):=by
 rcases h.row.2 with⟨-,h0⟩|⟨g,cap,cur,hv,hge,hc,h1,h2,h3,h4⟩
 ·omega
 ·refine⟨g,cap,cur,hv,h1,hc,fun x hx j v hj=>?_⟩
  obtain⟨hl,a',c',he,-,-,-,h5⟩:=Rd.of_owns h.row;rw[hv] at he;cases he
  obtain⟨g',o',he,hcl⟩:=h5 (by rw[hl];omega);cases he
  have:=hcl (x*177+j) v (fU (c:=fun j=>dJ n t j (pvs j) (vss j)) (n:=177) (fun y hy=>DK h (List.mem_range.1 hy)) (iI hx) hj)
  rwa [Nat.zero_add] at this
theorem GX{w:World}{vs:Nat->Value}{ps:Nat->Pt}(hv:dG w vs ps)(lv:Int){k:Nat}(hk:k<4):∃P R,cH lv vs ps=P++(aJ (vs k) (ps k)++R)/\P.length=1+k*35/\∀v p,cH lv (fC vs k v) (fC ps k p)=P++(aJ v p++R):=by
 have l0:=aN (v:=vs 0) (hv 0 (by omega)).sum;have l1:=aN (v:=vs 1) (hv 1 (by omega)).sum;have l2:=aN (v:=vs 2) (hv 2 (by omega)).sum;rcases k with _|_|_|_|k
 ·exact⟨[.int .i64 lv],aJ (vs 1) (ps 1)++(aJ (vs 2) (ps 2)++aJ (vs 3) (ps 3)),rfl,rfl,fun _ _=>rfl⟩
 ·exact⟨.int .i64 lv::aJ (vs 0) (ps 0),aJ (vs 2) (ps 2)++aJ (vs 3) (ps 3),rfl,by rw[List.length_cons,l0],fun _ _=>rfl⟩
 ·refine⟨.int .i64 lv::(aJ (vs 0) (ps 0)++aJ (vs 1) (ps 1)),aJ (vs 3) (ps 3),?_,by rw[List.length_cons,List.length_append,l0,l1],fun v p=>?_⟩
  ·show Value.int .i64 lv::(aJ (vs 0) (ps 0)++(aJ (vs 1) (ps 1)++(aJ (vs 2) (ps 2)++aJ (vs 3) (ps 3))))=_
   rw[List.cons_append,List.append_assoc]
  ·show Value.int .i64 lv::(aJ (vs 0) (ps 0)++(aJ (vs 1) (ps 1)++(aJ v p++aJ (vs 3) (ps 3))))=_
   rw[List.cons_append,List.append_assoc]
 ·refine⟨.int .i64 lv::(aJ (vs 0) (ps 0)++(aJ (vs 1) (ps 1)++aJ (vs 2) (ps 2))),[],?_,by rw[List.length_cons,List.length_append,List.length_append,l0,l1,l2],fun v p=>?_⟩
  ·show Value.int .i64 lv::(aJ (vs 0) (ps 0)++(aJ (vs 1) (ps 1)++(aJ (vs 2) (ps 2)++aJ (vs 3) (ps 3))))=_
   rw[List.cons_append,List.append_assoc,List.append_assoc,List.append_nil]
  ·show Value.int .i64 lv::(aJ (vs 0) (ps 0)++(aJ (vs 1) (ps 1)++(aJ (vs 2) (ps 2)++aJ v p)))=_
   rw[List.cons_append,List.append_assoc,List.append_assoc,List.append_nil]
 ·omega
theorem uW{w:World}{b o:Nat}{P A R:List Value}{t:TypeId}{fr:Nat×Nat}(hb:w.heap[b]?=some (.cells (P++(A++R)).toArray t fr))(h:P.length=o):w.rangeAt b o A:=fun j v hj=>by
 refine aD hb ?_;rw[List.getElem?_toArray,List.getElem?_append_right (by omega),show o+j-P.length=j by omega,List.getElem?_append_left (List.getElem?_eq_some_iff.1 hj).1];exact hj
theorem Kw{w W:World}{A:List Value}{lv:Int}{vs:Nat->Value}{ps:Nat->Pt}{dv:Value}{b:Nat}{t:TypeId}(hA:A.length=35)(hv:dG w vs ps){q:Nat}(hq:q<4)(hb:W.heap[b]?=some (.cells (A++(cH lv vs ps++[dv])).toArray t (0,0))):W.rangeAt b (36+q*35) (aJ (vs q) (ps q)):=by
 obtain⟨P,R,h1,h2,-⟩:=GX hv lv hq;rw[h1,List.append_assoc,List.append_assoc,←List.append_assoc A] at hb;exact uW hb (by rw[List.length_append,hA,h2];omega)
theorem I9{W:World}{A N:List Value}{dv:Value}{b:Nat}{t:TypeId}(hA:A.length=35)(hb:W.heap[b]?=some (.cells (A++(N++[dv])).toArray t (0,0))):W.rangeAt b 35 N:=uW hb hA
theorem DL{W:World}{A N:List Value}{dv:Value}{b:Nat}{t:TypeId}(hA:A.length=35)(hN:N.length=141)(hb:W.heap[b]?=some (.cells (A++(N++[dv])).toArray t (0,0))):W.cell? ⟨b,176,none⟩=some dv:=by
 refine aD hb ?_;rw[List.getElem?_toArray,List.getElem?_append_right (by omega),List.getElem?_append_right (by omega),show 176-A.length-N.length=0 by omega];rfl
theorem Kx{w:World}{A:List Value}{lv:Int}{vs:Nat->Value}{ps:Nat->Pt}{dv:Value}(hA:A.length=35)(hv:dG w vs ps){q:Nat}(hq:q<4){v:Value}{p:Pt}(hp:p.sum.length=32):spl (A++(cH lv vs ps++[dv])).toArray (36+q*35) (aJ v p)=(A++(cH lv (fC vs q v) (fC ps q p)++[dv])).toArray:=by
 obtain⟨P,R,h1,h2,h3⟩:=GX hv lv hq;have l1:=aN (v:=vs q) (hv q hq).sum;have l2:=aN (v:=v) hp;have h:=lW (A++P) (aJ (vs q) (ps q)) (aJ v p) (R++[dv]) (by rw[l1,l2]);rw[List.length_append,hA,h2,show 35+(1+q*35)=36+q*35 by omega] at h;rw[h1,h3,List.append_assoc,List.append_assoc,List.append_assoc,List.append_assoc,←List.append_assoc A,←List.append_assoc A,h]
theorem Loc.round{w W0 W1:World}{B B0 B':Nat->Prop}{b4 b5 b8 b9 b10 b12:Nat}{c4 c5 c8 c9 c10 c12 d10 d12:Array Value}{t4 t5 t8 t9 t10 t12:TypeId}
 (h:Loc B B0 w W0 [(b12,c12,t12),(b10,c10,t10),(b9,c9,t9),(b8,c8,t8),(b5,c5,t5),(b4,c4,t4)]) (h12:W1.heap[b12]?=some (.cells d12 t12 (0,0))) (h10:W1.heap[b10]?=some (.cells d10 t10 (0,0)))
 (hB':∀i,B' i->B0 i\/W0.heap.size≤i) (hB0:∀i,B0 i->B i\/w.heap.size≤i) (kp:aA (fun i=>B0 i\/i=b10\/i=b12) W0 W1) :
 Loc B B' w W1 [(b12,d12,t12),(b10,d10,t10),(b9,c9,t9),(b8,c8,t8),(b5,c5,t5),(b4,c4,t4)]:=by
 have g12:=h.ge _ (List.mem_of_getElem? (i:=0) rfl);have g10:=h.ge _ (List.mem_of_getElem? (i:=1) rfl);refine⟨h.keep.trans' kp (fun _ _ h=>h) fun i hi e=>?_,fun x hx=>?_,h.nd,fun x hx=>?_,fun x hx e=>?_⟩
 ·rcases e with e|e|e
  ·exact(hB0 i e).elim id fun e=>absurd hi (by omega)
  ·subst e;exact absurd hi (by have:=g10;dsimp only at this;omega)
  ·subst e;exact absurd hi (by have:=g12;dsimp only at this;omega)
 ·simp only[List.mem_cons,List.not_mem_nil,or_false] at hx
  rcases hx with rfl|rfl|rfl|rfl|rfl|rfl
  ·exact g12
  ·exact g10
  ·exact h.ge _ (List.mem_of_getElem? (i:=2) rfl)
  ·exact h.ge _ (List.mem_of_getElem? (i:=3) rfl)
  ·exact h.ge _ (List.mem_of_getElem? (i:=4) rfl)
  ·exact h.ge _ (List.mem_of_getElem? (i:=5) rfl)
 ·simp only[List.mem_cons,List.not_mem_nil,or_false] at hx
  rcases hx with rfl|rfl|rfl|rfl|rfl|rfl
  ·exact h12
  ·exact h10
  ·exact kp.blk (h.b 2) fun e'=>e'.elim (h.ap _ (List.mem_of_getElem? (i:=2) rfl)) fun e=>e.elim (fun e=>bK (i:=1) h.nd rfl 2 (by decide) rfl e) fun e=>bK (i:=0) h.nd rfl 2 (by decide) rfl e
  ·exact kp.blk (h.b 3) fun e'=>e'.elim (h.ap _ (List.mem_of_getElem? (i:=3) rfl)) fun e=>e.elim (fun e=>bK (i:=1) h.nd rfl 3 (by decide) rfl e) fun e=>bK (i:=0) h.nd rfl 3 (by decide) rfl e
  ·exact kp.blk (h.b 4) fun e'=>e'.elim (h.ap _ (List.mem_of_getElem? (i:=4) rfl)) fun e=>e.elim (fun e=>bK (i:=1) h.nd rfl 4 (by decide) rfl e) fun e=>bK (i:=0) h.nd rfl 4 (by decide) rfl e
  ·exact kp.blk (h.b 5) fun e'=>e'.elim (h.ap _ (List.mem_of_getElem? (i:=5) rfl)) fun e=>e.elim (fun e=>bK (i:=1) h.nd rfl 5 (by decide) rfl e) fun e=>bK (i:=0) h.nd rfl 5 (by decide) rfl e
 ·have ap:∀(i:Nat) (x:Nat×Array Value×TypeId),([(b12,c12,t12),(b10,c10,t10),(b9,c9,t9),(b8,c8,t8),(b5,c5,t5),(b4,c4,t4)]:List (Nat×Array Value×TypeId))[i]?=some x->¬B' x.1:=fun i x hx e =>
   (hB' _ e).elim (h.ap _ (List.mem_of_getElem? hx)) fun e2=>by have:=lt_of_block (h.b i (b:=x.1) (cs:=x.2.1) (t:=x.2.2) hx);omega
  simp only[List.mem_cons,List.not_mem_nil,or_false] at hx;rcases hx with rfl|rfl|rfl|rfl|rfl|rfl
  ·exact ap 0 _ rfl e
  ·exact ap 1 _ rfl e
  ·exact ap 2 _ rfl e
  ·exact ap 3 _ rfl e
  ·exact ap 4 _ rfl e
  ·exact ap 5 _ rfl e
theorem bQ.keepT{T:Nat->Prop}{w w':World}{B:Nat->Prop}{vs:Nat->Value}{ps:Nat->Pt}(h:bQ w B vs ps)(k:aA T w w')(hT:∀q,q<4->∀i,(vs q).ownBlock=some i->¬T i):bQ w' B vs ps:=fun q hq=>(h q hq).keepT k (hT q hq)
theorem bQ.upd{w:World}{B:Nat->Prop}{vs:Nat->Value}{k:Nat->Tr}(h:bQ w B vs (fun i=>(k i).ptr)){d:Nat}{v:Value}{u:Tr}(hv:aL w B v u.ptr):bQ w B (fC vs d v) (fun i=>(eK k d u i).ptr):=fun q hq=>by
 show aL w B (fC vs d v q) (eK k d u q).ptr
 by_cases e:q=d
 ·subst e;rw[lU,jO];exact hv
 ·rw[lV _ _ e,jP _ _ e];exact h q hq
theorem Cl.onT{T:Nat->Prop}{w w1 w2:World}{B B':Nat->Prop}(h:Cl w w1 B B')(k:aA T w1 w2)(hT:∀i,B' i->¬T i):Cl w w2 B B':=fun i hi=>(h i hi).imp (fun c=>c.keep k (hT i hi)) id
theorem bA.upon{w wd W0 W W':World}{c:Nat}{B B0 B':Nat->Prop}{U:Nat->Prop}{v v0:Value}{r:Option Tr}{T:Kor}{e:Ending}
 (he:e=.returned (.tuple #[.agg (aJ v (dM r)).toArray,.int .i64 (eL r)])) (hv:aL W' B' v (dM r)) (hK:KI W' c T B') (hn:v=v0\/eE w v)
 (hB0:∀i,B0 i->B i\/w.heap.size≤i) (hB':∀i,B' i->B0 i\/W0.heap.size≤i) (h0:aA aB w wd) (hc0:Cl wd W0 B B0) (hc:∀i,B' i->IsC W' i\/i<W0.heap.size/\B0 i/\¬IsC W0 i)
 (k0:aA B w W0) (k1:aA U W0 W') (hU:∀i,U i->B0 i\/w.heap.size≤i):bA w c B v0 r T e W':=
 ⟨v,B',he,hv,hK,fun i h=>(hB' i h).elim (hB0 i) fun e=>.inr (Nat.le_trans k0.size e),((Cl.refl w wd B h0).trans hc0).trans fun i h=>(hc i h).imp id fun h=>h.2,hn,k0.trans' k1 (fun _ _ h=>h) fun i hi h=>(hU i h).elim (fun h=>(hB0 i h).elim id fun h=>absurd hi (by omega)) fun h=>absurd hi (by omega)⟩
def sec(b:UInt8):List UInt8:=List.replicate 256 b
theorem eN(b:UInt8):(sec b).length=256:=List.length_replicate
theorem Ct:sec 0=zB:=rfl
theorem DM{a b:UInt8}(h:sec a=sec b):a=b:=by
 have:=congrArg (fun l=>l.getD 0 0) h
 simpa [sec] using this
theorem Lg(a b:UInt8):sec a=sec b↔a=b:=⟨DM,fun h=>by rw[h]⟩
def iA(t:Tr)(bl:Nat->UInt8):Prop:=∀i,i<64->t.blk 3 i=sec (bl i)
theorem iA.hole:iA .hole fun _=>0:=fun i _=>Tr.blk_hole 3 i
theorem zE{S:Kor}{t:Tr}(hb:S.Bd)(ht:Tr.Ok S 3 t){n:Nat}(hn:n<64){b:List UInt8}(hl:b.length=256){r:Option Tr}{T:Kor}(h:oU S t n b=(r,T)) :
 Beh S T/\∀u,r=some u->Tr.Ok T 3 u/\∀i,i<64->u.blk 3 i=if i=n then b else t.blk 3 i:=by
 unfold oU at h
 by_cases c:t.blk 3 n=b
 ·rw[if_pos c] at h
  injection h with h1 h2
  subst h1 h2;refine⟨Beh.refl hb,fun u hu=>?_⟩;cases hu
  refine⟨ht,fun i _=>?_⟩
  by_cases e:i=n
  ·rw[if_pos e,e];exact c
  ·rw[if_neg e]
 ·rw[if_neg c] at h
  obtain⟨h1,h2⟩:=yT hl n (Nat.le_refl 3) hb ht h;refine⟨h1,fun u hu=>?_⟩;obtain⟨h3,h4,-⟩:=h2 u hu;refine⟨h3,fun i hi=>?_⟩;rw[h4,show (4:Nat) ^ 3=64 from rfl,Nat.mod_eq_of_lt hi,Nat.mod_eq_of_lt hn]
theorem xR{S:Kor}{t:Tr}{n:Nat}{b:List UInt8}{N:Nat}(h:S.room (N+4))(hz:b≠zB)(hn:t.blk 3 n≠b):∃u T,oU S t n b=(some u,T)/\T.room N/\u.isHole=false:=by
 unfold oU;rw[if_neg hn];exact Af hz n 3 t h
theorem tQ{S:Kor}{t:Tr}{n:Nat}{b:List UInt8}(h:t.blk 3 n=b):oU S t n b=(some t,S):=by
 unfold oU;rw[if_pos h]
theorem iA.set{t u:Tr}{bl:Nat->UInt8}(h:iA t bl){n:Nat}{b:UInt8}(hu:∀i,i<64->u.blk 3 i=if i=n then sec b else t.blk 3 i):iA u fun i=>if i=n then b else bl i:=fun i hi=>by
 rw[hu i hi];show _=sec (if i=n then b else bl i)
 by_cases e:i=n
 ·rw[if_pos e,if_pos e]
 ·rw[if_neg e,if_neg e,h i hi]
theorem Ky{S:Kor}{t:Tr}(hb:S.Bd)(ht:Tr.Ok S 3 t){f g:Nat}{r:Option Tr}{T:Kor}(h:cU 3 S t (f:Int) (g:Int)=(r,T)) :
 Beh S T/\∀u,r=some u->Tr.Ok T 3 u/\∀i,i<64->u.blk 3 i=if f≤i/\i<g then zB else t.blk 3 i:=by
 obtain⟨h1,h2⟩:=tY (Nat.le_refl 3) hb ht h;refine⟨h1,fun u hu=>?_⟩;obtain⟨h3,h4,-⟩:=h2 u hu;refine⟨h3,fun i hi=>?_⟩;rw[h4,show (4:Nat) ^ 3=64 from rfl,Nat.mod_eq_of_lt hi]
 by_cases e:f≤i/\i<g
 ·rw[if_pos e,if_pos (by omega)]
 ·rw[if_neg e,if_neg (by omega)]
theorem iA.cut{t u:Tr}{bl:Nat->UInt8}(h:iA t bl){f g:Nat}(hu:∀i,i<64->u.blk 3 i=if f≤i/\i<g then zB else t.blk 3 i):iA u fun i=>if f≤i/\i<g then 0 else bl i:=fun i hi=>by
 rw[hu i hi];show _=sec (if f≤i/\i<g then 0 else bl i)
 by_cases e:f≤i/\i<g
 ·rw[if_pos e,if_pos e];rfl
 ·rw[if_neg e,if_neg e,h i hi]
theorem iA.ext{S T:Kor}{t:Tr}{bl:Nat->UInt8}(h:iA t bl):iA t bl:=h
def Lh(bl:Nat->UInt8)(k:Nat):Nat:=((List.range k).filter fun i=>decide (bl i≠0)).length
theorem iA.many{S:Kor}{t:Tr}{bl:Nat->UInt8}(h:iA t bl)(ht:Tr.Ok S 3 t):t.many 3=Lh bl 64:=by
 rw[←ht.many_eq];unfold Tr.cnt Lh;rw[ht.blocks_eq,List.countP_map,List.countP_eq_length_filter]
 congr 1
 refine List.filter_congr fun i hi=>?_
 have hi:i<64:=List.mem_range.1 hi;show decide (t.blk 3 i≠zB)=decide (bl i≠0);rw[h i hi,←Ct];exact decide_eq_decide.2 (not_congr (Lg _ _))
theorem GY(f:Nat->Value)(d n c s l:Int):Tryz.prog.built 222 [(0,.agg ((List.range 32).map f).toArray),(1,.int .i64 d),(2,.int .i64 n),(3,.int .i64 c),(4,.int .i64 s),(5,.int .i64 l)]=some ((List.range 32).map f++([.int .i64 d,.int .i64 n,.int .i64 c,.int .i64 s,.int .i64 l]:List Value)).toArray:=by kernel_rfl
theorem GZ(L:Lab)(h:L.pool.length=32)(w:World):(Instr.build 222 #[(0,.agg (L.pool.map vb).toArray),(1,.int .i64 L.dev),(2,.int .i64 L.devs),(3,.int .i64 L.copies),(4,.int .i64 L.sectors),(5,.int .i64 L.life)]).run Tryz.prog w=.ok (.agg L.cells.toArray) w:=by
 refine run_build w 222 _ _ ?_;unfold Lab.cells Lab.nums;rw[DE (L.pool.map vb) (by rw[List.length_map,h])];exact GY _ _ _ _ _ _
def gT(b:List UInt8)(Mm:Nat->Nat->List UInt8)(d:Nat):Nat->Nat->Nat->List UInt8
 | 0=>Mm
 | k+1=>iH (gT b Mm d k) d k (if k=0 then b else zB)
theorem G0(b:List UInt8)(Mm:Nat->Nat->List UInt8)(d:Nat):iH Mm d 0 b=gT b Mm d 1:=rfl
theorem E5(b:List UInt8)(Mm:Nat->Nat->List UInt8)(d:Nat){k:Nat}(hk:0<k):iH (gT b Mm d k) d k zB=gT b Mm d (k+1):=by
 show _=iH (gT b Mm d k) d k (if k=0 then b else zB);rw[if_neg (by omega)]
theorem xS(b:List UInt8)(Mm:Nat->Nat->List UInt8)(d:Nat):∀k,0<k->gT b Mm d k d 0=b
 | 1,_=>by show iH Mm d 0 b d 0=b;unfold iH;rw[if_pos ⟨rfl,rfl⟩]
 | k+2,_=>by
   show iH (gT b Mm d (k+1)) d (k+1) _ d 0=b;unfold iH;rw[if_neg (by omega)];exact xS b Mm d (k+1) (by omega)
theorem uX(b:List UInt8)(Mm:Nat->Nat->List UInt8)(d:Nat){e s:Nat}(h:e≠d):∀k,gT b Mm d k e s=Mm e s
 | 0=>rfl
 | k+1=>by
   show iH (gT b Mm d k) d k _ e s=_;unfold iH;rw[if_neg (by omega)];exact uX b Mm d h k
def Cu(w:World)(a:Nat)(B:Nat->Prop)(D Z:Nat)(Mm:Nat->Nat->List UInt8)(nw d:Nat)(b:List UInt8)(k:Nat)(w':World):Prop:=
 ∃B',bP w' a B' D Z (gT b Mm d k) (nw+k)/\(∀i,B' i->B i\/w.heap.size≤i)/\aA B w w'
theorem Cu.next{w w1 w2:World}{a D Z nw d k:Nat}{B B':Nat->Prop}{Mm:Nat->Nat->List UInt8}{b b':List UInt8}(hB:∀i,B' i->B i\/w.heap.size≤i)(hk:aA B w w1){e:Ending}(h:mS w1 a B' D Z (gT b Mm d k) (nw+k) d k b' e w2)(hb:iH (gT b Mm d k) d k b'=gT b Mm d (k+1)):Cu w a B D Z Mm nw d b (k+1) w2:=by
 obtain⟨-,B2,h1,h2,h3⟩:=h;rw[hb] at h1;refine⟨B2,h1,fun i hi=>?_,hk.trans' h3 (fun _ _ h=>h) fun i hi e=>?_⟩
 ·rcases h2 i hi with h|h
  ·exact hB i h
  ·exact .inr (Nat.le_trans hk.size h)
 ·rcases hB i e with h|h
  ·exact h
  ·omega
def Cv(w:World)(a:Nat)(B:Nat->Prop)(D Z:Nat)(Mm:Nat->Nat->List UInt8)(nw d:Nat)(b:List UInt8)(e:Ending)(w':World):Prop:=
 e=.returned (.int .i64 0)/\∃B' nw',bP w' a B' D Z (gT b Mm d 5) nw'/\nw'≤nw+5/\(∀k,B' k->B k\/w.heap.size≤k)/\aA B w w'
theorem Ja{w:World}{c a m:Nat}{pid:List UInt8}{cp:Nat}{lv gv:Value}{t:Int}(h:bB w c a m pid cp lv gv t){D Z nw:Nat}{B:Nat->Prop}{Mm:Nat->Nat->List UInt8}(ha:bP w a B D Z Mm nw){d:Nat}(hd:d<D)(hcB:¬B c)(hcp:1≤cp/\cp≤3/\cp≤D)(hn:nw<1000000):Calls Tryz.prog 109 #[.pointer (some ⟨c,0,none⟩),.int .i64 (d:Int),.int .i64 0] w (Cv w a B D Z Mm nw d (dX (dE pid d D cp Z))):=by
 have hbd:=ha.bd;have HM:Hid ((dE pid d D cp Z).may=true):=H' (rN hd hbd hcp.1 hcp.2.1 hcp.2.2);have HPID:=H' h.idl;have hpl:(pid.map vb).length=32:=by rw[List.length_map];exact h.idl
 have HBL:=H' (fun w=>GZ (dE pid d D cp Z) h.idl w);have HPL:=H' (tM (dE pid d D cp Z) h.idl HM.out);obtain⟨b,hbe⟩:∃b,dX (dE pid d D cp Z)=b:=⟨_,rfl⟩
 obtain⟨lc,hlc⟩:∃l,(dE pid d D cp Z).cells=l:=⟨_,rfl⟩
 have HLC:=H' hlc;have HBE:=H' hbe;rw[hbe] at HPL ⊢;rw[hlc] at HBL;have HC:=H' h;have HA:=H' ha;have HD:=H' hd;have HCB:=H' hcB;have HA0:=HA;have HC0:=HC;have HL:=H' (Loc.nil aB aB w);have hZ5:8≤Z:=hbd.2.2.1;clear h ha hbe hlc hbd hcB;go_enter Tryz.func109,Tryz.ntmps109;go_wp2_with fail;obtain⟨S,hS0⟩:∃S:World->Prop,S=fun w'=>aA aB w.drew w':=⟨_,rfl⟩
 have HSE:=H' (show ∀w',S w'->aA aB w.drew w' from fun w' h=>by rw[hS0] at h;exact h);have HSI:=H' (show ∀w',aA aB w.drew w'->S w' from fun w' h=>by rw[hS0];exact h);have hS:S w.drew:=by rw[hS0];exact aA.refl _ _
 have hkd:=(aA.refl aB w).drew;clear hS0;refine wp_region_held (S:=S) (by kernel_rfl) ?_;change wpAnyH _ _ _ _ _ _ _ _ w.drew;generalize w.drew=w1 at HSE HSI hS hkd ⊢;replace HL:=H' (HL.out.keeps hkd);replace HC:=H' (HC.out.keep0 hkd);replace HA:=H' (HA.out.keep0 hkd);clear hkd;have HLs:=HL;have HCs:=HC;have HAs:=HA;refine tna 0 (.pointer (some ⟨c,0,none⟩)) rfl hS ?_;refine tnb 1 (.pointer (some ⟨c,0,none⟩)) rfl hS ?_;refine tnb 2 (.pointer (some ⟨c,2,none⟩)) rfl hS ?_;refine tnd 3 (.agg (pid.map vb).toArray) rfl (yieldsIf_load_mid (by rfl) 24 (.tmp 14) rfl c 2 rfl (pid.map vb) _ (fun w' h=>(HSE.out w' h).rangeAt (bB.id_ HCs.out)) Tryz.underlying24 rfl (by rw[hpl];exact vP)) hS ?_;refine tna 4 (.int .i64 (d:Int)) rfl hS ?_;refine tna 5 (.pointer (some ⟨c,0,none⟩)) rfl hS ?_;refine tnb 6 (.pointer (some ⟨c,0,none⟩)) rfl hS ?_;refine tnb 7 (.pointer (some ⟨c,0,none⟩)) rfl hS ?_;refine tnd 8 (.pointer (some ⟨a,0,none⟩)) rfl (.inl ⟨by rfl,fun w' hw'=>by have c:World.cell? w' ⟨c,0,none⟩=some (.pointer (some ⟨a,0,none⟩)):=(HSE.out w' hw').cell (bB.c0 HCs.out) id;go_simp⟩) hS ?_;refine tna 10 (.pointer (some ⟨c,0,none⟩)) rfl hS ?_;refine tnb 11 (.pointer (some ⟨c,0,none⟩)) rfl hS ?_;refine tnb 12 (.pointer (some ⟨c,34,none⟩)) rfl hS ?_;refine tnd 13 (.int .i64 (cp:Int)) rfl (.inl ⟨by rfl,fun w' hw'=>by have c:World.cell? w' ⟨c,34,none⟩=some (.int .i64 (cp:Int)):=(HSE.out w' hw').cell (bB.cp_ HCs.out) id;go_simp⟩) hS ?_;refine tna 14 (.pointer (some ⟨c,0,none⟩)) rfl hS ?_;refine tnb 15 (.pointer (some ⟨c,0,none⟩)) rfl hS ?_;refine tnb 16 (.pointer (some ⟨c,0,none⟩)) rfl hS ?_;refine tnd 17 (.pointer (some ⟨a,0,none⟩)) rfl (.inl ⟨by rfl,fun w' hw'=>by have c:World.cell? w' ⟨c,0,none⟩=some (.pointer (some ⟨a,0,none⟩)):=(HSE.out w' hw').cell (bB.c0 HCs.out) id;go_simp⟩) hS ?_;refine tna 19 (.int .i64 0) rfl hS ?_;refine aF (k:=9) rfl (by kernel_rfl) ?_;go_wp2_with fail;refine(jZ HA.out).mono ?_;rintro e w2 ⟨rfl,hk⟩;have hS1:=HSI.out _ ((HSE.out _ hS).trans hk);replace HL:=H' (HL.out.keeps hk);replace HC:=H' (HC.out.keep0 hk);replace HA:=H' (HA.out.keep0 hk);clear hS hk;go_wp2_with fail;refine⟨hS1,?_⟩;refine aF (k:=18) rfl (by kernel_rfl) ?_;go_wp2_with fail;refine(tH HA.out).mono ?_;rintro e w3 ⟨rfl,hk⟩;have hS2:=HSI.out _ ((HSE.out _ hS1).trans hk);replace HL:=H' (HL.out.keeps hk);replace HC:=H' (HC.out.keep0 hk);replace HA:=H' (HA.out.keep0 hk);clear hS1 hk;go_wp2_with fail;refine⟨hS2,?_⟩;refine tnd 20 (.agg lc.toArray) rfl (fT 222 #[(0,.tmp 15),(1,.tmp 16),(2,.tmp 21),(3,.tmp 25),(4,.tmp 30),(5,.tmp 31)] [(0,.agg (pid.map vb).toArray),(1,.int .i64 (d:Int)),(2,.int .i64 (D:Int)),(3,.int .i64 (cp:Int)),(4,.int .i64 (Z:Int)),(5,.int .i64 0)] (.agg lc.toArray) HBL.out) hS2 ?_;refine aF (k:=21) rfl (by kernel_rfl) ?_;go_wp2_with fail;have HS33:=H' HL.out.keep.size;refine((by rw[←HLC.out];exact Cf (dE pid d D cp Z) HPID.out w3:Calls _ _ _ w3 (Ce w3 (dE pid d D cp Z)))).mono ?_;rintro e w4 ⟨v1,rfl,ho,hk⟩;rw[HM.out,if_pos rfl];rw[HBE.out,HPL.out] at ho;obtain⟨la,lc2,rfl,-,-⟩:=(Rd.of_owns ho).form;have HO:=H' ho;clear ho;have hS3:=HSI.out _ ((HSE.out _ hS2).trans hk);replace HL:=H' (HL.out.keeps hk);replace HC:=H' (HC.out.keep0 hk);replace HA:=H' (HA.out.keep0 hk);clear hS2 hk;go_wp2_with fail;refine⟨hS3,?_⟩;refine tna 22 (.tuple #[.slice la 256 lc2,.int .i64 0]) rfl hS3 ?_;refine tnb 23 (.slice la 256 lc2) rfl hS3 ?_;refine tnb 24 (.int .i64 0) rfl hS3 ?_;refine tna 25 (.slice la 256 lc2) rfl hS3 ?_;refine tna 26 (.int .i64 0) rfl hS3 ?_;refine wpAnyH_done (by kernel_rfl) ?_ _;clear hS3 HSE HSI HLs HCs HAs;go_wp2_with fail;have HSZ:=H' HL.out.keep;have HOB:Hid (∀i,(Value.slice la 256 lc2).ownBlock=some i->¬B i):=H' (fun i hi e=>by have h1:=bH HO.out hi;have h2:=HA0.out.lt e;have h3:=HS33.out;omega);clear HL
 go_loopw [7,39] (fun u i wr=>∃k:Nat,k≤5/\i=.int .i64 k/\(∃ua un uc,u=.slice ua un uc/\((k=0/\la=ua/\256=un/\lc2=uc)\/0<k))/\Hid (Cu w a B D Z Mm nw d b k wr)/\Hid (k=0->aA aB w4 wr)) (fun _ i _=>5-(intOf i).toNat)
 case atStart=>exact⟨0,by omega,rfl,⟨_,_,_,rfl,.inl ⟨rfl,rfl,rfl,rfl⟩⟩,H' ⟨B,HA.out,fun i h=>.inl h,HSZ.out.any⟩,H' fun _=>aA.refl _ _⟩
 case round =>
  obtain⟨k,hk,rfl,⟨ua,un,uc,rfl,hu⟩,HI,HK0⟩:=hrel;obtain⟨B2,ha2,hB2,hkw⟩:=HI.out;have HA2:=H' ha2;have HB2:=H' hB2;have HKW:=H' hkw;have HC2:=H' (HC0.out.keep hkw HCB.out);have HAL:=H' (fun i (e:B2 i)=>ha2.lt e);clear ha2 hB2 hkw HI
  by_cases hk8:k<5
  ·have hk0:(0:Int)≤(k:Int):=by omega
   have hk1:(k:Int)<5:=by omega
   have HL:=H' (Loc.nil aB aB wr);rcases hu with⟨rfl,rfl,rfl,rfl⟩|hz0
   ·clear HA2 HB2 HKW HAL
    have HA2:=H' (HA.out.keep0 (HK0.out rfl));have HB2:Hid (∀i,B i->B i\/w.heap.size≤i):=H' (fun i h=>.inl h);have HKW:Hid (aA B w wr):=H' (HSZ.out.trans (HK0.out rfl)).any;have HAL:=H' (fun i (e:B i)=>HA2.out.lt e);have HO2:=H' ((HK0.out rfl).owns HO.out fun _ _=>id);have c1:wr.cell? ⟨c,0,none⟩=some (.pointer (some ⟨a,0,none⟩)):=(bB.c0 HC2.out)
    go_wp2_with fail;clear c1;refine(rK (s:=0) HA2.out HD.out (by omega) b HPL.out (.slice la 256 lc2) (Rd.of_owns HO2.out) HOB.out (by omega)).mono ?_;rintro e w5 hm;have HE:=H' (Cu.next HB2.out (HKW.out.trans HL.out.keep.any) hm (G0 b Mm d));obtain⟨rfl,-⟩:=hm;clear HL HC2 HA2 HB2 HKW HAL;go_wp2_with fail
    go_roundw
    case rel=>exact⟨0+1,by omega,by go_num,⟨_,_,_,rfl,.inr (by omega)⟩,HE,H' fun h=>by omega⟩
    case measure=>simp[intOf]
   ·have hz1:(0:Int)<(k:Int):=by omega
    go_wp2_with (first
     | ((with_reducible show WL (some 44) (.makeSlice _ _ _));refine mkz (.const (.int .i64 256)) (.const (.int .i64 256)) ?_))
    intro b44 w5 hbs hk hb;replace HL:=H' (HL.out.new (fun _ h=>h.elim) hbs hk hb);replace HC2:=H' (HC2.out.keep0 hk);replace HA2:=H' (HA2.out.keep0 hk);clear hbs hk hb;have c1:w5.cell? ⟨c,0,none⟩=some (.pointer (some ⟨a,0,none⟩)):=(bB.c0 HC2.out)
    go_wp2_with fail;clear c1;refine(rK (s:=k) HA2.out HD.out (by omega) zB rfl (.slice (some ⟨b44,0,none⟩) 256 256) (Rd.of_owns (lT (base:=0) (HL.out.b 0) rfl (Nat.zero_le _))) (fun i hi e=>by have h8:=HAL.out _ e;have h9:=(HL.out.lt 0).1;have h7:i=b44:=(by cases hi;rfl);omega) (by omega)).mono ?_;rintro e w6 hm;have HE:=H' (Cu.next HB2.out (HKW.out.trans HL.out.keep.any) hm (E5 b Mm d hz0));obtain⟨rfl,-⟩:=hm;clear HL HC2 HA2 HB2 HKW HAL;go_wp2_with fail
    go_roundw
    case rel=>exact⟨k+1,by omega,by go_num,⟨_,_,_,rfl,.inr (by omega)⟩,HE,H' fun h=>by omega⟩
    case measure=>simp[intOf];omega
  ·obtain rfl:k=5:=by omega
   clear hu;have HL:=H' (Loc.nil aB aB wr);have c1:wr.cell? ⟨c,0,none⟩=some (.pointer (some ⟨a,0,none⟩)):=(bB.c0 HC2.out)
   go_wp2_with fail;clear c1;refine(EA HA2.out HD.out (by omega)).mono ?_;rintro e w5 ⟨rfl,B3,nw3,ha3,hn3,hB3,hk3⟩;have HP:Hid (Cv w a B D Z Mm nw d b (.returned (.int .i64 0)) w5):=H' ⟨rfl,B3,nw3,ha3,hn3,fun i hi=>(hB3 i hi).elim (HB2.out i) (fun h=>.inr (Nat.le_trans (HKW.out.trans HL.out.keep.any).size h)),(HKW.out.trans HL.out.keep.any).trans' hk3 (fun _ _ h=>h) (fun i hi e=>(HB2.out i e).elim id fun h=>by omega)⟩;clear ha3 hn3 hB3 hk3 HL HC2 HA2 HB2 HKW HAL;go_wp2_with fail;go_ret;exact HP.out
theorem Li{w:World}{D Z:Nat}(hb:2≤D/\D≤8/\8≤Z/\Z≤4096)(v:Value)(hr:Rd w 2 v 0 []):Calls Tryz.prog 146 #[.int .i64 (D:Int),.int .i64 (Z:Int),v] w (fun e w'=>∃g b2 lc,e=.returned (.tuple #[.pointer (some ⟨g,0,none⟩),.int .i64 0])/\cW w' w.heap.size g b2 lc D Z []/\aA aB w w'):=by
 refine(E6 w (D:Int) (Z:Int) v [] hr).mono fun e w' h=>?_
 have hB:rU (D:Int) (Z:Int) []=true:=by unfold rU;simp;omega
 unfold oC at h;rw[if_pos hB] at h;exact h
def E7(w:World)(D Z:Nat)(e:Ending)(w':World):Prop:=∃g b2 lc,e=.returned (.tuple #[.pointer (some ⟨g,0,none⟩),.int .i64 0])/\cW w' w.heap.size g b2 lc D Z []/\aA aB w w'
def AD(w:World)(c a m:Nat)(pid:List UInt8)(cp:Nat)(lv:Value)(t:Int)(D Z:Nat)(e:Ending)(w':World):Prop:=
 e=.returned (.tuple #[])/\∃g b2 lc,bB w' c a m pid cp lv (.pointer (some ⟨g,0,none⟩)) t/\cW w' 0 g b2 lc D Z []/\(∀k,Own g b2 lc D k->w.heap.size≤k)/\aA (fun k=>k=c) w w'
theorem Lj(a m:Nat)(pid:List UInt8)(hp:pid.length=32)(cp:Nat)(lv gv gv':Value)(t:Int):spl (gE a m pid cp lv gv t).toArray 36 [gv']=(gE a m pid cp lv gv' t).toArray:=by
 have h:=lW (.pointer (some ⟨a,0,none⟩)::.pointer (some ⟨m,0,none⟩)::(pid.map vb++[.int .i64 (cp:Int),lv])) [gv] [gv'] (.slice none 0 0::.slice none 0 0::lQ t) rfl;have hl:(.pointer (some ⟨a,0,none⟩)::.pointer (some ⟨m,0,none⟩)::(pid.map vb++[.int .i64 (cp:Int),lv])).length=36:=by simp[hp]
 rw[hl] at h;unfold gE
 simpa [List.append_assoc] using h
theorem Lk(a m:Nat)(pid:List UInt8)(hp:pid.length=32)(cp:Nat)(lv lv' gv:Value)(t:Int):spl (gE a m pid cp lv gv t).toArray 35 [lv']=(gE a m pid cp lv' gv t).toArray:=by
 have h:=lW (.pointer (some ⟨a,0,none⟩)::.pointer (some ⟨m,0,none⟩)::(pid.map vb++[.int .i64 (cp:Int)])) [lv] [lv'] (gv::.slice none 0 0::.slice none 0 0::lQ t) rfl;have hl:(.pointer (some ⟨a,0,none⟩)::.pointer (some ⟨m,0,none⟩)::(pid.map vb++[.int .i64 (cp:Int)])).length=35:=by simp[hp]
 rw[hl] at h;unfold gE
 simpa [List.append_assoc] using h
def jV(w:World)(c a m:Nat)(pid:List UInt8)(cp:Nat)(lv:Value)(t:Int):Prop:=∃gv,bB w c a m pid cp lv gv t
theorem jV.keep0{w w':World}{c a m:Nat}{pid:List UInt8}{cp:Nat}{lv:Value}{t:Int}(h:jV w c a m pid cp lv t)(k:aA aB w w'):jV w' c a m pid cp lv t:=h.imp fun _ h=>h.keep0 k
theorem jV.c0{w:World}{c a m:Nat}{pid:List UInt8}{cp:Nat}{lv:Value}{t:Int}(h:jV w c a m pid cp lv t):w.cell? ⟨c,0,none⟩=some (.pointer (some ⟨a,0,none⟩)):=h.elim fun _ h=>h.c0
theorem jV.old_{w:World}{c a m:Nat}{pid:List UInt8}{cp:Nat}{lv:Value}{t:Int}(h:jV w c a m pid cp lv t):w.cell? ⟨c,37,none⟩=some (.slice none 0 0):=h.elim fun _ h=>h.old_
theorem jV.live_{w:World}{c a m:Nat}{pid:List UInt8}{cp:Nat}{lv:Value}{t:Int}(h:jV w c a m pid cp lv t):w.cell? ⟨c,38,none⟩=some (.slice none 0 0):=h.elim fun _ h=>h.live_
theorem cW.low{w:World}{lo lo' g b2 D Z:Nat}{lc:Nat->Option Nat}{L:List Ad}(h:cW w lo g b2 lc D Z L)(h2:lo'≤lo):cW w lo' g b2 lc D Z L:=⟨h.top,h.words,h.chans,h.inj,h.bd,Nat.le_trans h2 h.lo.1,Nat.le_trans h2 h.lo.2.1,fun d k hd hk=>Nat.le_trans h2 (h.lo.2.2 d k hd hk)⟩
theorem G2{w:World}{c a m:Nat}{pid:List UInt8}{cp:Nat}{lv gv:Value}{t:Int}(h:bB w c a m pid cp lv gv t){D Z nw:Nat}{B:Nat->Prop}{Mm:Nat->Nat->List UInt8}(ha:bP w a B D Z Mm nw)(hcB:¬B c):Calls Tryz.prog 110 #[.pointer (some ⟨c,0,none⟩)] w (AD w c a m pid cp lv t D Z):=by
 have hbd:=ha.bd;have HBD:=H' hbd;have HPID:=H' h.idl;have HCLT:=H' (lt_of_block h.top);have HC:=H' h;have HA:=H' ha;have HL:=H' (Loc.nil aB aB w);have HCB:Hid (∀i,i=c->¬B i):=H' fun i e=>e▸hcB
 clear h ha hbd hcB;go_enter Tryz.func110,Tryz.ntmps110;go_wp2_with fail;obtain⟨S,hS0⟩:∃S:World->Prop,S=fun w'=>aA (fun k=>k=c) w.drew w'/\jV w' c a m pid cp lv t:=⟨_,rfl⟩
 have HSE:=H' (show ∀w',S w'->aA (fun k=>k=c) w.drew w'/\jV w' c a m pid cp lv t from fun w' h=>by rw[hS0] at h;exact h);have HSI:=H' (show ∀w',aA (fun k=>k=c) w.drew w'/\jV w' c a m pid cp lv t->S w' from fun w' h=>by rw[hS0];exact h);have hS:S w.drew:=by rw[hS0];exact⟨aA.refl _ _,_,HC.out.keep0 (aA.refl aB w).drew⟩
 have hkd:=(aA.refl aB w).drew;clear hS0;refine wp_region_held (S:=S) (by kernel_rfl) ?_;change wpAnyH _ _ _ _ _ _ _ _ w.drew;generalize w.drew=w1 at HSE HSI hS hkd ⊢;replace HL:=H' (HL.out.keeps hkd);replace HC:=H' (HC.out.keep0 hkd);replace HA:=H' (HA.out.keep0 hkd);clear hkd;have HLs:=HL;have HCs:=HC;have HAs:=HA;refine tna 0 (.pointer (some ⟨c,0,none⟩)) rfl hS ?_;refine tna 1 (.pointer (some ⟨c,0,none⟩)) rfl hS ?_;refine tnb 2 (.pointer (some ⟨c,0,none⟩)) rfl hS ?_;refine tnb 3 (.pointer (some ⟨c,0,none⟩)) rfl hS ?_;refine tnd 4 (.pointer (some ⟨a,0,none⟩)) rfl (.inl ⟨by rfl,fun w' hw'=>by have c:World.cell? w' ⟨c,0,none⟩=some (.pointer (some ⟨a,0,none⟩)):=jV.c0 (HSE.out w' hw').2;go_simp⟩) hS ?_;refine tna 6 (.pointer (some ⟨c,0,none⟩)) rfl hS ?_;refine tnb 7 (.pointer (some ⟨c,0,none⟩)) rfl hS ?_;refine tnb 8 (.pointer (some ⟨c,0,none⟩)) rfl hS ?_;refine tnd 9 (.pointer (some ⟨a,0,none⟩)) rfl (.inl ⟨by rfl,fun w' hw'=>by have c:World.cell? w' ⟨c,0,none⟩=some (.pointer (some ⟨a,0,none⟩)):=jV.c0 (HSE.out w' hw').2;go_simp⟩) hS ?_;refine tna 11 (.pointer (some ⟨c,0,none⟩)) rfl hS ?_;refine tnb 12 (.pointer (some ⟨c,0,none⟩)) rfl hS ?_;refine tnb 13 (.pointer (some ⟨c,37,none⟩)) rfl hS ?_;refine tnd 14 (.slice none 0 0) rfl (.inl ⟨by rfl,fun w' hw'=>by have c:World.cell? w' ⟨c,37,none⟩=some (.slice none 0 0):=jV.old_ (HSE.out w' hw').2;go_simp⟩) hS ?_;refine tna 15 (.pointer (some ⟨c,0,none⟩)) rfl hS ?_;refine tnb 16 (.pointer (some ⟨c,0,none⟩)) rfl hS ?_;refine tnb 17 (.pointer (some ⟨c,38,none⟩)) rfl hS ?_;refine tnd 18 (.slice none 0 0) rfl (.inl ⟨by rfl,fun w' hw'=>by have c:World.cell? w' ⟨c,38,none⟩=some (.slice none 0 0):=jV.live_ (HSE.out w' hw').2;go_simp⟩) hS ?_;refine aF (k:=5) rfl (by kernel_rfl) ?_;go_wp2_with fail;refine(jZ HA.out).mono ?_;rintro e w2 ⟨rfl,hk⟩;have hS1:=HSI.out _ ⟨(HSE.out _ hS).1.trans hk.any,(HSE.out _ hS).2.keep0 hk⟩;replace HL:=H' (HL.out.keeps hk);replace HC:=H' (HC.out.keep0 hk);replace HA:=H' (HA.out.keep0 hk);clear hS hk;go_wp2_with fail;refine⟨hS1,?_⟩;refine aF (k:=10) rfl (by kernel_rfl) ?_;go_wp2_with fail;refine(tH HA.out).mono ?_;rintro e w3 ⟨rfl,hk⟩;have hS2:=HSI.out _ ⟨(HSE.out _ hS1).1.trans hk.any,(HSE.out _ hS1).2.keep0 hk⟩;replace HL:=H' (HL.out.keeps hk);replace HC:=H' (HC.out.keep0 hk);replace HA:=H' (HA.out.keep0 hk);clear hS1 hk;go_wp2_with fail;refine⟨hS2,?_⟩;refine aF (k:=19) rfl (by kernel_rfl) ?_;go_wp2_with fail;refine(G1 w3 (.slice none 0 0) (.slice none 0 0) [] [] (fun x hx=>by cases hx) (fun x hx=>by cases hx) (Rd.nil _ _) (Rd.nil _ _) (by decide)).mono ?_;rintro e w4 ⟨v1,rfl,ho,hk⟩;have e0:(mA ([]++[]:List Ad))=[]:=List.eq_nil_iff_forall_not_mem.2 (fun x hx=>by rw[zQ] at hx;cases hx);rw[e0] at ho;obtain⟨ua,uc,hv1,-,-⟩:=(Rd.of_owns ho).form;have hv2:v1=.slice ua 0 uc:=hv1;clear hv1 e0;subst hv2;have HO:=H' ho;clear ho;have hS3:=HSI.out _ ⟨(HSE.out _ hS2).1.trans hk.any,(HSE.out _ hS2).2.keep0 hk⟩;replace HL:=H' (HL.out.keeps hk);replace HC:=H' (HC.out.keep0 hk);replace HA:=H' (HA.out.keep0 hk);clear hS2 hk;go_wp2_with fail;refine⟨hS3,?_⟩;refine aF (k:=20) rfl (by kernel_rfl) ?_;go_wp2_with fail;have HWS:=H' HL.out.keep.size;refine((Li HBD.out _ (Rd.of_owns HO.out):Calls _ _ _ w4 (E7 w4 D Z))).mono ?_;rintro e w5 ⟨g,b2,lc,rfl,hled,hk⟩;have HLE:=H' hled;have HW0:=H' (lt_of_block HC.out.top);clear hled;have hS4:=HSI.out _ ⟨(HSE.out _ hS3).1.trans hk.any,(HSE.out _ hS3).2.keep0 hk⟩;replace HL:=H' (HL.out.keeps hk);replace HC:=H' (HC.out.keep0 hk);replace HA:=H' (HA.out.keep0 hk);replace HO:=H' (hk.owns HO.out fun _ _=>id);clear hS3 hk;go_wp2_with fail;refine⟨hS4,?_⟩;refine tna 21 (.tuple #[.pointer (some ⟨g,0,none⟩),.int .i64 0]) rfl hS4 ?_;refine tnb 22 (.pointer (some ⟨g,0,none⟩)) rfl hS4 ?_;refine tnb 23 (.int .i64 0) rfl hS4 ?_;refine tnb 24 (.pointer (some ⟨c,0,none⟩)) rfl hS4 ?_;refine tnb 25 (.pointer (some ⟨c,36,none⟩)) rfl hS4 ?_;refine aF (k:=26) rfl (by kernel_rfl) ?_;refine sta 40 (.tmp 27) (.tmp 24) c 36 [.pointer (some ⟨g,0,none⟩)] HC.out.top (by rw[List.size_toArray,xM HPID.out];simp) (by kernel_rfl) (by intro v hv;simp only[List.mem_cons,List.not_mem_nil,or_false] at hv;subst hv;rfl) ?_;intro w6 hk hb;rw[Lj _ _ _ HPID.out] at hb;have hS5:S w6:=HSI.out _ ⟨(HSE.out _ hS4).1.trans hk,_,hb,HPID.out⟩;have HLX:Hid (∀i,i=c->¬Own g b2 lc D i):=H' (by rintro i rfl e;have:=(HLE.out.own_lt e).1;have:=HCLT.out;have:=HWS.out;omega);have HP:Hid (AD w c a m pid cp lv t D Z (.returned (.tuple #[])) w6):=H' ⟨rfl,g,b2,lc,⟨hb,HPID.out⟩,(HLE.out.keep hk HLX.out).low (Nat.zero_le _),fun k e=>by have:=(HLE.out.own_lt e).1;have:=HWS.out;omega,HL.out.keep.any.trans hk⟩;clear hS4 hk hb;refine wpList_nil ?_;refine⟨hS5,?_⟩;refine wpAnyH_done (by kernel_rfl) ?_ _;clear hS5 HSE HSI HLs HCs HAs;clear HC HA HL HO HLE;go_wp2_with fail
 go_end0
 exact HP.out
theorem mkD(w:World)(D:Nat)(h:D≤8):(Instr.makeSlice 39 (.int .i64 (D:Int)) (.int .i64 (D:Int))).run Tryz.prog w=.ok (.slice (some ⟨w.heap.size,0,none⟩) D D) (w.alloc (.cells (Array.replicate D (Value.int .i64 0)) 3)):=by
 rcases D with _|_|_|_|_|_|_|_|_|D
 ·kernel_rfl
 ·kernel_rfl
 ·kernel_rfl
 ·kernel_rfl
 ·kernel_rfl
 ·kernel_rfl
 ·kernel_rfl
 ·kernel_rfl
 ·kernel_rfl
 ·omega
theorem mkd{w:World}{ops:Array Oper}{rest:List Oper}{o:Oper}{a:Act}{Q:Exit->Act->World->Prop}(x y:Operand)(D:Nat)(h8:D≤8)(h:∀b w',w.heap.size=b->aA aB w w'->w'.heap[b]?=some (.cells (Array.replicate D (Value.int .i64 0)) 3 (0,0))->wpList Tryz.prog ops Q rest (a.put o.dst (.slice (some ⟨b,0,none⟩) D D)) w')(hx:a.eval x=.int .i64 (D:Int):=by rfl)(hy:a.eval y=.int .i64 (D:Int):=by rfl)(hg:o.guard=none:=by rfl)(ho:o.op=.makeSlice 39 x y:=by rfl):wpList Tryz.prog ops Q (o::rest) a w:=by
 refine wpList_plain hg fun K hK=>?_
 unfold Oper.wp execOp;simp only[ho,hx,hy,Sem.run_bind,mkD w D h8,Result.andThen_ok];exact hK _ _ (h _ _ rfl ((aA.refl _ _).alloc _) (heap_alloc_new _ _))
def Cw(P:Nat->List UInt8)(Mm:Nat->Nat->List UInt8):Nat->Nat->Nat->List UInt8
 | 0=>Mm
 | k+1=>gT (P k) (Cw P Mm k) k 5
theorem AE(P:Nat->List UInt8)(Mm:Nat->Nat->List UInt8):∀(k d:Nat),d<k->Cw P Mm k d 0=P d
 | 0,d,h=>by omega
 | k+1,d,h=>by
   show gT (P k) (Cw P Mm k) k 5 d 0=P d
   by_cases e:d=k
   ·subst e;exact xS _ _ _ 5 (by decide)
   ·rw[uX _ _ _ e];exact AE P Mm k d (by omega)
def DvI(w:World)(a:Nat)(B:Nat->Prop)(D Z:Nat)(P:Nat->List UInt8)(Mm:Nat->Nat->List UInt8)(nw k:Nat)(w':World):Prop:=
 ∃B' nw',bP w' a B' D Z (Cw P Mm k) nw'/\nw'≤nw+5*k/\(∀i,B' i->B i\/w.heap.size≤i)/\aA B w w'
def pX(w:World)(B:Nat->Prop)(D Z cp:Nat)(e:Ending)(w':World):Prop:=
 ∃c M B',e=.returned (.tuple #[.pointer (some ⟨c,0,none⟩),.int .i64 0])/\KI w' c ⟨D,Z,cp,[],M,0⟩ B'/\(∀k,B' k->B k\/w.heap.size≤k)/\aA B w w'
theorem De{w:World}{a:Nat}{D Z nw:Nat}{B:Nat->Prop}{Mm:Nat->Nat->List UInt8}(ha:bP w a B D Z Mm nw)(pid:List UInt8)(hpid:pid.length=32)(cp:Nat)(hcp:1≤cp/\cp≤3/\cp≤D)(hn:nw≤1000):Calls Tryz.prog 62 #[.pointer (some ⟨a,0,none⟩),.agg (pid.map vb).toArray,.int .i64 (cp:Int)] w (pX w B D Z cp):=by
 have hbd:=ha.bd;have HBD:=H' hbd;have hpl:(pid.map vb).length=32:=by rw[List.length_map];exact hpid
 have HPID:=H' hpid;have HCP:=H' hcp;have HLT:=H' (fun i (e:B i)=>ha.lt e);have HA:=H' ha;have HL:=H' (Loc.nil aB aB w);have hD0:¬((D:Int)=0):=by omega
 have hc0:¬((cp:Int)<1):=by omega
 have hc3:¬((3:Int)<(cp:Int)):=by omega
 have hcD:¬((D:Int)<(cp:Int)):=by omega
 clear ha hpid;go_enter Tryz.func62,Tryz.ntmps62
 go_wp2_with (first
  | ((with_reducible show WL (some 3) (.box 37 _));refine bx 37 (.tmp 0) (#[.pointer (some ⟨a,0,none⟩)]) ?_))
 intro b3 w1 hbs hk hb;replace HL:=H' (HL.out.new (fun _ h=>h.elim) hbs hk hb);replace HA:=H' (HA.out.keep0 hk);clear hbs hk hb
 go_wp2_with (first
  | ((with_reducible show WL (some 4) (.box 24 _));refine bx 24 (.tmp 1) ((pid.map vb).toArray) ?_))
 intro b4 w2 hbs hk hb;replace HL:=H' (HL.out.new (fun _ h=>h.elim) hbs hk hb);replace HA:=H' (HA.out.keep0 hk);clear hbs hk hb;have c1:w2.cell? ⟨b3,0,none⟩=some (.pointer (some ⟨a,0,none⟩)):=(aD (i:=0) (HL.out.b 1) rfl)
 go_wp2_with fail;clear c1;refine(jZ HA.out).mono ?_;rintro e w3 ⟨rfl,hk⟩;replace HL:=H' (HL.out.keeps hk);replace HA:=H' (HA.out.keep0 hk);clear hk;have c1:w3.cell? ⟨b3,0,none⟩=some (.pointer (some ⟨a,0,none⟩)):=(aD (i:=0) (HL.out.b 1) rfl)
 go_wp2_with fail;clear c1;refine(jZ HA.out).mono ?_;rintro e w4 ⟨rfl,hk⟩;replace HL:=H' (HL.out.keeps hk);replace HA:=H' (HA.out.keep0 hk);clear hk;have c1:w4.cell? ⟨b3,0,none⟩=some (.pointer (some ⟨a,0,none⟩)):=(aD (i:=0) (HL.out.b 1) rfl)
 go_wp2_with fail;clear c1;refine(Am HA.out).mono ?_;rintro e w5 ⟨rfl,hk⟩;replace HL:=H' (HL.out.keeps hk);replace HA:=H' (HA.out.keep0 hk);clear hk;have c1:w5.cell? ⟨b3,0,none⟩=some (.pointer (some ⟨a,0,none⟩)):=(aD (i:=0) (HL.out.b 1) rfl)
 go_wp2_with (first
  | ((with_reducible show WL (some 34) (.load 24 _));refine wpList_load_mid rfl 24 (.tmp 4) rfl b4 0 rfl (pid.map vb) _ (aC (HL.out.b 0)) Tryz.underlying24 rfl (by rw[hpl];exact vP) ?_))
 clear c1;have HSZ:=H' HL.out.keep.size;refine(IY HA.out pid HPID.out cp).mono ?_;rintro e w6 ⟨c,m,rfl,hc,hm,hcg,hmg,hmc,hk⟩;have HC:=H' hc;have HM:=H' hm;have HCG:=H' (And.intro (Nat.le_trans HSZ.out hcg) (Nat.le_trans HSZ.out hmg));have HMC:=H' hmc;clear hc hm hcg hmg hmc;replace HL:=H' (HL.out.keeps hk);replace HA:=H' (HA.out.keep0 hk);clear hk;go_wp2_with fail;have HS38:=H' HL.out.keep.size;refine(Ap HC.out HA.out).mono ?_;rintro e w7 ⟨v1,rfl,ho,hk⟩;obtain⟨va,vc,rfl,-,-⟩:=(Rd.of_owns ho).form;have HO:=H' ho;clear ho;replace HL:=H' (HL.out.keeps hk);replace HA:=H' (HA.out.keep0 hk);replace HC:=H' (HC.out.keep0 hk);replace HM:=H' (hk.blk HM.out id);clear hk;go_wp2_with fail;refine(C8 w7 (.slice va D vc) ((List.range D).map fun(i:Nat)=>(i:Int)) (by rw[List.length_map,List.length_range,List.map_map];exact Rd.of_owns HO.out) (by rw[List.length_map,List.length_range];omega) 107 b3 (enters_of Tryz.func107 (by kernel_rfl) rfl) (fun x hx w' k=>by obtain⟨i,hi,rfl⟩:=List.mem_map.1 hx;have hi:=List.mem_range.1 hi;exact C7 (HA.out.keep0 k) (k.blk (HL.out.b 1) id) (i:Int) (by omega) (by omega))).mono ?_;rintro e w8 ⟨rfl,hk⟩;replace HL:=H' (HL.out.keeps hk);replace HA:=H' (HA.out.keep0 hk);replace HC:=H' (HC.out.keep0 hk);replace HM:=H' (hk.blk HM.out id);replace HO:=H' (hk.owns HO.out fun _ _=>id);clear hk;have HNV:Hid (∀i,(Value.slice va D vc).ownBlock=some i->w.heap.size≤i):=H' (fun i hi=>by have:=bH HO.out hi;have:=HS38.out;omega);go_wp2_with fail;have HNB:=H' (fun i (h:w.heap.size≤i) (e:B i)=>show False from by have:=HLT.out i e;omega);have HB3:=H' (HL.out.b 1);have H3G:=H' (HL.out.lt 1).1;have HKW:=H' HL.out.keep;have HCLT:=H' (lt_of_block HC.out.top);have HMLT:=H' (lt_of_block HM.out);obtain⟨W0,hW0⟩:∃W0,w8=W0:=⟨_,rfl⟩
 rw[hW0] at HC HM HA HO HB3 HKW HCLT HMLT ⊢;clear HL hW0;have hx0:=HLT
 go_loopw [46] (fun i wr=>∃k:Nat,k≤D/\i=.int .i64 k/\Hid (DvI W0 a B D Z (fun d=>dX (dE pid d D cp Z)) Mm nw k wr)) (fun i _=>D-(intOf i).toNat)
 case atStart=>exact⟨0,by omega,rfl,H' ⟨B,nw,HA.out,by omega,fun i h=>.inl h,aA.refl _ _⟩⟩
 case round =>
  obtain⟨k,hk,rfl,HI⟩:=hrel;obtain⟨B2,nw2,ha2,hn2,hB2,hkw⟩:=HI.out;have HA2:=H' ha2;have HN2:=H' hn2;have HB2:=H' hB2;have HK2:=H' hkw;have HC2:=H' (HC.out.keep hkw (HNB.out _ HCG.out.1));have HM2:Hid (eS wr m a):=H' (hkw.blk HM.out (HNB.out _ HCG.out.2));have HO2:=H' (hkw.owns HO.out fun i hi=>HNB.out _ (HNV.out i hi));have HB32:=H' (hkw.blk HB3.out (HNB.out _ H3G.out));have HCB2:Hid (¬B2 c/\¬B2 m):=H' ⟨fun e=>(hB2 c e).elim (HNB.out _ HCG.out.1) fun h=>by have:=HCLT.out;omega,fun e=>(hB2 m e).elim (HNB.out _ HCG.out.2) fun h=>by have:=HMLT.out;omega⟩;clear ha2 hn2 hB2 hkw HI
  by_cases hk8:k<D
  ·have hk0:(0:Int)≤(k:Int):=by omega
   have hk1:(k:Int)<(D:Int):=by omega
   obtain⟨g,o,cap',hv,hat⟩:=A9 (Rd.of_owns HO2.out) (vV hk8)
   have hvc:(k:Int)<(vc:Int):=by
    obtain⟨_,a',c',h1,h2,h3,-⟩:=Rd.of_owns HO2.out;cases h1;omega
   have HV9:=H' hv;obtain rfl:va=some ⟨g,o,none⟩:=by cases hv;rfl
   have HX:=H' hat;clear hv hat;have c1:wr.cell? ⟨g,o+k,none⟩=some (.int .i64 (k:Int)):=HX.out;go_wp2_with fail;clear c1;refine(Ja HC2.out HA2.out hk8 HCB2.out.1 HCP.out (by have:=HN2.out;omega)).mono ?_;rintro e w5 ⟨rfl,B3,nw3,ha3,hn3,hB3,hk3⟩;have HE:Hid (DvI W0 a B D Z (fun d=>dX (dE pid d D cp Z)) Mm nw (k+1) w5):=H' ⟨B3,nw3,ha3,by have:=HN2.out;omega,fun i hi=>(hB3 i hi).elim (HB2.out i) (fun h=>.inr (Nat.le_trans HK2.out.size h)),HK2.out.trans' hk3 (fun _ _ h=>h) (fun i hi e=>(HB2.out i e).elim id fun h=>by omega)⟩;clear ha3 hn3 hB3 hk3 HC2 HM2 HO2 HB32 HA2 HB2 HK2 HX;go_wp2_with fail
   go_roundw
   case rel=>exact⟨k+1,by omega,by go_num,HE⟩
   case measure=>simp[intOf];omega
  ·obtain rfl:D=k:=by omega
   have HL:=H' (Loc.nil aB aB wr);have HAL:=H' (fun i (e:B2 i)=>HA2.out.lt e);have hD8:D≤8:=HBD.out.2.1;have c1:wr.cell? ⟨b3,0,none⟩=some (.pointer (some ⟨a,0,none⟩)):=(aD (i:=0) HB32.out rfl)
   go_wp2_with fail;clear c1;refine(jZ HA2.out).mono ?_;rintro e we ⟨rfl,hk⟩;replace HL:=H' (HL.out.keeps hk);replace HA2:=H' (HA2.out.keep0 hk);replace HC2:=H' (HC2.out.keep0 hk);replace HM2:=H' (hk.blk HM2.out id);replace HB32:=H' (hk.blk HB32.out id);clear hk
   go_wp2_with (first
    | ((with_reducible show WL (some 60) (.makeSlice _ _ _));refine mkd (.tmp 59) (.tmp 59) D hD8 ?_))
   intro b60 wf hbs hk hb;replace HL:=H' (HL.out.new (fun _ h=>h.elim) hbs hk hb);replace HA2:=H' (HA2.out.keep0 hk);replace HC2:=H' (HC2.out.keep0 hk);replace HM2:=H' (hk.blk HM2.out id);replace HB32:=H' (hk.blk HB32.out id);clear hbs hk hb;have HKA:=H' HL.out.keep;have HBL:=H' (HL.out.b 0);have HLG:=H' (HL.out.lt 0).1
   go_wp2_with (first
    | ((with_reducible show WL _ (.store 39 _ _));refine sta 39 (.tmp 62) (.tmp 60) c 35 [.slice (some ⟨b60,0,none⟩) D D] HC2.out.top (by rw[List.size_toArray,xM HPID.out];simp) (by kernel_rfl) (by intro v hv;simp only[List.mem_cons,List.not_mem_nil,or_false] at hv;subst hv;rfl) ?_))
   intro w8 hk hb;rw[Lk _ _ _ HPID.out] at hb;have HC4:Hid (bB w8 c a m pid cp (.slice (some ⟨b60,0,none⟩) D D) (.pointer none) 0):=H' ⟨hb,HPID.out⟩;have HCW:=H' (And.intro HCLT.out HK2.out.size);have HL8:=H' (hk.blk HBL.out (fun e=>by have:=HLG.out;have:=HCW.out;omega));replace HA2:=H' (HA2.out.keep hk (by rintro i rfl;exact HCB2.out.1));replace HM2:Hid (eS w8 m a):=H' (hk.blk HM2.out (fun e=>by have:=HMC.out;omega));have HK8:Hid (aA (fun i=>i=c) wr w8):=H' (HKA.out.any.trans hk);clear hk hb HL HC2 HB32 HKA HBL;go_wp2_with fail;refine(G2 HC4.out HA2.out HCB2.out.1).mono ?_;rintro e w9 ⟨rfl,g,b2,lc,hc5,hled,hlo,hk⟩
   have HP:Hid (pX w B D Z cp (.returned (.tuple #[.pointer (some ⟨c,0,none⟩),.int .i64 0])) w9):=by
    refine H' ⟨c,Cw (fun d=>dX (dE pid d D cp Z)) Mm D,_,rfl,⟨⟨HBD.out.1,HBD.out.2.1,HBD.out.2.2.1,HBD.out.2.2.2,HCP.out.1,HCP.out.2.1,HCP.out.2.2,(by show (0:Int)≤0;decide),(by show (0:Int)<2147483648;decide)⟩,a,m,b60,g,b2,lc,pid,B2,nw2,⟨⟨hc5,HA2.out.keep hk (by rintro i rfl;exact HCB2.out.1),hk.blk HM2.out (fun e=>by have:=HMC.out;omega),hk.blk HL8.out (fun e=>by have:=HLG.out;have:=HCW.out;omega),HCP.out,fun d hd=>AE _ _ _ _ hd⟩,hled,fun k e=>?_,?_,?_⟩,rfl⟩,?_,?_⟩
    ·have h1:=hlo k e
     have h2:=HK8.out.size;have h3:=HCW.out;have h4:=HMC.out;have h5:=lt_of_block HL8.out;refine⟨fun e2=>?_,by omega,by omega,by omega⟩;have:=HA2.out.lt e2;omega
    ·exact⟨HCB2.out.1,HCB2.out.2,fun e=>by have:=HAL.out _ e;have:=HLG.out;omega⟩
    ·have h1:=FG [] D Z
     have h2:D*Z≤8*4096:=Nat.mul_le_mul hD8 HBD.out.2.2.2;have:=HN2.out;show nw2+jB (bX [] D Z)≤40000;omega
    ·rintro k (rfl|rfl|rfl|e|e)
     ·exact .inr HCG.out.1
     ·exact .inr HCG.out.2
     ·exact .inr (by have:=HLG.out;have:=HK2.out.size;have:=HKW.out.size;omega)
     ·exact(HB2.out k e).imp id fun h=>Nat.le_trans HKW.out.size h
     ·exact .inr (by have:=hlo k e;have:=HK8.out.size;have:=HK2.out.size;have:=HKW.out.size;omega)
    ·have k1:aA B w wr:=HKW.out.any.trans HK2.out
     have k2:aA (fun i=>i=c) wr w9:=HK8.out.trans hk;exact k1.trans' k2 (fun _ _ h=>h) (fun i hi e=>by have:=HCG.out.1;omega)
   clear hc5 hled hlo hk HC4 HA2 HM2 HL8;go_wp2_with fail
   go_ret2
   exact HP.out
def ofC(x:UInt8)(k:Nat):List Value:=(List.range 256).map fun i=>if i<k then vb x else .int .u8 0
theorem qQ(x:UInt8)(k:Nat):(ofC x k).length=256:=by unfold ofC;simp
theorem Je(x:UInt8):ofC x 0=dD:=by
 rw[show dD=List.replicate 256 (.int .u8 0) from rfl];refine List.eq_replicate_iff.2 ⟨qQ x 0,fun v hv=>?_⟩;unfold ofC at hv;obtain⟨i,-,rfl⟩:=List.mem_map.1 hv;exact if_neg (by omega)
theorem Jf(x:UInt8):ofC x 256=(sec x).map vb:=by
 unfold ofC sec;rw[List.map_replicate];refine List.eq_replicate_iff.2 ⟨by simp,fun v hv=>?_⟩;obtain⟨i,hi,rfl⟩:=List.mem_map.1 hv;exact if_pos (List.mem_range.1 hi)
theorem KA(x:UInt8)(k:Nat)(hk:k<256):spl (ofC x k).toArray k [vb x]=(ofC x (k+1)).toArray:=by
 show (ofC x k).toArray.setIfInBounds k (vb x)=_;rw[List.setIfInBounds_toArray]
 congr 1
 refine List.ext_getElem (by rw[List.length_set,qQ,qQ]) fun i h1 h2=>?_
 rw[List.getElem_set];have q:∀j h,(ofC x j)[i]'h=if i<j then vb x else .int .u8 0:=fun j h=>by simp[ofC]
 rw[q,q]
 by_cases e:k=i
 ·subst e;rw[if_pos rfl,if_pos (by omega)]
 ·rw[if_neg e]
  by_cases d:i<k
  ·rw[if_pos d,if_pos (by omega)]
  ·rw[if_neg d,if_neg (by omega)]
def lY(w:World)(x:UInt8)(e:Ending)(w':World):Prop:=∃v,e=.returned v/\w'.ownsRow w.heap.size 5 1 v 256 ((sec x).map vb)/\aA aB w w'
def Cx(w:World)(Z:Nat)(e:Ending)(w':World):Prop:=∃c M B,e=.returned (.pointer (some ⟨c,0,none⟩))/\KI w' c ⟨2,Z,2,[],M,0⟩ B/\(∀k,B k->w.heap.size≤k)/\aA aB w w'
theorem jQ{w:World}{base:Nat}{B:Nat->Prop}{v:Value}{xs:List Value}(ho:w.ownsRow base 5 1 v 256 xs)(hB:∀i,B i->i<base):∀i,v.ownBlock=some i->¬B i/\i<w.heap.size:=fun i hi =>
 ⟨fun e=>by have:=bH ho hi;have:=hB i e;omega,by obtain⟨cur,hc⟩:=aO ho hi;exact lt_of_block hc⟩
theorem xX{a b:UInt8}(h:a≠b):sec a≠sec b:=fun e=>h (DM e)
theorem oV{P:Program}{ops:Array Oper}{Q:Exit->Act->World->Prop}{id:Nat}{a:Act}{w:World}{α β γ δ:Type}(F:α->β->γ->δ->Act)(R:α->β->γ->δ->World->Prop)(h:(Code.region id ops true).wp P (fun x a w=>x=.normal/\∃p q r s,a=F p q r s/\R p q r s w) a w)(hR:∀p q r s w,R p q r s w->Q .normal (F p q r s) w):(Code.region id ops true).wp P Q a w:=
 wp_mono h fun e a w h=>by obtain⟨rfl,p,q,r,s,rfl,h2⟩:=h;exact hR p q r s w h2
theorem Cy{w:World}{c:Nat}{S:Kor}{B:Nat->Prop}(h:KI w c S B){N:Nat}(hN:S.room N)(n:Int)(hn:n=(N:Int)):Calls Tryz.prog 22 #[.pointer (some ⟨c,0,none⟩)] w (aM w (.tuple #[.int .i64 n,.int .i64 0])):=
 h.rooms.mono fun e w' h=>by obtain⟨M,h1,rfl,h2⟩:=h;rw[hn,hN.unique h1];exact⟨rfl,h2⟩
theorem Loc.turn2{S B L L':Nat->Prop}{w0 w w':World}{l:List (Nat×Array Value×TypeId)}(h:Loc S L w0 w l)(k:aA B w w')(hL:∀k,B k->L k)(hS:∀k,k<w0.heap.size->B k->S k)(hB:∀k,k<w.heap.size->L' k->L k):Loc S L' w0 w' l:=
 ⟨h.keep.trans' k (fun _ _ h=>h) hS,h.ge,h.nd,fun x hx=>k.blk (h.at_ x hx) (fun e=>h.ap x hx (hL _ e)),fun x hx hb=>h.ap x hx (hB _ (lt_of_block (h.at_ x hx)) hb)⟩
def E8(w:World)(e:Ending)(w':World):Prop:=e=.returned (.bool true)/\aA aB w w'
def LR(B:Nat->Prop)(rs:List (Value×Pt))(k:Nat):Prop:=B k\/∃r∈rs,r.1.ownBlock=some k
structure Cs(B0:Nat->Prop)(w0:World)(c:Nat)(S:Kor)(B:Nat->Prop)(rs:List (Value×Pt))(w:World)(l:List (Nat×Array Value×TypeId)):Prop where
 loc:Loc B0 (LR B rs) w0 w l
 ki:KI w c S B
 pv:∀r∈rs,aL w B r.1 r.2
 bb:∀i,B i->B0 i\/w0.heap.size≤i
section
variable {B0:Nat->Prop}{w0 w w':World}{c:Nat}{S T:Kor}{B B':Nat->Prop}{rs rs':List (Value×Pt)}{l:List (Nat×Array Value×TypeId)}
theorem Cs.lt_(h:Cs B0 w0 c S B rs w l){k:Nat}(hk:LR B rs k):k<w.heap.size:=by
 rcases hk with hk|⟨r,hr,hk⟩
 ·exact h.ki.lt hk
 ·exact((h.pv r hr).off k hk).2.lt
theorem Cs.keep(h:Cs B0 w0 c S B rs w l):aA B0 w0 w:=h.loc.keep
theorem Cs.b(h:Cs B0 w0 c S B rs w l)(i:Nat){b:Nat}{cs:Array Value}{t:TypeId}(hi:l[i]?=some (b,cs,t):=by rfl):w.heap[b]?=some (.cells cs t (0,0)):=h.loc.b i hi
theorem Cs.ne(h:Cs B0 w0 c S B rs w l)(i j:Nat){b b':Nat}{cs cs':Array Value}{t t':TypeId}(hij:j≠i:=by decide)(hi:l[i]?=some (b,cs,t):=by rfl)(hj:l[j]?=some (b',cs',t'):=by rfl):b'≠b:=bK h.loc.nd hi j hij hj
theorem Cs.keeps(h:Cs B0 w0 c S B rs w l)(k:aA aB w w'):Cs B0 w0 c S B rs w' l:=⟨h.loc.keeps k,h.ki.keep0 k,fun r hr=>(h.pv r hr).keep0 k,h.bb⟩
theorem Cs.new(h:Cs B0 w0 c S B rs w l){b:Nat}{cs:Array Value}{t:TypeId}(_:True)(hb:w.heap.size=b)(k:aA aB w w')(hn:w'.heap[b]?=some (.cells cs t (0,0))):Cs B0 w0 c S B rs w' ((b,cs,t)::l):=
 ⟨h.loc.new (fun _ e=>h.lt_ e) hb k hn,h.ki.keep0 k,fun r hr=>(h.pv r hr).keep0 k,h.bb⟩
theorem Cs.set(h:Cs B0 w0 c S B rs w l)(i:Nat){b:Nat}{cs cs':Array Value}{t:TypeId}(k:aA (fun k=>k=b) w w')(hn:w'.heap[b]?=some (.cells cs' t (0,0)))(hi:l[i]?=some (b,cs,t):=by rfl):Cs B0 w0 c S B rs w' (l.set i (b,cs',t)):=by
 have ha:=h.loc.ap _ (List.mem_of_getElem? hi);exact⟨h.loc.set i k hn hi,h.ki.keepT k (fun i e hq=>by subst e;exact ha (.inl hq)),fun r hr=>(h.pv r hr).keepT k (fun i hq e=>by subst e;exact ha (.inr ⟨r,hr,hq⟩)),h.bb⟩
theorem Cs.swap{x y:Nat×Array Value×TypeId}(h:Cs B0 w0 c S B rs w (x::y::l)):Cs B0 w0 c S B rs w (y::x::l):=by
 have hm:∀z,z∈y::x::l->z∈x::y::l:=fun z hz=>by
  rcases List.mem_cons.1 hz with h|hz
  ·exact List.mem_cons_of_mem _ (List.mem_cons.2 (.inl h))
  ·rcases List.mem_cons.1 hz with h|hz
   ·exact List.mem_cons.2 (.inl h)
   ·exact List.mem_cons_of_mem _ (List.mem_cons_of_mem _ hz)
 refine⟨⟨h.loc.keep,fun z hz=>h.loc.ge z (hm z hz),?_,fun z hz=>h.loc.at_ z (hm z hz),fun z hz=>h.loc.ap z (hm z hz)⟩,h.ki,h.pv,h.bb⟩;have:=h.loc.nd;simp only[List.map_cons,List.nodup_cons,List.mem_cons,not_or] at this ⊢;exact⟨⟨fun e=>this.1.1 e.symm,this.2.1⟩,this.1.2,this.2.2⟩
theorem Cs.tail{x:Nat×Array Value×TypeId}(h:Cs B0 w0 c S B rs w (x::l)):Cs B0 w0 c S B rs w l:=⟨h.loc.tail,h.ki,h.pv,h.bb⟩
theorem Cs.sub(h:Cs B0 w0 c S B rs w l)(hs:∀r∈rs',r∈rs):Cs B0 w0 c S B rs' w l:=
 ⟨⟨h.loc.keep,h.loc.ge,h.loc.nd,h.loc.at_,fun x hx hb=>h.loc.ap x hx (hb.imp id fun ⟨r,hr,e⟩=>⟨r,hs r hr,e⟩)⟩,h.ki,fun r hr=>h.pv r (hs r hr),h.bb⟩
theorem Cs.laid(h:Cs B0 w0 c S B rs w l){v:Value}{p:Pt}(hp:aL w' B' v p)(hk:KI w' c T B')(hb:∀k,B' k->B k\/w.heap.size≤k)(hn:eE w v)(k:aA B w w'):Cs B0 w0 c T B' ((v,p)::rs) w' l:=by
 refine⟨h.loc.turn2 k (fun _ e=>.inl e) (fun i hi e=>(h.bb i e).elim id fun e=>by omega) ?_,hk,?_,fun i e=>(hb i e).elim (h.bb i) fun e=>.inr (Nat.le_trans h.keep.size e)⟩
 ·rintro i hi (e|⟨r,hr,e⟩)
  ·exact(hb i e).elim .inl fun e=>by omega
  ·rcases List.mem_cons.1 hr with rfl|hr
   ·have:=hn i e;omega
   ·exact .inr ⟨r,hr,e⟩
 ·intro r hr
  rcases List.mem_cons.1 hr with rfl|hr
  ·exact hp
  ·exact(h.pv r hr).keep k hb
theorem Cs.start(h:KI w c S B):Cs B w c S B [] w []:=⟨Loc.nil _ _ w,h,(fun r hr=>by cases hr),fun _ e=>.inl e⟩
theorem Cs.start1(h:KI w c S B){v:Value}{p:Pt}(hp:aL w B v p):Cs B w c S B [(v,p)] w []:=⟨Loc.nil _ _ w,h,(fun r hr=>by cases List.mem_singleton.1 hr;exact hp),fun _ e=>.inl e⟩
theorem Cs.pv0{v:Value}{p:Pt}(h:Cs B0 w0 c S B rs w l)(i:Nat)(hi:rs[i]?=some (v,p):=by rfl):aL w B v p:=h.pv _ (List.mem_of_getElem? hi)
theorem Cs.fin{w2:World}(h:Cs B0 w0 c S B rs w l)(hB:∀k,B0 k->w2.heap.size≤k)(k:aA aB w2 w0):aA aB w2 w:=
 k.trans' h.keep (fun _ _ h=>h.elim) (fun i hi e=>by have:=hB i e;omega)
end
theorem nmP{w:World}{B:Nat->Prop}{v:Value}{p:Pt}(h:aL w B v p):∃c,Hid (aJ v p=c)/\c.length=35/\Hid (∀u∈c,u.oneCell'=true):=⟨_,H' rfl,aN h.pt.sum,H' (bC h.pt)⟩
theorem KI.few{w:World}{c:Nat}{S:Kor}{B:Nat->Prop}(h:KI w c S B){N:Nat}(hN:S.room N):N≤40000:=by
 obtain⟨hb,a,m,lb,g,b2,lc,pid,BA,nw,h1,-⟩:=h;have h2:=Hv hN (show 0<S.cp by have:=hb.c1;omega);have:=h1.many;omega
theorem iN{w:World}{v:Value}(h:v=.slice none 0 0\/eE w v):eE w v:=h.elim (fun e=>by rw[e];exact eE.nil w) id
structure Ds(SP:Nat->Prop)(wd:World)(B0:Nat->Prop)(w0:World)(c:Nat)(S:Kor)(B:Nat->Prop)(rs:List (Value×Pt))(w:World)(l:List (Nat×Array Value×TypeId)):Prop extends Cs B0 w0 c S B rs w l where
 dr:aA SP wd w
section
variable {SP:Nat->Prop}{wd:World}{B0:Nat->Prop}{w0 w w':World}{c:Nat}{Sk T:Kor}{B B':Nat->Prop}{rs rs':List (Value×Pt)}{l:List (Nat×Array Value×TypeId)}{P:Program}{ops:Array Oper}{o:Oper}{a:Act}{Q:Exit->Act->World->Prop}{md:Region.Mode}{S:World->Prop}{fuel:Nat}{L:Array Bool}
theorem Ds.keeps(h:Ds SP wd B0 w0 c Sk B rs w l)(k:aA aB w w'):Ds SP wd B0 w0 c Sk B rs w' l:=⟨h.toCs.keeps k,h.dr.trans k.any⟩
theorem Ds.laid(h:Ds SP wd B0 w0 c Sk B rs w l)(hSP:∀i,i<wd.heap.size->B i->SP i){v:Value}{p:Pt}(hp:aL w' B' v p)(hk:KI w' c T B')(hb:∀k,B' k->B k\/w.heap.size≤k)(hn:eE w v)(k:aA B w w'):Ds SP wd B0 w0 c T B' ((v,p)::rs) w' l:=
 ⟨h.toCs.laid hp hk hb hn k,h.dr.trans' k (fun _ _ e=>e) hSP⟩
theorem Ds.own(h:Ds B wd B0 w0 c Sk B rs wd l)(k:aA B wd w')(i:Nat){b:Nat}{cs:Array Value}{t:TypeId}(hi:l[i]?=some (b,cs,t):=by rfl):w'.heap[b]?=some (.cells cs t (0,0)):=k.blk (h.b i hi) fun e=>h.loc.ap _ (List.mem_of_getElem? hi) (.inl e)
theorem alD(HL:Hid (Ds SP wd B0 w0 c Sk B rs w l))(HSI:Hid (∀w',aA SP wd w'->S w'))(T:TypeId)(z:Value)(cs:Array Value)(hz:Hid (∀w,(zeroValue T).run P w=.ok z w))
 (h:∀b w',wd.heap.size≤b->aA aB w w'->Hid (Ds SP wd B0 w0 c Sk B rs w' ((b,cs,T)::l))->wpAnyH P md ops Q S fuel L (a.put o.dst (.pointer (some ⟨b,0,none⟩))) w')
 (hcs:z.cells=cs:=by rfl) (hg:o.guard=none:=by rfl) (ho:o.op=.alloc T:=by rfl):wpList P ops (Exit.then (fun a' w'=>S w'/\wpAnyH P md ops Q S fuel L a' w') Q) [o] a w:=
 al T z cs hz (fun b w' hbs hk hb=>wpList_nil ⟨HSI.out _ (HL.out.dr.trans hk.any),h b w' (by have:=HL.out.dr.size;omega) hk (H' ⟨HL.out.toCs.new trivial hbs hk hb,HL.out.dr.trans hk.any⟩)⟩) hcs hg ho
theorem stD(HL:Hid (Ds SP wd B0 w0 c Sk B rs w l))(HSI:Hid (∀w',aA SP wd w'->S w'))(i:Nat){b:Nat}{cs:Array Value}{t:TypeId}(hi:l[i]?=some (b,cs,t))(T:TypeId)(x y:Operand)(vs:List Value)(hb9:wd.heap.size≤b\/SP b)
 (hfit:vs.length=cs.size) (hs:(P.info? T).map (·.size)=some vs.length) (h1:∀v∈vs,v.oneCell'=true)
 (h:∀w',Hid (Ds SP wd B0 w0 c Sk B rs w' (l.set i (b,vs.toArray,t)))->wpAnyH P md ops Q S fuel L (a.put o.dst undef) w')
 (hx:a.eval x=.pointer (some ⟨b,0,none⟩):=by rfl) (hy:(a.eval y).cells=vs.toArray:=by rfl) (hg:o.guard=none:=by rfl) (ho:o.op=.store T x y:=by rfl):wpList P ops (Exit.then (fun a' w'=>S w'/\wpAnyH P md ops Q S fuel L a' w') Q) [o] a w:=
 sta T x y b 0 vs (HL.out.b i hi) (by omega) hs h1 (fun w' hk hb=>by
  rw[aK _ _ hfit] at hb;have hd:aA SP wd w':=HL.out.dr.trans' hk (fun _ _ h=>h) (fun j hj e=>hb9.elim (fun h=>by omega) (fun h=>by rw[e];exact h));exact wpList_nil ⟨HSI.out _ hd,h w' (H' ⟨HL.out.toCs.set i hk hb hi,hd⟩)⟩) hx hy hg ho
end
theorem Cz{P:Program}{ops:Array Oper}{Q:Exit->Act->World->Prop}{md:Region.Mode}{S:World->Prop}(k l m:Nat){o o' o'':Oper}{fuel:Nat}{listed:Array Bool}{a:Act}{w:World}(ho:ops[k]?=some o)(ho':ops[l]?=some o')(ho'':ops[m]?=some o'')(hr:Region.ready md ops listed=[k,l,m])
 (h:wpList P ops (Exit.then (fun a' w'=>S w'/\wpAnyH P md ops Q S fuel (listed.setIfInBounds k true) a' w') Q) [o] a w)
 (h':wpList P ops (Exit.then (fun a' w'=>S w'/\wpAnyH P md ops Q S fuel (listed.setIfInBounds l true) a' w') Q) [o'] a w)
 (h'':wpList P ops (Exit.then (fun a' w'=>S w'/\wpAnyH P md ops Q S fuel (listed.setIfInBounds m true) a' w') Q) [o''] a w):wpAnyH P md ops Q S (fuel+1) listed a w:=
 ⟨fun h1=>(by rw[hr] at h1;cases h1),fun j hj=>by
  rw[hr] at hj;have:j=k\/j=l\/j=m:=by simpa using hj
  rcases this with rfl|rfl|rfl
  ·exact fG ho h
  ·exact fG ho' h'
  ·exact fG ho'' h''⟩
def rV(a:Act):List Tmp->List Value->Act
 | d::ds,v::vs=>rV (a.put (some d) v) ds vs
 | _,_=>a
def LZ(ds:List Tmp)(R:List Value->World->Prop)(a:Act)(x:Exit)(a':Act)(w':World):Prop:=x=.normal/\∃vs,a'=rV a ds vs/\R vs w'
theorem Jg{P:Program}{C:Code}{Q:Exit->Act->World->Prop}{a:Act}{w:World}(ds:List Tmp)(R:List Value->World->Prop)(h:C.wp P (LZ ds R a) a w)(hR:∀vs w',R vs w'->Q .normal (rV a ds vs) w'):C.wp P Q a w:=
 wp_mono h fun e a w h=>by obtain⟨rfl,vs,rfl,h2⟩:=h;exact hR vs _ h2
theorem CA{P:Program}{ops:Array Oper}{Q:Exit->Act->World->Prop}{id:Nat}{a:Act}{w:World}{α β γ:Type}(F:α->β->γ->Act)(R:α->β->γ->World->Prop)(h:(Code.region id ops true).wp P (fun x a w=>x=.normal/\∃p q r,a=F p q r/\R p q r w) a w)(hR:∀p q r w,R p q r w->Q .normal (F p q r) w):(Code.region id ops true).wp P Q a w:=
 wp_mono h fun e a w h=>by obtain⟨rfl,p,q,r,rfl,h2⟩:=h;exact hR p q r w h2
theorem nY{P:Program}{ops:Array Oper}{Q:Exit->Act->World->Prop}{id:Nat}{a:Act}{B0:Nat->Prop}{w0 w:World}{c:Nat}{Sk:Kor}{B:Nat->Prop}{rs:List (Value×Pt)}{l:List (Nat×Array Value×TypeId)}(SP:Nat->Prop)(HL:Hid (Cs B0 w0 c Sk B rs w l))(hm:P.follows .mixedOrders=true)
 (h:∀wd (S:World->Prop),Hid (∀w',S w'->aA SP wd w')->Hid (∀w',aA SP wd w'->S w')->aA aB w wd->Hid (Ds SP wd B0 w0 c Sk B rs wd l)->wpAnyH P .any ops (yY Q) S ops.size (Array.replicate ops.size false) a wd):(Code.region id ops true).wp P Q a w:=by
 have hd:=(aA.refl aB w).drew;exact eU (S:=fun w'=>aA SP w.drew w') hm (h w.drew (fun w'=>aA SP w.drew w') (H' fun _ h=>h) (H' fun _ h=>h) hd (H' ⟨HL.out.keeps hd,aA.refl _ _⟩))
theorem ldD{P:Program}{ops:Array Oper}{S:World->Prop}{o:Oper}{a:Act}(ty:TypeId)(x:Operand)(b k:Nat)(cs:List Value)(d:TypeDesc)(hc:∀w,S w->w.rangeAt b k cs)(hu:P.underlying ty=some d)(hi:(P.info? ty).map (·.size)=some cs.length)(hw:Region.wanted o (yielded ops a.tmps)=true:=by rfl)
 (ho:o.op=.load ty x:=by rfl) (hx:a.eval x=.pointer (some ⟨b,k,none⟩):=by rfl) (hd:d.isRow=true:=by rfl):YieldsIf P ops S o (.agg cs.toArray) a:=
 yieldsIf_load_mid hw ty x ho b k hx cs d hc hu hd hi
theorem lC{P:Program}{fn:Func}{p q u v:Tmp}{ty uy:TypeId}(h:fn.results=#[.cell p ty,.cell q uy,.tmp u,.tmp v])(tmps:Array Value)(w:World)(g g2:Nat)(t t2:TypeId)(cs cs2:Array Value)(fr fr2:Nat×Nat)(d d2:TypeDesc)
 (hp:tmps.getD p undef=.pointer (some ⟨g,0,none⟩)) (hq:tmps.getD q undef=.pointer (some ⟨g2,0,none⟩)) (hg:w.heap[g]?=some (.cells cs t fr)) (hg2:w.heap[g2]?=some (.cells cs2 t2 fr2)) (hu:P.underlying ty=some d) (hd:(match d with|.struct _|.array _ _=>true|_=>false)=true) (hi:(P.info? ty).map (·.size)=some cs.size)
 (hu2:P.underlying uy=some d2) (hd2:(match d2 with|.struct _|.array _ _=>true|_=>false)=true) (hi2:(P.info? uy).map (·.size)=some cs2.size):(results fn tmps).run P w=.ok (.tuple #[.agg cs,.agg cs2,tmps.getD u undef,tmps.getD v undef]) w:=by
 simp only[Array.getD_eq_getD_getElem?] at hp hq ⊢;simp[results,h,hp,hq,asAddr,Sem.run_bind,Result.andThen,run_loadVar_row w g t ty cs fr d hg hu hd hi,run_loadVar_row w g2 t2 uy cs2 fr2 d2 hg2 hu2 hd2 hi2]
structure EdV where
 n:Int
 many:Int
 cut:Bool
 b:UInt8
def kO(x:EdV):List Value:=[.int .i64 x.n,.int .i64 x.many,.bool x.cut,vb x.b]
def Bb(l:List EdV):List Value:=l.flatMap kO
def EdV.fr(x:EdV):Nat:=(x.n % 64).toNat
def EdV.up(x:EdV):Nat:=min (x.fr+(x.many % 65).toNat) 64
theorem EdV.frLt(x:EdV):x.fr<64:=by
 unfold EdV.fr;have:=Int.emod_lt_of_pos x.n (show (0:Int)<64 by omega);have:=Int.emod_nonneg x.n (show (64:Int)≠0 by omega);omega
theorem EdV.frInt(x:EdV):x.n % 64=(x.fr:Int):=by
 unfold EdV.fr;have:=Int.emod_nonneg x.n (show (64:Int)≠0 by omega);omega
theorem EdV.upInt(x:EdV):min ((x.fr:Int)+x.many % 65) 64=(x.up:Int):=by
 unfold EdV.up;have:=Int.emod_nonneg x.many (show (65:Int)≠0 by omega);omega
theorem EdV.frUp(x:EdV):x.fr≤x.up/\x.up≤64:=by
 have:=x.frLt;unfold EdV.up;omega
def kD(bl:Nat->UInt8)(f g:Nat):Nat->UInt8:=fun i=>if f≤i/\i<g then 0 else bl i
def mG(bl:Nat->UInt8)(n:Nat)(b:UInt8):Nat->UInt8:=fun i=>if i=n then b else bl i
def edB(x:EdV)(bl:Nat->UInt8):Nat->UInt8:=if x.cut then kD bl x.fr x.up else mG bl x.fr x.b
def edR(S:Kor)(t:Tr)(x:EdV):Option Tr×Kor:=if x.cut then cU 3 S t (x.fr:Int) (x.up:Int) else oU S t x.fr (sec x.b)
theorem LK{S:Kor}{t:Tr}(hb:S.Bd)(ht:Tr.Ok S 3 t){bl:Nat->UInt8}(hB:iA t bl){x:EdV}{r:Option Tr}{T:Kor}(h:edR S t x=(r,T)) :
 Beh S T/\∀u,r=some u->Tr.Ok T 3 u/\iA u (edB x bl):=by
 unfold edR at h;unfold edB;cases hc:x.cut with
 | true =>
   rw[hc] at h;have q:=Ky hb ht h;exact⟨q.1,fun u hu=>⟨(q.2 u hu).1,hB.cut (q.2 u hu).2⟩⟩
 | false =>
   rw[hc] at h;have q:=zE hb ht x.frLt (eN x.b) h;exact⟨q.1,fun u hu=>⟨(q.2 u hu).1,hB.set (q.2 u hu).2⟩⟩
def blC(bl:Nat->UInt8):List Value:=(List.range 64).map fun i=>vb (bl i)
theorem jR(bl:Nat->UInt8):(blC bl).length=64:=by unfold blC;simp
theorem DN(bl:Nat->UInt8){i:Nat}(h:i<64):(blC bl)[i]?=some (vb (bl i)):=by
 unfold blC;rw[List.getElem?_map,List.getElem?_range h];rfl
theorem uA(bl:Nat->UInt8):∀u∈blC bl,u.oneCell'=true:=by
 intro u hu;unfold blC at hu;obtain⟨i,-,rfl⟩:=List.mem_map.1 hu;rfl
theorem DO(bl:Nat->UInt8){n:Nat}(hn:n<64)(b:UInt8):spl (blC bl).toArray n [vb b]=(blC (mG bl n b)).toArray:=by
 show (blC bl).toArray.setIfInBounds n (vb b)=_;rw[List.setIfInBounds_toArray]
 congr 1
 refine List.ext_getElem (by rw[List.length_set,jR,jR]) fun i h1 h2=>?_
 rw[List.getElem_set];have q:∀f h,(blC f)[i]'h=vb (f i):=fun f h=>by simp[blC]
 rw[q,q];unfold mG
 by_cases e:n=i
 ·rw[if_pos e,if_pos e.symm]
 ·rw[if_neg e,if_neg (fun h=>e h.symm)]
theorem KB(bl:Nat->UInt8)(f:Nat){k:Nat}(hfk:f≤k):mG (kD bl f k) k 0=kD bl f (k+1):=by
 funext i
 unfold mG kD
 by_cases e:i=k
 ·subst e;rw[if_pos rfl,if_pos ⟨hfk,by omega⟩]
 ·rw[if_neg e]
  by_cases h:f≤i/\i<k
  ·rw[if_pos h,if_pos ⟨h.1,by omega⟩]
  ·rw[if_neg h,if_neg (by omega)]
theorem tR(bl:Nat->UInt8)(f:Nat):kD bl f f=bl:=by
 funext i
 unfold kD;rw[if_neg (by omega)]
theorem Jh:blC (fun _=>0)=List.replicate 64 (vb 0):=by
 refine List.eq_replicate_iff.2 ⟨jR _,fun v hv=>?_⟩;unfold blC at hv;obtain⟨i,-,rfl⟩:=List.mem_map.1 hv;rfl
theorem gF(w:World)(x:UInt8):Calls Tryz.prog 23 #[vb x] w (lY w x):=by
 obtain⟨xv,hxv⟩:∃v,vb x=v:=⟨_,rfl⟩
 have HXV:=H' hxv;have hx1:xv.oneCell'=true:=by rw[←hxv];rfl
 have hxc:xv.cells=#[xv]:=by rw[←hxv];rfl
 rw[hxv];clear hxv;go_enter Tryz.func23,Tryz.ntmps23
 go_wp2_with (first
  | ((with_reducible show WL (some 5) (.makeSlice _ _ _));refine mkz (.const (.int .i64 256)) (.const (.int .i64 256)) ?_))
 intro b5 w1 hbs hk hb;rw[←Je x] at hb;have HB5:=H' hbs;have HI:Hid (w1.heap[b5]?=some (.cells (ofC x 0).toArray 5 (0,0))/\aA aB w w1):=H' ⟨hb,hk⟩;clear hb hk hbs;go_wp2_with fail
 go_loopw [4] (fun i wr=>∃k:Nat,k≤256/\i=.int .i64 (k:Int)/\Hid (wr.heap[b5]?=some (.cells (ofC x k).toArray 5 (0,0))/\aA aB w wr)) (fun i _=>256-(intOf i).toNat)
 case atStart=>exact⟨0,by omega,rfl,HI⟩
 case round =>
  obtain⟨k,hk,rfl,HJ⟩:=hrel
  by_cases hk8:k<256
  ·go_wp2_with (first
    | ((with_reducible show WL _ (.store 5 (.tmp 15) (.tmp 14)));refine sta 5 (.tmp 15) (.tmp 14) b5 k [xv] HJ.out.1 (by rw[List.size_toArray,qQ];exact hk8) (by kernel_rfl) (by intro v hv;rw[List.mem_singleton] at hv;rw[hv];exact hx1) ?_ (hy:=hxc)))
   intro w2 hk2 hb2;rw[←HXV.out,KA x k hk8] at hb2;have HN:Hid (w2.heap[b5]?=some (.cells (ofC x (k+1)).toArray 5 (0,0))/\aA aB w w2):=H' ⟨hb2,HJ.out.2.trans' hk2 (fun _ _ h=>h) (fun i hi e=>by have:=HB5.out;omega)⟩;clear hk2 hb2 HJ;go_wp2_with fail
   go_roundw
   case rel=>exact⟨k+1,by omega,by go_num,HN⟩
   case measure=>simp[intOf];omega
  ·obtain rfl:k=256:=by omega
   go_wp2_with fail;go_ret;exact⟨_,rfl,by rw[←Jf x];exact lT HJ.out.1 (by rw[qQ]) (by have:=HB5.out;omega),HJ.out.2⟩
theorem xY(w:World)(Z:Nat)(hZ:8≤Z/\Z≤4096):Calls Tryz.prog 19 #[.int .i64 (Z:Int)] w (Cx w Z):=by
 have HL:=H' (Loc.nil aB aB w);have HZ:=H' hZ;have hbid:=JV;have hpl:(eM.map vb).length=32:=by rw[List.length_map];rfl
 obtain⟨ic,hice⟩:∃l,eM.map vb=l:=⟨_,rfl⟩
 have HIC:=H' hice;rw[hice] at hbid;have HBI:=H' hbid;clear hbid hice hpl;go_enter Tryz.func19,Tryz.ntmps19
 go_wp2_with (first
  | ((with_reducible show WL (some 20) (.build _ _));refine bld 24 #[] [] (.agg ic.toArray) HBI.out ?_))
 refine((IB w 2 Z ⟨by omega,by omega,HZ.out.1,HZ.out.2⟩)).mono ?_;rintro e w1 ⟨a,BA,rfl,harr,hBA,hk⟩;have HA:=H' harr;have HBA:=H' hBA;clear harr hBA;replace HL:=H' (HL.out.keeps hk);clear hk
 go_wp2_with (first
  | ((with_reducible show WL (some 20) (.build _ _));refine bld 24 #[] [] (.agg ic.toArray) HBI.out ?_))
 refine((by rw[←HIC.out];exact De HA.out eM rfl 2 ⟨by omega,by omega,by omega⟩ (by omega):Calls _ _ _ w1 (pX w1 BA 2 Z 2))).mono ?_;rintro e w2 ⟨c,M,B,rfl,hki,hB,hk⟩;have HP:Hid (Cx w Z (.returned (.pointer (some ⟨c,0,none⟩))) w2):=H' ⟨c,M,B,rfl,hki,fun k h=>(hB k h).elim (HBA.out k) fun e=>by have:=HL.out.keep.size;omega,HL.out.keep.trans' hk (fun _ _ h=>h) (fun i hi e=>by have:=HBA.out i e;omega)⟩;clear HL HA hki hB hk
 go_wp2_with (first
  | ((with_reducible show WL (some 20) (.build _ _));refine bld 24 #[] [] (.agg ic.toArray) HBI.out ?_))
 go_ret;exact HP.out
theorem pH{w:World}{c:Nat}{S:Kor}{B:Nat->Prop}(hK:KI w c S B)(pv:Value)(t:Tr)(ht:Tr.Ok S 3 t)(hp:aL w B pv t.ptr)(n:Nat)(hn:n<64)(vv:Value)(bs:List UInt8)(hbl:bs.length=256)(hr:Rd w 1 vv 256 (bs.map vb)):Calls Tryz.prog 25 #[.pointer (some ⟨c,0,none⟩),.agg (aJ pv t.ptr).toArray,.int .i64 (n:Int),vv] w (bE w (decide (t.blk 3 n=bs))):=by
 have HT:=H' ht;have HN:=H' hn;have HBL:=H' hbl;have HPT:=H' hp;have HK:=H' hK;have HVV:=H' hr;have HB0:=H' (Tr.Ok.blk_len ht n);obtain⟨va,vc,rfl,-,-⟩:=hr.form;obtain⟨p,hpe⟩:∃p,t.ptr=p:=⟨_,rfl⟩
 have HPE:=H' hpe;rw[hpe] at HPT hp ⊢;obtain⟨pc,HPC,hpc,HOP⟩:=nmPt hp.pt;rw[HPC.out];have HL:=H' (Loc.nil aB aB w);obtain⟨bb,hbb⟩:∃x,decide (t.blk 3 n=bs)=x:=⟨_,rfl⟩
 have HBB:=H' hbb;rw[hbb];clear hp ht hK hpe hr hbl hbb;go_enter Tryz.func25,Tryz.ntmps25
 go_wp2_with (first
  | ((with_reducible show WL (some 5) (.box 26 _));refine bx 26 (.tmp 1) (pc.toArray) ?_))
 intro b5 w1 hbs hk hb;replace HL:=H' (HL.out.new (fun _ h=>h.elim) hbs hk hb);replace HPT:=H' (aL.keep0 HPT.out hk);replace HK:=H' (HK.out.keep0 hk);replace HVV:=H' (HVV.out.keep hk fun _ _=>id);clear hbs hk hb
 go_wp2_with (first
  | ((with_reducible show WL (some 13) (.load 26 _));refine wpList_load_mid rfl 26 (.tmp 5) rfl b5 0 rfl pc _ (aC (HL.out.b 0)) aI rfl (by rw[hpc];exact aE) ?_))
 refine((by rw[←HPC.out,←HPE.out];exact I5 HK.out pv t HT.out (by rw[HPE.out];exact HPT.out) n HN.out:Calls _ _ _ w1 (eT w1 (t.blk 3 n)))).mono ?_;rintro e w2 ⟨v1,rfl,ho,hk⟩;obtain⟨wa,wc,rfl,-,-⟩:=(Rd.of_owns ho).form;have HO:=H' ho;clear ho;replace HL:=H' (HL.out.keeps hk);replace HPT:=H' (aL.keep0 HPT.out hk);replace HK:=H' (HK.out.keep0 hk);replace HVV:=H' (HVV.out.keep hk fun _ _=>id);clear hk;go_wp2_with fail;refine(F5 w2 _ _ (t.blk 3 n) bs (by rw[HB0.out];exact Rd.of_owns HO.out) (by rw[HBL.out];exact HVV.out) bb HBB.out).mono ?_;rintro e w3 ⟨rfl,rfl⟩;go_wp2_with fail;go_ret;exact⟨rfl,HL.out.keep⟩
end
end Go.Proofs.YtjkbekifgobeaaaGreat
