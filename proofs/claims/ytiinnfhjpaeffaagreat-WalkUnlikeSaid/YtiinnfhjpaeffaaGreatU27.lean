import Derived.Test.YtiinnfhjpaeffaaGreatU24
import Derived.Test.YtiinnfhjpaeffaaGreatU26
namespace Go.Proofs.YtiinnfhjpaeffaaGreat
open Tryz
set_option maxHeartbeats 0
set_option maxRecDepth 100000
set_option linter.unusedVariables false
section
open Go.RowKit Go.Maps Go.ChangeMaps
variable{w:World}{i:Nat}
theorem bs1{P:Program}{ops:Array Oper}{rest:List Oper}{o:Oper}{a:Act}{Q:Exit->Act->World->Prop}(t e:TypeId)(x:Operand)(v:Value)(f:(P.info? e).map (·.size)=some 1)(s:((P.info? e).bind (·.zero)).isSome=true)(q:P.underlying t=some (.slice e))(A:v.cells=#[v])
 (h:∀b w',w.heap.size=b->aA aB w w'->w'.heap[b]?=some (.cells #[v] e (0,0))->wpList P ops Q rest (a.put o.dst (.slice (some ⟨b,0,none⟩) 1 1)) w') (G:a.eval x=v:=by rfl) (E:o.guard=none:=by rfl) (F:o.op=.buildSlice t 1 #[(0,x)]:=by rfl):wpList P ops Q (o::rest) a w:=by
 cases j:P.info? e with
 | none=>simp[j] at f
 | some H =>
   simp only[j,Option.map_some,Option.some.injEq,Option.bind_some] at f s;obtain⟨z,r⟩:=Option.isSome_iff_exists.1 s;refine wpList_buildSlice E t e 1 _ F #[v] H z q j r (by rw[f];omega) (by rw[f];omega) ?_ (h _ _ rfl ((aA.refl _ _).alloc _) (heap_alloc_new _ _));rw[f];have y:((#[((0:Nat),x)]:Array (Nat×Operand)).map fun(i,x)=>(i,a.eval x)).toList=([v].zipIdx 0).map fun x=>(x.2,x.1):=by simp[G]
   rw[y];exact Great.fill_flat [v] _ (fun u q=>by rcases List.mem_singleton.1 q with rfl;exact A) (by simp)
abbrev yQ:TypeId:=47
structure Lst where
 rv:Value
 u:Ub
 ov:Value
 ol:List Ad
 vv:Value
 vl:List Ad
def pX:Lst:=⟨.slice none 0 0,⟨0,zPt,0,List.replicate 32 0⟩,.slice none 0 0,[],.slice none 0 0,[]⟩
def Lst.Own(t:Lst)(i:Nat):Prop:=t.rv.ownBlock=some i\/t.ov.ownBlock=some i\/t.vv.ownBlock=some i
theorem rI:¬pX.Own i:=fun h=>by rcases h with h|h|h<;>cases h
structure nD(w:World)(t:Lst):Prop where
 ub:UbV w t.rv t.u
 old:Rd w 2 t.ov t.ol.length (aR t.ol)
 live:Rd w 2 t.vv t.vl.length (aR t.vl)
 oads:jE t.ol
 lads:jE t.vl
 isc:∀i,t.Own i->∃cs T,w.heap[i]?=some (.cells cs T (0,0))
 few:t.u.root.addrs.length≤65536/\t.ol.length≤65536/\t.vl.length≤65536
theorem nD.keep{T:Nat->Prop}{w':World}{t:Lst}(h:nD w t)(k:aA T w w')(j:∀i,T i->¬t.Own i):nD w' t:=
 ⟨h.ub.keep k fun i f e=>j i e (.inl f),h.old.keep k fun i f e=>j i e (.inr (.inl f)),h.live.keep k fun i f e=>j i e (.inr (.inr f)),h.oads,h.lads,fun i f=>by
  obtain⟨q,T,r⟩:=h.isc i f;exact⟨q,T,k.blk r fun e=>j i e f⟩,h.few⟩
theorem nD.zero(w:World):nD w pX:=⟨⟨⟨Rd.nil w 2,fun x e=>(by cases e),rfl⟩,rfl⟩,Rd.nil w 2,Rd.nil w 2,fun x e=>(by cases e),fun x e=>(by cases e),fun i f=>by (rcases f with h|h|h<;>cases h),by decide⟩
theorem nD.lt{t:Lst}(h:nD w t)(f:t.Own i):i<w.heap.size:=by
 obtain⟨j,T,e⟩:=h.isc i f;exact lt_of_block e
def hE(t:Lst):List Value:=cW t.rv t.u++[.bool false]
theorem EU{t:Lst}(h:nD w t):(hE t).length=70:=by
 unfold hE;rw[List.length_append,jJ h.ub.root.sum h.ub.pool];rfl
def fP(a m:Nat)(pid:List UInt8)(cp:Nat)(lv gv:Value)(t:Lst):List Value:=
 .pointer a::.pointer m::(pid.map vb++(.int .i64 (cp:Int)::lv::gv::t.ov::t.vv::hE t))
structure bB(w:World)(c a m:Nat)(pid:List UInt8)(cp:Nat)(lv gv:Value)(t:Lst):Prop where
 top:w.heap[c]?=some (.cells (fP a m pid cp lv gv t).toArray yQ (0,0))
 idl:pid.length=32
 lst:nD w t
section
variable {w:World}{c a m:Nat}{pid:List UInt8}{cp:Nat}{lv gv:Value}{t:Lst}
variable{w':World}
theorem bB.keep{T:Nat->Prop}(h:bB w c a m pid cp lv gv t)(k:aA T w w')(f:¬T c)(e:∀i,T i->¬t.Own i):bB w' c a m pid cp lv gv t:=⟨k.blk h.top f,h.idl,h.lst.keep k e⟩
theorem bB.keep0(h:bB w c a m pid cp lv gv t)(k:aA aB w w'):bB w' c a m pid cp lv gv t:=h.keep k (fun h=>h) fun _ h=>h.elim
theorem vD(h:pid.length=32)(e:(hE t).length=70):(fP a m pid cp lv gv t).length=109:=by
 unfold fP;simp only[List.length_cons,List.length_append,List.length_map,h,e]
theorem bB.c0(h:bB w c a m pid cp lv gv t):w.cell? ⟨c,0,none⟩=some (.pointer a):=aD h.top rfl
theorem bB.c1(h:bB w c a m pid cp lv gv t):w.cell? ⟨c,1,none⟩=some (.pointer m):=aD h.top rfl
theorem bB.id_(h:bB w c a m pid cp lv gv t):w.rangeAt c 2 (pid.map vb):=fun j v f=>by
 refine aD h.top ?_;rw[List.getElem?_toArray];unfold fP;have e:2+j=j+1+1:=by omega
 rw[e,List.getElem?_cons_succ,List.getElem?_cons_succ,List.getElem?_append_left (List.getElem?_eq_some_iff.1 f).1];exact f
theorem bB.at_(h:bB w c a m pid cp lv gv t){k:Nat}{v:Value}(j:(.int .i64 (cp:Int)::lv::gv::t.ov::t.vv::hE t)[k]?=some v):w.cell? ⟨c,34+k,none⟩=some v:=by
 refine aD h.top ?_;rw[List.getElem?_toArray];unfold fP;have e:34+k=(32+k)+1+1:=by omega
 have q:(pid.map vb).length=32:=by rw[List.length_map,h.idl]
 rw[e,List.getElem?_cons_succ,List.getElem?_cons_succ,List.getElem?_append_right (by omega),q];have f:32+k-32=k:=by omega
 rw[f];exact j
theorem bB.cp_(h:bB w c a m pid cp lv gv t):w.cell? ⟨c,34,none⟩=some (.int .i64 (cp:Int)):=h.at_ (k:=0) rfl
theorem bB.lv_(h:bB w c a m pid cp lv gv t):w.cell? ⟨c,35,none⟩=some lv:=h.at_ (k:=1) rfl
theorem bB.gv_(h:bB w c a m pid cp lv gv t):w.cell? ⟨c,36,none⟩=some gv:=h.at_ (k:=2) rfl
theorem bB.old_(h:bB w c a m pid cp lv gv t):w.cell? ⟨c,37,none⟩=some t.ov:=h.at_ (k:=3) rfl
theorem bB.live_(h:bB w c a m pid cp lv gv t):w.cell? ⟨c,38,none⟩=some t.vv:=h.at_ (k:=4) rfl
theorem bB.txg_(h:bB w c a m pid cp lv gv t):w.cell? ⟨c,39,none⟩=some (.int .i64 t.u.txg):=h.at_ (k:=5) rfl
theorem bB.ub_(h:bB w c a m pid cp lv gv t):w.rangeAt c 39 (cW t.rv t.u):=fun j v f=>by
 have e:39+j=34+(j+5):=by omega
 rw[e];refine h.at_ ?_;simp only[List.getElem?_cons_succ];unfold hE;rw[List.getElem?_append_left (List.getElem?_eq_some_iff.1 f).1];exact f
theorem bB.out_(h:bB w c a m pid cp lv gv t):w.cell? ⟨c,108,none⟩=some (.bool false):=h.at_ (k:=74) (by
 have e:=jJ h.lst.ub.root.sum h.lst.ub.pool (v:=t.rv);simp only[List.getElem?_cons_succ];unfold hE;rw[List.getElem?_append_right (by omega),e];rfl)
end
variable{w w':World}{c a m cp D Z nw n d lb k bc g b2 b o:Nat}{pid:List UInt8}{lv gv v:Value}{t:Lst}{B T:Nat->Prop}{Mm:Nat->Nat->List UInt8}{xs C:List Value}{Q:Exit->Act->World->Prop}{P:Program}{ops:Array Oper}{fn:Func}{p:Tmp}{lc:Nat->Option Nat}{Ls:List Ad}{l:List Nat}{vs:Nat->Value}{ps:Nat->Pt}
theorem sD(h:bB w c a m pid cp lv gv t):Calls prog 56 #[.pointer c] w (aK w (.bool false)):=by
 have e:=O h;have f:=lN w;clear h;go_in;have c1:w.cell? ⟨c,0,none⟩=some (.pointer a):=(bB.c0 e.out)
 go_wp2_with fail;clear c1;go_ret;exact aK.of f.keep
theorem CW(q:bP w a B D Z Mm nw):Calls prog 77 #[.pointer a] w (aK w (.bool false)):=by
 have f:=O q;have h:=lN w;clear q;go_in;go_wp2_with fail;refine(Ou f.out).mono ?_;rintro e r ⟨rfl,j⟩;replace h:=kL h j;replace f:=O (f.keep0 j);clear j;go_wp2;go_ret;exact aK.of h.keep
theorem sE(h:bB w c a m pid cp lv gv t)(s:bP w a B D Z Mm nw):Calls prog 49 #[.pointer c] w (aK w (.int .i64 0)):=by
 have j:=O h;have q:=O s;have r:=lN w;clear h s;go_in;go_wp2_with fail;refine(sD j.out).mono ?_;rintro e u ⟨rfl,f⟩;replace r:=kL r f;replace j:=O (j.keep0 f);replace q:=O (q.keep0 f);clear f;have c1:u.cell? ⟨c,108,none⟩=some (.bool false):=(bB.out_ j.out)
 have c2:u.cell? ⟨c,0,none⟩=some (.pointer a):=(bB.c0 j.out)
 go_wp2_with fail;clear c1 c2;refine(CW q.out).mono ?_;rintro e x ⟨rfl,f⟩;replace r:=kL r f;replace j:=O (j.keep0 f);replace q:=O (q.keep0 f);clear f;go_wp2;go_ret;exact aK.of r.keep
theorem F7(h:bB w c a m pid cp lv gv t):Calls prog 70 #[.pointer c] w (aK w (.int .i64 (cp:Int))):=by
 have f:=O h;have j:=lN w;clear h;go_in;go_wp2_with fail;refine(sD f.out).mono ?_;rintro e r ⟨rfl,q⟩;replace j:=kL j q;replace f:=O (f.keep0 q);clear q;have c1:r.cell? ⟨c,34,none⟩=some (.int .i64 (cp:Int)):=(bB.cp_ f.out)
 go_wp2_with fail;clear c1;go_ret;exact aK.of j.keep
theorem EV:(prog.info? 3).map (fun i=>(i.zero,i.size,i.bytes))=some (some (.int .i64 0),1,8):=by kernel_rfl
theorem Kq:(prog.info? 4).map (fun i=>(i.zero,i.size,i.bytes))=some (some (.bool false),1,1):=by kernel_rfl
def sF(k:Nat):List Value:=(List.range k).map fun(i:Nat)=>Value.int .i64 (i:Int)
theorem IF(k:Nat):sF (k+1)=sF k++[.int .i64 (k:Int)]:=by unfold sF;rw[List.range_succ,List.map_append];rfl
theorem Ay{wr f j:World}{T:TypeId}(h:aA aB w wr)(q:f.ownsRow w.heap.size T 1 v n xs)(k:aA aB wr f)(r:aA (fun k=>v.ownBlock=some k) f j):aA aB w j:=
 (h.trans k).tT r (fun i s e=>by have:=aU q e;omega)
def MQ(w:World)(D:Nat)(e:Ending)(w':World):Prop:=∃v,e=.returned v/\w'.ownsRow w.heap.size 3 1 v D (sF D)/\aA aB w w'
theorem sG(h:bB w c a m pid cp lv gv t)(R:bP w a B D Z Mm nw):Calls prog 80 #[.pointer c] w (MQ w D):=by
 have Y:=R.bd;have G:=O h;have F:=O R;have f:=lN w;clear h R;go_in;have c1:w.cell? ⟨c,0,none⟩=some (.pointer a):=(bB.c0 G.out)
 go_wp2_with fail;clear c1;refine(lS F.out).mono ?_;rintro e w1 ⟨rfl,j⟩;replace f:=kL f j;replace G:=O (G.keep0 j);replace F:=O (F.keep0 j);clear j;go_wp2_with fail;have J:=O f.keep;clear f G F
 go_loopw [3,10] (fun v i wr=>∃(k:Nat) (p:Option Addr) (H:Nat),k≤D/\i=.int .i64 k/\v=.slice p k H/\Hid (aA aB w wr)/\Hid (wr.ownsRow w.heap.size 3 1 (.slice p k H) k (sF k))) (fun _ i _=>D-(intOf i).toNat)
 case atStart=>exact⟨0,none,0,by omega,rfl,rfl,J,O (World.ownsRow_nil _ _ _ _)⟩
 case round =>
  obtain⟨k,p,H,j,rfl,rfl,I,x⟩:=hrel
  by_cases qb:k<D
  ·have f:=lN wr
   have W:=O I.size;have qa:(k:Int)<(D:Int):=by omega
   go_wp2_with ((with_reducible show WL _ _);refine bs1 42 3 (.tmp 14) (.int .i64 (k:Int)) (by kernel_rfl) (by kernel_rfl) underlying42 rfl ?_)
   intro z w2 A j V;replace f:=lW f A j V;replace x:=O (j.owns x.out fun _ _=>id);clear A j V;have r:Rd w2 1 (.slice z 1 1) 1 [.int .i64 (k:Int)]:=eQ (n:=1) (size:=1) (f.b 0) rfl (by unfold maxLen;omega);have q:=O r;have N:=x;have y:=O f.keep;clear r
   go_wp2_with (first
    | (at_builtin;refine aP rfl (.tmp 13) (.tmp 15) 42 rfl w.heap.size 3 (.int .i64 0) 1 8 underlying42 EV rfl (by decide) (.slice p k H) k (sF k) rfl x.out (.slice z 1 1) 1 [.int .i64 (k:Int)] rfl q.out (by intro u hu;rcases List.mem_singleton.1 hu with rfl;rfl) (by unfold maxLen;omega) (by omega) (Nat.le_trans W.out y.size) ?_))
   intro v2 w8 s E U S;obtain⟨X,c2,rfl⟩:=ownsRow_succ s;have M:=O s;have K:=O E;clear s E U S q f x;go_wp2_with fail;have L:=O (Ay I.out N.out y.out K.out)
   go_roundw
   case rel=>exact⟨k+1,some ⟨X,0,none⟩,c2,by omega,by go_num,rfl,L,by rw[IF];exact M⟩
   case measure=>simp[intOf];omega
  ·obtain rfl:k=D:=by omega
   go_wp2;go_ret;exact⟨_,rfl,x.out,I.out⟩
def dL(pid:List UInt8)(d D cp Z:Nat):Lab:=⟨pid,(d:Int),(D:Int),(cp:Int),(Z:Int),0⟩
theorem vE(q:d<D)(h:2≤D/\D≤8/\8≤Z/\Z≤4096)(e:1≤cp)(f:cp≤3)(j:cp≤D):(dL pid d D cp Z).may=true:=by
 unfold Lab.may dL;simp only[decide_eq_true_eq];omega
def GP(w:World)(L:Lab)(e:Ending)(w':World):Prop:=e=.returned (.tuple #[.agg L.cells.toArray,.bool true])/\aA aB w w'
theorem EW(ha:bP w a B D Z Mm nw)(E:pid.length=32)(hd:d<D)(X:1≤cp/\cp≤3/\cp≤D)(M:Mm d 0=eH (dL pid d D cp Z)) :
 Calls prog 128 #[.pointer a,.int .i64 (d:Int)] w (GP w (dL pid d D cp Z)):=by
 have qp:=ha.bd;have H:=vE (pid:=pid) hd qp X.1 X.2.1 X.2.2;have qn:=O (ET (dL pid d D cp Z) E H);have qb:=O M;have qe:=O E;have qc:=O H;have qm:=O (ha.len hd (show 0<Z by omega));have qi:=O hd;have qo:=O (show 0<Z by omega);obtain⟨lc,s⟩:=zX9 ((dL pid d D cp Z).cells)
 have j:lc.length=37:=by rw[←s];exact Lab.cells_length _ E
 have qd:Hid (∀u∈lc,u.oneCell'=true):=O (by rw[←s];exact oV _);have x:∀i,lc.toArray[32+i]?=(dL pid d D cp Z).nums[i]?:=fun i=>by rw[List.getElem?_toArray,←s];exact Lab.cells_num _ E i
 have N:Hid (lc.toArray[32]?=some (.int .i64 (d:Int))):=O (x 0);have R:Hid (lc.toArray[33]?=some (.int .i64 (D:Int))):=O (x 1);have qk:Hid (lc.toArray[34]?=some (.int .i64 (cp:Int))):=O (x 2);have U:Hid (lc.toArray[35]?=some (.int .i64 (Z:Int))):=O (x 3);have ql:Hid (lc.toArray[36]?=some (.int .i64 0)):=O (x 4);have qj:=O s;have r:=O ha;have q:=lN w;unfold GP;rw[s];clear ha H M s x E;have qa:=r;go_in
 go_wp2_with ((with_reducible show WL _ _);refine alL q 192 (.agg gG.cells.toArray) (gG.cells.toArray) (O qL) ?_)
 intro b4 w1 f q;replace r:=O (r.keep0 f);clear f;go_wp2_with fail;refine(Qj r.out qi.out qo.out).mono ?_;rintro e w2 ⟨v0,rfl,ho,f⟩;obtain⟨pv,cv,rfl,-,-⟩:=(Rd.of_owns ho).form;have HO:=O ho;clear ho;replace q:=kL q f;replace r:=O (r.keep0 f);clear f;go_wp2_with fail;refine(DD w2 (.slice pv 256 cv) (dL pid d D cp Z) qe.out qc.out (Mm d 0) qb.out (by rw[qm.out];exact Rd.of_owns HO.out)).mono ?_;rintro e w3 ⟨rfl,f⟩;replace q:=kL q f;replace r:=O (r.keep0 f);replace HO:=O (f.owns HO.out fun _ _=>id);clear f;rw[qb.out,qn.out];dsimp only;rw[qj.out]
 go_wp2_with ((with_reducible show WL _ _);refine al 192 (.agg gG.cells.toArray) (gG.cells.toArray) (O qL) ?_)
 intro K w4 qf qg L
 go_wp2_with ((with_reducible show WL _ _);refine sta 192 (.tmp 8) (.tmp 22) K 0 lc L (by first|decide|(rw[List.size_toArray,j];exact Nat.le_refl _)|simp[j,jX]) (by rw[j];exact gV) qd.out ?_)
 intro w5 f W;rw[aI _ _ (by first|rfl|(rw[List.size_toArray,j];rfl)|simp[j,jX])] at W;replace f:=tX qg f (fun i hi e=>by omega);replace q:=lW q qf f W;replace r:=O (r.keep0 f);replace HO:=O (f.owns HO.out fun _ _=>id);clear qf f W qg L;clear HO;go_wp2_with fail;refine dwA (fun k=>k=b4) (by kernel_rfl) ?_;intro w6 S A J F Y;replace q:=kL q Y;replace r:=O (r.keep0 Y);clear Y;have y:=q;have qh:=r;refine tnd 0 (.agg lc.toArray) rfl (yieldsIf_load_mid (by rfl) 192 (.tmp 8) rfl K 0 rfl lc _ (fun w' h=>aC ((A w' h).blk (y.b 0) (fun e=>by exact bH (i:=1) y.nd rfl 0 (by decide) rfl e))) underlying192 rfl (by rw[j];exact gV)) F ?_;refine tna 1 (.int .i64 0) rfl F ?_;refine tnb 2 (.bool true) rfl F ?_;refine tna 3 (.bool true) rfl F ?_;refine tnb 4 (.pointer (some ⟨K,32,none⟩)) rfl F ?_;refine tnd 5 (.int .i64 (d:Int)) rfl (.inl ⟨by rfl,fun w' I=>by have c:World.cell? w' ⟨K,32,none⟩=some (.int .i64 (d:Int)):=(aD (i:=32) ((A w' I).blk (y.b 0) (fun e=>by exact bH (i:=1) y.nd rfl 0 (by decide) rfl e)) (N.out));go_simp⟩) F ?_;refine tna 6 (.int .i64 (d:Int)) rfl F ?_;refine tnb 7 (.bool true) rfl F ?_;refine tna 8 (.bool true) rfl F ?_;refine tna 9 (.bool true) rfl F ?_;refine tnb 10 (.pointer (some ⟨K,33,none⟩)) rfl F ?_;refine tnd 11 (.int .i64 (D:Int)) rfl (.inl ⟨by rfl,fun w' I=>by have c:World.cell? w' ⟨K,33,none⟩=some (.int .i64 (D:Int)):=(aD (i:=33) ((A w' I).blk (y.b 0) (fun e=>by exact bH (i:=1) y.nd rfl 0 (by decide) rfl e)) (R.out));go_simp⟩) F ?_;refine tna 12 (.pointer a) rfl F ?_;refine wA9 13 ?_;go_wp2_with fail;refine(lS r.out).mono ?_;rintro e w7 ⟨rfl,f⟩;have z:=J.out _ ((A _ F).trans f.any);replace q:=kL q f;replace r:=O (r.keep0 f);clear F f;go_wp2_with fail;refine⟨z,?_⟩;refine tnb 14 (.bool true) rfl z ?_;refine tna 15 (.bool true) rfl z ?_;refine tna 16 (.bool true) rfl z ?_;refine tnb 17 (.pointer (some ⟨K,35,none⟩)) rfl z ?_;refine tnd 18 (.int .i64 (Z:Int)) rfl (.inl ⟨by rfl,fun w' I=>by have c:World.cell? w' ⟨K,35,none⟩=some (.int .i64 (Z:Int)):=(aD (i:=35) ((A w' I).blk (y.b 0) (fun e=>by exact bH (i:=1) y.nd rfl 0 (by decide) rfl e)) (U.out));go_simp⟩) z ?_;refine tna 19 (.pointer a) rfl z ?_;refine wA9 20 ?_;go_wp2_with fail;refine(xN r.out).mono ?_;rintro e w8 ⟨rfl,f⟩;have G:=J.out _ ((A _ z).trans f.any);replace q:=kL q f;replace r:=O (r.keep0 f);clear z f;go_wp2_with fail;refine⟨G,?_⟩;refine tnb 21 (.bool true) rfl G ?_;refine tna 22 (.bool true) rfl G ?_;refine wA9 23 ?_;refine sta 192 (.tmp 4) (.tmp 24) b4 0 lc (q.b 1) (by first|decide|(rw[j];exact Nat.le_refl _)|simp[j,jX]) (by rw[j];exact gV) qd.out ?_;intro w9 f W;rw[aI _ _ (by first|rfl|simp[j,jX])] at W;have V:=J.out _ ((A _ G).tT f (fun i hi e=>(e)));clear G;replace q:=O (q.set 1 f W);replace r:=O (qa.keep0 q.keep);clear f W;refine wpList_nil ?_;refine⟨V,?_⟩;refine tna 24 (.bool true) rfl V ?_;refine wpAnyH_done (by kernel_rfl) ?_ _;clear V A J y qh;have HR:Hid (aA aB w w9):=O q.keep;have HB:=O (q.b 1);clear q r qa;go_wp2_with fail;refine bodyPost_ret (aT rfl _ _ b4 _ _ _ _ rfl HB.out underlying192 rfl (by rw[List.size_toArray,j];exact gV)) rfl ?_;exact⟨rfl,HR.out⟩
theorem qM(ha:bP w a B D Z Mm nw)(h:bB w c a m pid cp (.slice lb D D) gv t)(qe:w.heap[lb]?=some (.cells (Array.replicate D (.int .i64 0)) 3 (0,0)))(hd:d<D)(K:1≤cp/\cp≤3/\cp≤D)(N:Mm d 0=eH (dL pid d D cp Z)) :
 Calls prog 97 #[.pointer c,.int .i64 (d:Int)] w (aK w (.bool true)):=by
 have qm:=ha.bd;have A:=h.idl;have R:=vE (pid:=pid) hd qm K.1 K.2.1 K.2.2;have qo:(0:Int)≤(d:Int):=by omega
 have qp:(d:Int)<(D:Int):=by omega
 have ql:Hid (rH (dL pid d D cp Z) pid (d:Int) 0=true):=O (by unfold rH;rw[R];simp[dL]);obtain⟨lc,z⟩:=zX9 ((dL pid d D cp Z).cells)
 have G:lc.length=37:=by rw[←z];exact Lab.cells_length _ A
 have qk:Hid (∀u∈lc,u.oneCell'=true):=O (by rw[←z];exact oV _);have r:∀i,lc.toArray[32+i]?=(dL pid d D cp Z).nums[i]?:=fun i=>by rw[List.getElem?_toArray,←z];exact Lab.cells_num _ A i
 have qh:Hid (lc.toArray[32]?=some (.int .i64 (d:Int))):=O (r 0);have qi:Hid (lc.toArray[33]?=some (.int .i64 (D:Int))):=O (r 1);have V:Hid (lc.toArray[34]?=some (.int .i64 (cp:Int))):=O (r 2);have qj:Hid (lc.toArray[35]?=some (.int .i64 (Z:Int))):=O (r 3);have W:Hid (lc.toArray[36]?=some (.int .i64 0)):=O (r 4);have qb:=O z;have qg:=O N;have qf:=O K;have HD:=O hd;have qn:(pid.map vb).length=32:=by rw[List.length_map];exact A
 have J:=O A;have F:Hid (w.cell? ⟨lb,d,none⟩=some (.int .i64 0)):=O (by rw[cell_of_row _ _ _ _ _ _ qe];simp[hd]);have s:=O h;have E:=O ha;have x:=lN w;clear ha h R N z r A K qe;go_in;go_wp2_with fail;refine(sD s.out).mono ?_;rintro e w1 ⟨rfl,f⟩;replace x:=kL x f;replace s:=O (s.keep0 f);replace E:=O (E.keep0 f);replace F:=O (f.cell F.out id);clear f;have c1:w1.cell? ⟨c,0,none⟩=some (.pointer a):=(bB.c0 s.out)
 go_wp2_with fail;clear c1;refine(EW E.out J.out HD.out qf.out qg.out).mono ?_;rintro e w2 ⟨rfl,f⟩;replace x:=kL x f;replace s:=O (s.keep0 f);replace E:=O (E.keep0 f);replace F:=O (f.cell F.out id);clear f;rw[qb.out]
 go_wp2_with ((with_reducible show WL _ _);refine al 192 (.agg gG.cells.toArray) (gG.cells.toArray) (O qL) ?_)
 intro b5 w3 qc qd M
 go_wp2_with ((with_reducible show WL _ _);refine sta 192 (.tmp 5) (.tmp 17) b5 0 lc M (by first|decide|(rw[List.size_toArray,G];exact Nat.le_refl _)|simp[G,jX]) (by rw[G];exact gV) qk.out ?_)
 intro w4 f hb;rw[aI _ _ (by first|rfl|(rw[List.size_toArray,G];rfl)|simp[G,jX])] at hb;replace f:=tX qd f (fun i hi e=>by omega);replace x:=lW x qc f hb;replace s:=O (s.keep0 f);replace E:=O (E.keep0 f);replace F:=O (f.cell F.out id);clear qc f hb qd M;go_wp2_with fail;refine dwA aB (by kernel_rfl) ?_;intro w5 S y L q j;replace x:=kL x j;replace s:=O (s.keep0 j);replace E:=O (E.keep0 j);replace F:=O (j.cell F.out id);clear j;have I:=x;have H:=s;have U:=E;have X:=F;refine tna 0 (.bool true) rfl q ?_;refine tnb 1 (.bool false) rfl q ?_;refine tna 2 (.bool false) rfl q ?_;refine tnb 3 (.pointer (some ⟨b5,34,none⟩)) rfl q ?_;refine tnd 4 (.int .i64 (cp:Int)) rfl (.inl ⟨by rfl,fun w' qa=>by have c:World.cell? w' ⟨b5,34,none⟩=some (.int .i64 (cp:Int)):=(aD (i:=34) ((y w' qa).blk (I.b 0) id) (V.out));go_simp⟩) q ?_;refine tna 5 (.pointer c) rfl q ?_;refine tnb 6 (.pointer c) rfl q ?_;refine tnb 7 (.pointer (some ⟨c,34,none⟩)) rfl q ?_;refine tnd 8 (.int .i64 (cp:Int)) rfl (.inl ⟨by rfl,fun w' qa=>by have c:World.cell? w' ⟨c,34,none⟩=some (.int .i64 (cp:Int)):=(y w' qa).cell (bB.cp_ H.out) id;go_simp⟩) q ?_;refine tnb 9 (.bool false) rfl q ?_;refine tna 10 (.bool false) rfl q ?_;refine wpAnyH_done (by kernel_rfl) ?_ _;clear q y L I H U X;have c1:w5.cell? ⟨b5,36,none⟩=some (.int .i64 0):=(aD (i:=36) (x.b 0) (W.out))
 have c2:w5.cell? ⟨c,35,none⟩=some (.slice lb D D):=(bB.lv_ s.out)
 have c3:w5.cell? ⟨c,35,none⟩=some (.slice lb D D):=(bB.lv_ s.out)
 have c4:w5.cell? ⟨lb,d,none⟩=some (.int .i64 0):=F.out;go_wp2_with fail;clear c1 c2 c3 c4;refine dwA aB (by kernel_rfl) ?_;intro w6 S y L q j;replace x:=kL x j;replace s:=O (s.keep0 j);replace E:=O (E.keep0 j);replace F:=O (j.cell F.out id);clear j;have I:=x;have H:=s;have U:=E;have X:=F;refine tnd 0 (.agg lc.toArray) rfl (yieldsIf_load_mid (by rfl) 192 (.tmp 5) rfl b5 0 rfl lc _ (fun w' h=>aC ((y w' h).blk (I.b 0) id)) underlying192 rfl (by rw[G];exact gV)) q ?_;refine tna 1 (.pointer c) rfl q ?_;refine tnb 2 (.pointer c) rfl q ?_;refine tnb 3 (.pointer (some ⟨c,2,none⟩)) rfl q ?_;refine tnd 4 (.agg (pid.map vb).toArray) rfl (yieldsIf_load_mid (by rfl) 25 (.tmp 47) rfl c 2 rfl (pid.map vb) _ (fun w' h=>(y w' h).rangeAt (bB.id_ H.out)) underlying25 rfl (by rw[qn];exact xI)) q ?_;refine tna 5 (.int .i64 (d:Int)) rfl q ?_;refine tna 6 (.int .i64 0) rfl q ?_;refine wA9 7 ?_;go_wp2_with fail;refine((by rw[←qb.out];exact Kp w6 (dL pid d D cp Z) pid (d:Int) 0 J.out J.out:Ka w6 (aY w6 (rH (dL pid d D cp Z) pid (d:Int) 0)))).mono ?_;rintro e w7 ⟨rfl,f⟩;have Y:=L.out _ ((y _ q).trans f);replace x:=kL x f;replace s:=O (s.keep0 f);replace E:=O (E.keep0 f);replace F:=O (f.cell F.out id);clear q f;rw[ql.out];go_wp2_with fail;refine⟨Y,?_⟩;refine tna 8 (.bool true) rfl Y ?_;refine wpAnyH_done (by kernel_rfl) ?_ _;clear Y y L I H U X;have HR:Hid (aA aB w w7):=O x.keep;clear x E s;go_wp2;go_ret;exact aK.of HR.out
structure iD(w:World)(c a m lb:Nat)(pid:List UInt8)(cp:Nat)(gv:Value)(t:Lst)(B:Nat->Prop)(D Z:Nat)(Mm:Nat->Nat->List UInt8)(nw:Nat):Prop where
 cor:bB w c a m pid cp (.slice (some ⟨lb,0,none⟩) D D) gv t
 arr:bP w a B D Z Mm nw
 mir:fF w m a
 liv:w.heap[lb]?=some (.cells (Array.replicate D (.int .i64 0)) 3 (0,0))
 cpb:1≤cp/\cp≤3/\cp≤D
 lab:∀d,d<D->Mm d 0=eH (dL pid d D cp Z)
theorem iD.keep(h:iD w c a m lb pid cp gv t B D Z Mm nw)(k:aA T w w')(f:∀i,T i->i≠c/\i≠m/\i≠lb/\¬B i/\¬t.Own i):iD w' c a m lb pid cp gv t B D Z Mm nw:=
 ⟨h.cor.keep k (fun e=>(f _ e).1 rfl) fun i e=>(f i e).2.2.2.2,h.arr.keep k fun i e=>(f i e).2.2.2.1,k.blk h.mir fun e=>(f _ e).2.1 rfl,k.blk h.liv fun e=>(f _ e).2.2.1 rfl,h.cpb,h.lab⟩
theorem iD.keep0(h:iD w c a m lb pid cp gv t B D Z Mm nw)(k:aA aB w w'):iD w' c a m lb pid cp gv t B D Z Mm nw:=h.keep k fun _ h=>h.elim
theorem oW{u:Value}(h:Rd w 1 v n xs)(f:xs[k]?=some u):∃g o e,v=.slice (some ⟨g,o,none⟩) n e/\w.cell? ⟨g,o+k,none⟩=some u:=by
 obtain⟨h0,a,e,rfl,r,s,x,j⟩:=h;obtain⟨g,o,rfl,q⟩:=j (by have:=(List.getElem?_eq_some_iff.1 f).1;omega);exact⟨g,o,e,rfl,q k u f⟩
theorem mH(h:k<n):(sF n)[k]?=some (.int .i64 (k:Int)):=by
 unfold sF;rw[List.getElem?_map,List.getElem?_range h];rfl
def lJ(k:Nat):List Value:=List.replicate k (.bool true)
theorem IG(k:Nat):lJ (k+1)=lJ k++[.bool true]:=by unfold lJ;rw[List.replicate_succ']
def OB(w:World)(D:Nat)(e:Ending)(w':World):Prop:=∃v,e=.returned v/\w'.ownsRow w.heap.size 4 1 v D (lJ D)/\aA aB w w'
theorem Cc(h:iD w c a m lb pid cp gv t B D Z Mm nw):Calls prog 53 #[.pointer c] w (OB w D):=by
 have qb:=h.arr.bd;have G:=O h;have q:=lN w;clear h;go_in;go_wp2_with fail;refine(sG G.cor G.arr).mono ?_;rintro e N ⟨v0,rfl,ho,j⟩;obtain⟨g,o,dc,rfl,-⟩:=oW (Rd.of_owns ho) (mH (show 0<D by omega))
 have R:=O (fun(k:Nat) (j:k<D)=>show ∃y,Value.slice (some ⟨g,o,none⟩) D dc=.slice (some ⟨g,o,none⟩) D y/\World.cell? N ⟨g,o+k,none⟩=some (.int .i64 (k:Int)) from by
  obtain⟨g',o',y,he,Y⟩:=oW (Rd.of_owns ho) (mH j);cases he
  exact⟨_,rfl,Y⟩)
 clear ho;replace q:=kL q j;replace G:=O (G.keep0 j);clear j;go_wp2_with fail;have H:=O q.keep;clear q
 go_loopw [3,5,9] (fun v _ i wr=>∃(k:Nat) (p:Option Addr) (M:Nat),k≤D/\i=.int .i64 k/\v=.slice p k M/\Hid (aA aB N wr)/\Hid (wr.ownsRow N.heap.size 4 1 (.slice p k M) k (lJ k))) (fun _ _ i _=>D-(intOf i).toNat)
 case atStart=>exact⟨0,none,0,by omega,rfl,rfl,O (aA.refl _ _),O (World.ownsRow_nil _ _ _ _)⟩
 case round =>
  obtain⟨k,p,M,j,rfl,rfl,r,s⟩:=hrel
  by_cases A:k<D
  ·have q:=lN wr
   have HW:=O r.size;have qc:(0:Int)≤(k:Int):=by omega
   have qd:(k:Int)<(D:Int):=by omega
   have F:Hid (World.cell? wr ⟨g,o+k,none⟩=some (.int .i64 (k:Int))):=O (by obtain⟨_,_,Y⟩:=R.out k A;exact r.cell Y id);have f:=O (G.keep0 r.out);have c1:wr.cell? ⟨g,o+k,none⟩=some (.int .i64 (k:Int)):=F.out;go_wp2_with fail;clear c1;refine(qM f.arr f.cor f.liv A f.cpb (f.lab _ A)).mono ?_;rintro e w2 ⟨rfl,j⟩;replace q:=kL q j;replace s:=O (j.owns s.out fun _ _=>id);replace f:=O (f.keep0 j);replace F:=O (j.cell F.out id);clear j
   go_wp2_with ((with_reducible show WL _ _);refine bs1 116 4 (.tmp 16) (.bool true) (by kernel_rfl) (by kernel_rfl) underlying116 rfl ?_)
   intro J w3 K j hb;replace q:=lW q K j hb;replace s:=O (j.owns s.out fun _ _=>id);replace f:=O (f.keep0 j);replace F:=O (j.cell F.out id);clear K j hb;have z:Rd w3 1 (.slice J 1 1) 1 [.bool true]:=eQ (n:=1) (size:=1) (q.b 0) rfl (by unfold maxLen;omega);have x:=O z;have W:=s;have I:=O q.keep;clear z
   go_wp2_with (first
    | (at_builtin;refine aP rfl (.tmp 13) (.tmp 17) 116 rfl N.heap.size 4 (.bool false) 1 1 underlying116 Kq rfl (by decide) (.slice p k M) k (lJ k) rfl s.out (.slice J 1 1) 1 [.bool true] rfl x.out (by intro u hu;rcases List.mem_singleton.1 hu with rfl;rfl) (by unfold maxLen;omega) (by omega) (Nat.le_trans HW.out I.size) ?_))
   intro v2 w8 E L qa X;obtain⟨g2,c2,rfl⟩:=ownsRow_succ E;have V:=O E;have S:=O L;clear E L qa X x q s f F;go_wp2_with fail;have U:=O (Ay r.out W.out I.out S.out)
   go_roundw
   case rel=>exact⟨k+1,some ⟨g2,0,none⟩,c2,by omega,by go_num,rfl,U,by rw[IG];exact V⟩
   case measure=>simp[intOf];omega
  ·obtain rfl:k=D:=by omega
   go_wp2;go_ret;exact⟨_,rfl,aW s.out H.size,H.trans r.out⟩
theorem OC:(prog.info? 82).map (fun i=>(i.zero,i.size,i.bytes))=some (some (.agg #[.int .i64 0,.int .i64 0]),2,16):=by kernel_rfl
def Bl(w:World)(l:List Ad)(e:Ending)(w':World):Prop:=∃f,e=.returned f/\w'.ownsRow w.heap.size 82 2 f l.length (aR l)/\aA aB w w'
theorem Qk(w:World):Sem.run prog (binOp .eql 23 (.slice none 0 0) (.slice none 0 0)) w=.ok (.bool true) w:=by kernel_rfl
theorem PG(w:World)(a:Addr)(n c:Nat):Sem.run prog (binOp .eql 23 (.slice (some a) n c) (.slice none 0 0)) w=.ok (.bool false) w:=by kernel_rfl
theorem lT(w:World)(v:Value)(l:List Ad)(z:Rd w 2 v l.length (aR l))(hl:l.length≤65536):Calls prog 50 #[v] w (Bl w l):=by
 obtain⟨h0,A,F,hv,R,S,H,V⟩:=z;have z:Rd w 2 v l.length (aR l):=⟨h0,A,F,hv,R,S,H,V⟩
 subst hv;cases A with
 | none =>
   obtain rfl:F=0:=H rfl;have y:l.length=0:=by omega
   have hx:l=[]:=List.eq_nil_of_length_eq_zero y;subst hx;clear h0 R S H V z hl y;have qa:=Qk w;go_in;go_wp2;go_ret;exact⟨_,rfl,World.ownsRow_nil _ _ _ _,aA.refl _ _⟩
 | some A =>
   obtain⟨w3,qb,I,W,s3⟩:=aV w #[] 82;have J:=O I;have qc:=O s3;have M:Hid (w3.ownsRow w.heap.size 82 2 (.slice (w.heap.size) 0 0) 0 []):=O (by rw[←qb];exact World.ownsRow_made w #[] 0 (Nat.le_refl _) (by unfold maxLen;omega) rfl);have r:=O (z.keep I fun _ _=>id);have q:Hid (∀E w',w'.ownsRow w.heap.size 82 2 E l.length (aR l)->aA aB w w'->Bl w l (.returned E) w'):=O (fun E w' a b=>⟨E,rfl,a,b⟩);obtain⟨n,X⟩:=zX9 l.length
   obtain⟨G,f⟩:=zX9 (aR l)
   have L:Hid (∀u∈G,u.oneCell'=true):=O (by rw[←f];exact zM _);rw[X,f] at r q;rw[X] at hl ⊢;have qd:w.heap.size≤w3.heap.size:=I.size;clear h0 R S H V z I W s3 X f;have qa:=PG w A n F;go_in
   go_wp2_with (first
    | (at_builtin;refine aP rfl (.tmp 5) (.tmp 6) 23 rfl w.heap.size 82 (.agg #[.int .i64 0,.int .i64 0]) 2 16 underlying23 OC rfl (by decide) (.slice (w.heap.size) 0 0) 0 ([]) rfl M.out (.slice (some A) n F) n G rfl r.out L.out (by unfold maxLen;omega) (by omega) (by omega) ?_
       intro E w4 j x Y s;rw[Nat.zero_add,List.nil_append] at j;have N:=O j;have K:=O (J.tT x (fun i hi e=>by have e':w.heap.size=i:=Option.some.inj e;omega));clear j x Y s))
   go_ret;exact q.out _ _ N.out K.out
theorem II(h:iD w c a m lb pid cp gv t B D Z Mm nw)(x:Ad)(I:eN x D Z):Calls prog 157 #[.pointer c,.agg (aO x).toArray] w (aK w (.bool true)):=by
 have J:Hid (fQ x D Z=true):=O ((BS h.arr.bd).2 I);have q:=O h;have r:=lN w;clear h I;go_in
 go_wp2_with ((with_reducible show WL _ _);refine bxL r 82 (.tmp 1) ((aO x).toArray) ?_)
 intro K M f r;replace q:=O (q.keep0 f);clear f;go_wp2_with fail;refine dwA aB (by kernel_rfl) ?_;intro N S j u s F;replace r:=kL r F;replace q:=O (q.keep0 F);clear F;have H:=r;have y:=q;refine tnd 0 (.agg (aO x).toArray) rfl (yieldsIf_load_mid (by rfl) 82 (.tmp 3) rfl K 0 rfl (aO x) _ (fun w' h=>aC ((j w' h).blk (H.b 0) id)) bQ rfl (by rw[bG];exact jS)) s ?_;refine tna 1 (.pointer c) rfl s ?_;refine tnb 2 (.pointer c) rfl s ?_;refine tnb 3 (.pointer c) rfl s ?_;refine tnd 4 (.pointer a) rfl (.inl ⟨by rfl,fun w' G=>by have c:World.cell? w' ⟨c,0,none⟩=some (.pointer a):=(j w' G).cell (bB.c0 y.cor) id;go_simp⟩) s ?_;refine tna 6 (.pointer c) rfl s ?_;refine tnb 7 (.pointer c) rfl s ?_;refine tnb 8 (.pointer c) rfl s ?_;refine tnd 9 (.pointer a) rfl (.inl ⟨by rfl,fun w' G=>by have c:World.cell? w' ⟨c,0,none⟩=some (.pointer a):=(j w' G).cell (bB.c0 y.cor) id;go_simp⟩) s ?_;refine wA9 5 ?_;go_wp2_with fail;refine(lS q.arr).mono ?_;rintro e R ⟨rfl,f⟩;have z:=u.out _ ((j _ s).trans f);replace r:=kL r f;replace q:=O (q.keep0 f);clear s f;go_wp2_with fail;refine⟨z,?_⟩;refine wA9 10 ?_;go_wp2_with fail;refine(xN q.arr).mono ?_;rintro e L ⟨rfl,f⟩;have A:=u.out _ ((j _ z).trans f);replace r:=kL r f;replace q:=O (q.keep0 f);clear z f;go_wp2_with fail;refine⟨A,?_⟩;refine wA9 11 ?_;go_wp2_with fail;refine(Gy x (D:Int) (Z:Int) L).mono ?_;rintro e U ⟨rfl,f⟩;have E:=u.out _ ((j _ A).trans f);replace r:=kL r f;replace q:=O (q.keep0 f);clear A f;rw[J.out];go_wp2_with fail;refine⟨E,?_⟩;refine tna 12 (.bool true) rfl E ?_;refine wpAnyH_done (by kernel_rfl) ?_ _;clear E j u H y;go_wp2;go_ret;exact aK.of r.keep
theorem Kr(h:iD w c a m lb pid cp gv t B D Z Mm nw)(s:w.heap[bc]?=some (.cells #[.pointer c] 39 (0,0)))(x:Ad)(u:eN x D Z):Calls prog 156 #[.agg (aO x).toArray,.pointer bc] w (aK w (.bool false)):=by
 have f:=O (cell_of_one s);have y:=O u;have r:=O h;have q:=lN w;clear h u s;go_in
 go_wp2_with ((with_reducible show WL _ _);refine bxL q 82 (.tmp 0) ((aO x).toArray) ?_)
 intro b2 z j q;replace r:=O (r.keep0 j);replace f:=O (j.cell f.out id);clear j;have c1:z.cell? ⟨bc,0,none⟩=some (.pointer c):=f.out
 go_wp2_with ((with_reducible show WL _ _);refine wpList_load_mid rfl 82 (.tmp 2) rfl b2 0 rfl (aO x) _ (aC (q.b 0)) bQ rfl (by rw[bG];exact jS) ?_)
 clear c1;refine(II r.out x y.out).mono ?_;rintro e A ⟨rfl,j⟩;replace q:=kL q j;replace r:=O (r.keep0 j);replace f:=O (j.cell f.out id);clear j;go_wp2;go_ret;exact aK.of q.keep
theorem Ks(h:iD w c a m lb pid cp gv t B D Z Mm nw)(y:w.heap[bc]?=some (.cells #[.pointer c] 39 (0,0)))(x:Ad)(z:eN x D Z):Calls prog 159 #[.agg (aO x).toArray,.pointer bc] w (aK w (.bool false)):=by
 have f:=O (cell_of_one y);obtain⟨d,s,rfl,E,F,G⟩:=nA z;have j:=O h;have r:=lN w;have u:=O E;clear h z y;go_in
 go_wp2_with ((with_reducible show WL _ _);refine bxL r 82 (.tmp 0) ((aO ⟨(d:Int),(s:Int)⟩).toArray) ?_)
 intro b2 A q r;replace j:=O (j.keep0 q);replace f:=O (q.cell f.out id);clear q;have c1:A.cell? ⟨bc,0,none⟩=some (.pointer c):=f.out;have c2:A.cell? ⟨b2,0,none⟩=some (.int .i64 (d:Int)):=(aD (i:=0) (r.b 0) rfl)
 go_wp2_with fail;clear c1 c2;refine(qM j.arr j.cor j.liv u.out j.cpb (j.lab _ u.out)).mono ?_;rintro e H ⟨rfl,q⟩;replace r:=kL r q;replace j:=O (j.keep0 q);replace f:=O (q.cell f.out id);clear q;go_wp2;go_ret;exact aK.of r.keep
theorem Bm(w:World)(v:Value)(l:List Ad)(q:Rd w 2 v l.length (aR l))(U:l.length≤65536)(y bc:Nat)(eg:∀args w,(callFunc y args).run prog w=.ok (.enter y args) w)(j:∀x∈l,∀w',aA aB w w'->Calls prog y #[.agg (aO x).toArray,.pointer bc] w' (aK w' (.bool false))) :
 Calls prog 206 #[v,.func (.func y) #[] #[.pointer bc]] w (aK w (.int .i64 (-1))):=by
 obtain⟨oa,K,rfl,-,-⟩:=q.form;obtain⟨n,G⟩:=zX9 l.length
 have J:=O G;rw[G] at q U ⊢;have Y:n≤K:=by obtain⟨_,a',c',R,S,h3,-⟩:=q;cases R;exact S
 have N:=O q;have E:=O j;clear q j G;go_in;go_wp2_with fail
 go_loopw [5,8] (fun _ i wr=>∃k:Nat,k≤n/\i=.int .i64 k/\Hid (aA aB w wr)) (fun _ i _=>n-(intOf i).toNat)
 case atStart=>exact⟨0,by omega,rfl,O (aA.refl _ _)⟩
 case round =>
  obtain⟨k,z,rfl,r⟩:=hrel
  by_cases F:k<n
  ·obtain⟨x,H⟩:∃x,l[k]?=some x:=⟨l[k]'(by rw[J.out];exact F),List.getElem?_eq_getElem _⟩
   have f:=N.out;rw[←J.out] at f;obtain⟨g,o,L,M,h⟩:=kF f H;obtain rfl:oa=some ⟨g,o,none⟩:=by cases M;rfl
   have u:=O (r.rangeAt h);have I:=O (E x (List.mem_of_getElem? H) wr r.out);have s:=lN wr;have V:(0:Int)≤(k:Int):=by omega
   have W:(k:Int)<(n:Int):=by omega
   have X:(k:Int)≤(K:Int):=by omega
   clear H f h M
   go_wp2_with ((with_reducible show WL _ _);refine wpList_load_mid rfl 82 (.tmp 14) rfl g (o+k*2) rfl (aO x) _ u.out bQ rfl (by rw[bG];exact jS) ?_)
   refine(I.out).mono ?_;rintro e w1 ⟨rfl,z⟩;replace s:=kL s z;replace u:=O (z.rangeAt u.out);clear z;go_wp2_with fail;have A:=O (r.trans s.keep);clear s I u
   go_roundw
   case rel=>exact⟨k+1,by omega,by go_num,A⟩
   case measure=>simp[intOf];omega
  ·obtain rfl:k=n:=by omega
   go_wp2;go_ret;exact aK.of r.out
def yR(Q:Exit->Act->World->Prop):Exit->Act->World->Prop
 | .panic _,_,_=>False
 | e,a,w=>Q e a w
theorem noP{a:Act}(h:Q .normal a w):yR Q .normal a w:=h
theorem nE{S:World->Prop}{id:Nat}{a:Act}(j:P.follows .mixedOrders=true)
 (h:wpAnyH P .any ops (yR Q) S ops.size (Array.replicate ops.size false) a { w with drawn:=w.drawn+1 }):(Code.region id ops true).wp P Q a w:=
 wp_mono (wp_region_held j h) fun e a w h=>by
  cases e<;>first|exact h|exact h.elim
theorem dwB{id:Nat}{a:Act}(U:Nat->Prop)(f:P.follows .mixedOrders=true)(h:∀wd (S:World->Prop),Hid (∀w',S w'->aA U wd w')->Hid (∀w',aA U wd w'->S w')->S wd->aA aB w wd->wpAnyH P .any ops (yR Q) S ops.size (Array.replicate ops.size false) a wd):(Code.region id ops true).wp P Q a w:=
 have e:=(aA.refl aB w).drew
 nE (S:=fun w'=>aA U w.drew w') f (h w.drew (fun w'=>aA U w.drew w') (O fun _ h=>h) (O fun _ h=>h) (aA.refl _ _) e)
theorem DE(w:World)(v:Value)(l:List Ad)(s:Rd w 2 v l.length (aR l))(q:l.length≤65536)(f bc:Nat)(y:∀args w,(callFunc f args).run prog w=.ok (.enter f args) w)(h:∀x∈l,∀w',aA aB w w'->Calls prog f #[.agg (aO x).toArray,.pointer bc] w' (aK w' (.bool false))) :
 Calls prog 155 #[v,.func (.func f) #[] #[.pointer bc]] w (aK w (.bool false)):=by
 have u:=O (Bm w v l s q f bc y h);have j:=lN w;clear s h q;go_in;go_wp2_with fail;refine(u.out).mono ?_;rintro e z ⟨rfl,r⟩;replace j:=kL j r;clear r;go_wp2;go_ret;exact aK.of j.keep
theorem F8(w:World)(v:Value)(l:List Ad)(s:Rd w 2 v l.length (aR l))(q:l.length≤65536)(f bc:Nat)(y:∀args w,(callFunc f args).run prog w=.ok (.enter f args) w)(h:∀x∈l,∀w',aA aB w w'->Calls prog f #[.agg (aO x).toArray,.pointer bc] w' (aK w' (.bool false))) :
 Calls prog 158 #[v,.func (.func f) #[] #[.pointer bc]] w (aK w v):=by
 have u:=O (Bm w v l s q f bc y h);have j:=lN w;clear s h q;go_in;go_wp2_with fail;refine(u.out).mono ?_;rintro e z ⟨rfl,r⟩;replace j:=kL j r;clear r;go_wp2;go_ret;exact aK.of j.keep
theorem EX(v e:Value)(p:Pt):spl (aF v p).toArray 0 [e]=(aF e p).toArray:=by
 unfold aF spl spl;simp
def Az(w:World)(p:Pt)(e:Ending)(w':World):Prop:=∃v,e=.returned (.tuple #[.agg (aF v p).toArray,.int .i64 0])/\w'.ownsRow w.heap.size 82 2 v p.addrs.length (aR p.addrs)/\aA aB w w'
theorem MR(h:iD w c a m lb pid cp gv t B D Z Mm nw)(pv:Value)(p:Pt)(hp:PtV w pv p)(L:p.may=true)(hh:p.hole=false)(qa:∀x∈p.addrs,eN x D Z)(K:p.addrs.length≤65536):Calls prog 110 #[.pointer c,.agg (aF pv p).toArray] w (Az w p):=by
 have I:=aJ (v:=pv) hp.sum;obtain⟨oa,ca,qb,-,-⟩:=hp.rd.form;obtain⟨pc,y⟩:=zX9 (aF pv p)
 have qh:Hid (∀u∈pc,u.oneCell'=true):=O (by rw[←y,qb];exact cK p);have R:=O y;have X:Hid (∃r,pc=pv::r):=O ⟨_,y.symm⟩;rw[y] at I ⊢;have s:=O h;have f:=O hp;have qd:=O L;have HH:=O hh;have Y:=O qa;have N:=O K;have q:=lN w;clear h hp y L hh qa K qb;have M:=s;have E:=f;go_in
 go_wp2_with ((with_reducible show WL _ _);refine bxL q 39 (.tmp 0) (#[.pointer c]) ?_)
 intro b2 w1 j q;replace s:=O (s.keep0 j);replace f:=O (f.keep j fun _ _=>id);clear j
 go_wp2_with ((with_reducible show WL _ _);refine bxL q 27 (.tmp 1) (pc.toArray) ?_)
 intro S w2 j q;replace s:=O (s.keep0 j);replace f:=O (f.keep j fun _ _=>id);clear j
 go_wp2_with ((with_reducible show WL _ _);refine alL q 27 (.agg aH.toArray) (aH.toArray) bA ?_)
 intro b4 w3 j q;replace s:=O (s.keep0 j);replace f:=O (f.keep j fun _ _=>id);clear j;have c1:w3.cell? ⟨b2,0,none⟩=some (.pointer c):=(aD (i:=0) (q.b 2) rfl)
 go_wp2_with fail;clear c1;refine(sE s.cor s.arr).mono ?_;rintro e w4 ⟨rfl,j⟩;replace q:=kL q j;replace s:=O (s.keep0 j);replace f:=O (f.keep j fun _ _=>id);clear j
 go_wp2_with ((with_reducible show WL _ _);refine wpList_load_mid rfl 27 (.tmp 3) rfl S 0 rfl pc _ (aC (q.b 1)) aG rfl (szP9 I) ?_)
 refine((by rw[←R.out];exact lF w4 pv p f.out:Ka w4 (mY w4 p.may))).mono ?_;rintro e w5 ⟨rfl,j⟩;replace q:=kL q j;replace s:=O (s.keep0 j);replace f:=O (f.keep j fun _ _=>id);clear j;rw[qd.out]
 go_wp2_with ((with_reducible show WL _ _);refine aM (by rfl) 27 (.tmp 3) rfl S 0 rfl pc _ (aC (q.b 1)) aG rfl (szP9 I) ?_)
 refine((by rw[←R.out];exact cE w5 pv p f.out:Ka w5 (aY w5 p.hole))).mono ?_;rintro e w6 ⟨rfl,j⟩;replace q:=kL q j;replace s:=O (s.keep0 j);replace f:=O (f.keep j fun _ _=>id);clear j;rw[HH.out];have c1:w6.cell? ⟨S,0,none⟩=some (pv):=(by obtain⟨r,e⟩:=X.out;exact aD (i:=0) (q.b 1) (by rw[e];rfl))
 go_wp2_with fail;clear c1;refine(DE w6 pv p.addrs f.rd N.out 156 b2 (enters_of func156 (by kernel_rfl) rfl) (fun x hx w' k=>Kr (s.keep0 k) (k.blk (q.b 2) id) x (Y x hx))).mono ?_;rintro e w7 ⟨rfl,j⟩;replace q:=kL q j;replace s:=O (s.keep0 j);replace f:=O (f.keep j fun _ _=>id);clear j;have c1:w7.cell? ⟨S,0,none⟩=some (pv):=(by obtain⟨r,e⟩:=X.out;exact aD (i:=0) (q.b 1) (by rw[e];rfl))
 go_wp2_with fail;clear c1;have qg:=O q.keep.size;have U:=O (q.lt 1).2;have V:=O (q.lt 0).2;refine(lT w7 pv p.addrs f.rd N.out).mono ?_;rintro e w8 ⟨v1,rfl,ho,j⟩;obtain⟨F,G,rfl,-,-⟩:=(Rd.of_owns ho).form;replace q:=kL q j;replace s:=O (s.keep0 j);replace f:=O (f.keep j fun _ _=>id);clear j;have W:=O (fun(i:Nat) (hi:(Value.slice F p.addrs.length G).ownBlock=some i)=>show w7.heap.size≤i from aU ho hi);have H:=O (aW ho qg.out);clear ho;go_wp2_with fail;refine(F8 w8 (.slice F p.addrs.length G) p.addrs (Rd.of_owns H.out) N.out 159 b2 (enters_of func159 (by kernel_rfl) rfl) (fun x hx w' k=>Ks (s.keep0 k) (k.blk (q.b 2) id) x (Y x hx))).mono ?_;rintro e w9 ⟨rfl,j⟩;replace q:=kL q j;replace s:=O (s.keep0 j);replace f:=O (f.keep j fun _ _=>id);replace H:=O (j.owns H.out fun _ _=>id);clear j
 go_wp2_with ((with_reducible show WL _ _);refine sta 23 (.tmp 32) (.tmp 31) S 0 ([.slice F p.addrs.length G]) (q.b 1) (by first|decide|(rw[rfl];exact Nat.le_refl _)|simp[I]) (by kernel_rfl) (one9) ?_)
 intro wa j J;have A:(aF (.slice F p.addrs.length G) p).length=35:=aJ E.sum;obtain⟨pd,z⟩:=zX9 (aF (.slice F p.addrs.length G) p)
 have qf:=O z;have qe:Hid (∀u∈pd,u.oneCell'=true):=O (by rw[←z];exact cK p);rw[z] at A;replace J:wa.heap[S]?=some (.cells pd.toArray 27 (0,0)):=by rw[J,←R.out,EX,z]
 clear z;replace q:=O (q.set 1 j J);replace s:=O (M.keep0 q.keep);replace f:=O (E.keep q.keep fun _ _=>id);replace H:=O (j.owns H.out fun i hi e=>by have:=W.out i hi;have:=U.out;have:=V.out;omega);clear j J
 go_wp2_with ((with_reducible show WL _ _);first
  | refine wpList_load_mid rfl 27 (.tmp 3) rfl S 0 rfl pd _ (aC (q.b 1)) aG rfl (szP9 A) ?_
  | refine sta 27 (.tmp 4) (.tmp 33) b4 0 pd (q.b 0) (by first|decide|(rw[A];exact Nat.le_refl _)|simp[A,aE]) (szP9 A) qe.out ?_)
 intro wb j J;rw[aI _ _ (by first|rfl|simp[A,aE])] at J;replace q:=O (q.set 0 j J);replace s:=O (M.keep0 q.keep);replace f:=O (E.keep q.keep fun _ _=>id);replace H:=O (j.owns H.out fun i hi e=>by have:=W.out i hi;have:=U.out;have:=V.out;omega);clear j J;have HR:Hid (Az w p (.returned (.tuple #[.agg pd.toArray,.int .i64 0])) wb):=O ⟨_,by rw[qf.out],H.out,q.keep⟩;have qc:=O (q.b 0);clear q s f H M E;go_wp2_with fail;refine bodyPost_ret (aT rfl _ _ b4 _ _ _ _ rfl qc.out aG rfl (by rw[List.size_toArray,A];exact cC)) rfl ?_;exact HR.out
theorem oX(w:World)(c e:Nat)(f:Int)(s:TypeId)(h:w.heap[e]?=some (.cells #[.int .i64 f] s (0,0)))(h10:f≠10):CallsD prog 48 #[.pointer c,.pointer e] .returning w fun r u w'=>u=.returning/\aK w (.tuple #[]) r w':=by
 have j:=O (cell_of_one h);have x:(f == 10)=false:=by rw[beq_eq_false_iff_ne];exact h10
 have q:=lN w;clear h
 go_enter_d func48,ntmps48
 have c1:w.cell? ⟨e,0,none⟩=some (.int .i64 f):=j.out;go_wp2_with fail;clear c1;refine bodyPost_ret (results_none rfl _ _ _) rfl ?_;exact aK.of q.keep
theorem AA{u:Tmp}{tp:TypeId}(h:fn.results=#[.tmp u,.cell p tp])(tmps:Array Value)(P:Program)(w:World)(a:Addr)(x:Value)(e:tmps.getD p undef=.pointer (some a))(f:(loadVar tp a).run P w=.ok x w) :
 (results fn tmps).run P w=.ok (.tuple #[tmps.getD u undef,x]) w:=by
 simp only[results,h];simp only[Array.getD_eq_getD_getElem?] at e;simp[Result.andThen,asAddr,e,f]
theorem MS(h:iD w c a m lb pid cp gv t B D Z Mm nw)(pv:Value)(p:Pt)(hp:PtV w pv p)(qa:p.may=true)(hh:p.hole=false)(qt:∀x∈p.addrs,eN x D Z)(Y:p.addrs.length≤65536){s:Nat}{rest:List Ad}(qf:p.addrs=⟨(d:Int),(s:Int)⟩::rest)(qb:p.sum=dD (Mm d s)):Calls prog 74 #[.pointer c,.agg (aF pv p).toArray] w (gJ w (Mm d s)):=by
 have qr:=aJ (v:=pv) hp.sum;obtain⟨oa,ca,qu,-,-⟩:=hp.rd.form;obtain⟨pc,J⟩:=zX9 (aF pv p)
 have zd:Hid (∀u∈pc,u.oneCell'=true):=O (by rw[←J,qu];exact cK p);have q1:=O J;have q9:(((p.addrs.length:Nat):Int) == 0)=false:=by rw[beq_eq_false_iff_ne,qf];simp;omega
 rw[J] at qr ⊢;obtain⟨n,hn⟩:=zX9 p.addrs.length
 rw[hn] at q9;have HN:=O hn;have A:=O h;have q:=O hp;have qj:=O qa;have HH:=O hh;have ql:=O qt;have qx:=O Y;have qz:=O qf;have q3:=O qb;have y:=lN w;clear h hp J qa hh qt Y qu qf qb hn
 go_enter_defers func74,ntmps74
 have V:=A;have E:=q
 go_wp2_with ((with_reducible show WL _ _);refine bxL y 27 (.tmp 1) (pc.toArray) ?_)
 intro b3 w1 j y;replace A:=O (A.keep0 j);replace q:=O (q.keep j fun _ _=>id);clear j
 go_wp2_with ((with_reducible show WL _ _);refine alL y 49 (.int .i64 0) (#[.int .i64 0]) lH ?_)
 intro K w2 j y;replace A:=O (A.keep0 j);replace q:=O (q.keep j fun _ _=>id);clear j
 go_wp2_with ((with_reducible show WL _ _);refine wpList_load_mid rfl 27 (.tmp 3) rfl b3 0 rfl pc _ (aC (y.b 1)) aG rfl (szP9 qr) ?_)
 have qc:=O (y.lt 0).2;refine((by rw[←q1.out];exact MR A.out pv p q.out qj.out HH.out ql.out qx.out:Ka w2 (Az w2 p))).mono ?_;rintro e w3 ⟨v1,rfl,W,j⟩;obtain⟨G,H,rfl,-,-⟩:=(Rd.of_owns W).form;have qi:=O (fun(i:Nat) (R:(Value.slice G p.addrs.length H).ownBlock=some i) (e:i=K)=>show False from by have:=aU W R;have:=qc.out;omega);have HO:=O W;clear W;replace y:=kL y j;replace A:=O (A.keep0 j);replace q:=O (q.keep j fun _ _=>id);clear j;have I:(aF (.slice G p.addrs.length H) p).length=35:=aJ E.sum;have z:=O (show PtV w3 (.slice G p.addrs.length H) p from⟨Rd.of_owns HO.out,E.ads,E.sum⟩);obtain⟨pd,F⟩:=zX9 (aF (.slice G p.addrs.length H) p)
 have q0:=O F;have qy:Hid (∀u∈pd,u.oneCell'=true):=O (by rw[←F];exact cK p);have qk:Hid (∃r,pd=.slice G n H::r):=O ⟨_,by rw[←HN.out];exact F.symm⟩;rw[F] at I;rw[F];clear F
 go_wp2_with ((with_reducible show WL _ _);refine al 27 (.agg aH.toArray) (aH.toArray) bA ?_)
 intro b6 w4 qp qq X
 go_wp2_with ((with_reducible show WL _ _);refine sta 27 (.tmp 6) (.tmp 12) b6 0 pd X (by first|decide|(rw[List.size_toArray,I];exact Nat.le_refl _)|simp[I,aE]) (szP9 I) qy.out ?_)
 intro w5 j M;rw[aI _ _ (by first|rfl|(rw[List.size_toArray,I];rfl)|simp[I,aE])] at M;replace j:=tX qq j (fun i R e=>by omega);replace y:=lW y qp j M;replace A:=O (A.keep0 j);replace q:=O (q.keep j fun _ _=>id);replace z:=O (z.keep j fun _ _=>id);clear qp j M qq X
 go_wp2_with ((with_reducible show WL _ _);refine sta 49 (.tmp 5) (.tmp 13) K 0 ([.int .i64 0]) (y.b 1) (by simp) (by kernel_rfl) (one9) ?_)
 intro w6 j M;replace M:w6.heap[K]?=some (.cells #[.int .i64 0] 49 (0,0)):=M;replace y:=O (y.set 1 j M);replace A:=O (V.keep0 y.keep);replace q:=O (E.keep y.keep fun _ _=>id);replace z:=O (z.keep j fun i R e=>qi.out i R e);clear j M;have c1:w6.cell? ⟨K,0,none⟩=some (.int .i64 0):=(aD (i:=0) (y.b 1) rfl)
 have c2:w6.cell? ⟨b6,0,none⟩=some (.slice G n H):=(by obtain⟨r,e⟩:=qk.out;exact aD (i:=0) (y.b 0) (by rw[e];rfl))
 go_wp2_with fail;clear c1 c2;have qv:Hid (¬c=K):=O (fun e=>by have:=lt_of_block V.cor.top;have:=(y.lt 1).1;omega);go_wp2_with fail;refine dwB (fun k=>k=K) (by kernel_rfl) ?_;intro w7 S N qe hS U;replace y:=kL y U;replace A:=O (A.keep0 U);replace q:=O (q.keep U fun _ _=>id);replace z:=O (z.keep U fun _ _=>id);clear U;have qd:=y;have qh:=A;have qm:=q;have qn:=z;refine tna 0 (.pointer c) rfl hS ?_;refine tnb 1 (.pointer c) rfl hS ?_;refine tnb 2 (.pointer (some ⟨c,1,none⟩)) rfl hS ?_;refine tnd 3 (.pointer m) rfl (.inl ⟨by rfl,fun w' za=>by have c:World.cell? w' ⟨c,1,none⟩=some (.pointer m):=(N w' za).cell (bB.c1 qh.cor) qv.out;go_simp⟩) hS ?_;refine tnd 4 (.agg pd.toArray) rfl (yieldsIf_load_mid (by rfl) 27 (.tmp 6) rfl b6 0 rfl pd _ (fun w' h=>aC ((N w' h).blk (qd.b 0) (fun e=>by exact bH (i:=1) qd.nd rfl 0 (by decide) rfl e))) aG rfl (szP9 I)) hS ?_;refine wA9 5 ?_;go_wp2_with fail;have q5:=O y.keep.size;have qc:=O (y.lt 1).2;refine((by rw[←q0.out];exact MK A.arr A.mir (.slice G p.addrs.length H) p z.out qj.out HH.out ql.out qz.out q3.out:Ka w7 (gJ w7 (Mm d s)))).mono ?_;rintro e w8 ⟨v2,rfl,W,j⟩;obtain⟨ga,gc,rfl,-,-⟩:=(Rd.of_owns W).form;have L:=qe.out _ ((N _ hS).trans j.any);replace y:=kL y j;replace A:=O (A.keep0 j);replace q:=O (q.keep j fun _ _=>id);replace z:=O (z.keep j fun _ _=>id);clear hS j;have qw:=O (fun(i:Nat) (R:(Value.slice ga 256 gc).ownBlock=some i) (e:i=K)=>show False from by have:=aU W R;have:=qc.out;omega);have HG:=O (aW W q5.out);clear W;go_wp2_with fail;refine⟨L,?_⟩;refine tnb 6 (.slice ga 256 gc) rfl L ?_;refine tnb 7 (.int .i64 0) rfl L ?_;refine tna 8 (.slice ga 256 gc) rfl L ?_;refine wA9 9 ?_;refine sta 49 (.tmp 5) (.tmp 30) K 0 ([.int .i64 0]) (y.b 1) (by simp) (by kernel_rfl) (one9) ?_;intro w9 j M;replace M:w9.heap[K]?=some (.cells #[.int .i64 0] 49 (0,0)):=M;have qo:=qe.out _ ((N _ L).tT j (fun i R e=>(e)));clear L;replace y:=O (y.set 1 j M);replace A:=O (V.keep0 y.keep);replace q:=O (E.keep y.keep fun _ _=>id);replace z:=O (z.keep j fun i R e=>qi.out i R e);replace HG:=O (j.owns HG.out fun i R e=>qw.out i R e);clear j M;refine wpList_nil ?_;refine⟨qo,?_⟩;refine wpAnyH_done (by kernel_rfl) ?_ _;clear qo N qe qd qh qm qn;refine noP ?_;have HR:=O y.keep;have qg:=O (y.b 1);clear y A q V E z;go_wp2_with fail;refine leaves_cons (f:=48) (args:=#[.pointer c,.pointer K]) (by simp) (by simp[go_sem]) ?_;refine(oX w9 c K 0 _ qg.out (by decide)).mono ?_;rintro e u' zb ⟨rfl,rfl,j⟩;have c5:zb.cell? ⟨K,0,none⟩=some (.int .i64 0):=aD (i:=0) (j.blk qg.out id) rfl;refine⟨_,AA rfl _ _ _ ⟨K,0,none⟩ (.int .i64 0) rfl (by go_simp),?_⟩;exact⟨_,rfl,j.owns HG.out fun _ _=>id,HR.trans j⟩
structure iN(w:World)(c a m lb g b2:Nat)(lc:Nat->Option Nat)(pid:List UInt8)(cp:Nat)(t:Lst)(B:Nat->Prop)(D Z:Nat)(Mm:Nat->Nat->List UInt8)(nw:Nat)(Ls:List Ad):Prop where
 cor:iD w c a m lb pid cp (.pointer (some ⟨g,0,none⟩)) t B D Z Mm nw
 led:dU w 0 g b2 lc D Z Ls
 far:∀k,Own g b2 lc D k->¬B k/\k≠c/\k≠m/\k≠lb/\¬t.Own k
 top:¬B c/\¬B m/\¬B lb/\∀i,t.Own i->¬B i/\i≠c/\i≠m/\i≠lb
 many:nw+uE (cJ Ls D Z)≤40000+8*t.u.txg.toNat
theorem iN.keep0(h:iN w c a m lb g b2 lc pid cp t B D Z Mm nw Ls)(k:aA aB w w'):iN w' c a m lb g b2 lc pid cp t B D Z Mm nw Ls:=⟨h.cor.keep0 k,h.led.keep0 k,h.far,h.top,h.many⟩
theorem Kt(D:Nat):(List.replicate D true).map Value.bool=lJ D:=by unfold lJ;rw[List.map_replicate]
theorem Ku{base:Nat}(h:w.ownsRow base 4 1 v D (lJ D)):Rd w 1 v (List.replicate D true).length ((List.replicate D true).map Value.bool):=by
 rw[Kt,List.length_replicate];exact Rd.of_owns h
theorem IJ{M:List Ad}{th:List Bool}(f:cI (cJ M D Z) th cp=some l):uE (cJ (M++bF M Z l) D Z)+l.length=uE (cJ M D Z):=by
 rw[zP f];have e:=fX f;refine NM l _ e.2.2.2.1 fun i h=>⟨(e.2.2.2.2 i h).1,?_⟩
 have:=(e.2.2.2.2 i h).2;unfold fA at this;simp only[Bool.and_eq_true,decide_eq_true_eq] at this;omega
theorem MT(b:List UInt8)(l:List Ad)(Mm:Nat->Nat->List UInt8)(f:∀x∈l,eN x D Z)(d:Nat):mF b l Mm d 0=Mm d 0:=
 Au b l Mm d 0 fun x h e=>by
  have:=(f x h).2.2;have:=e.2;omega
theorem iN.lt(h:iN w c a m lb g b2 lc pid cp t B D Z Mm nw Ls)(f:B k\/Own g b2 lc D k):k<w.heap.size:=
 f.elim (fun e=>h.cor.arr.lt e) fun e=>(h.led.own_lt e).2
theorem OD(v:Value)(p:Pt)(h:p.sum.length=32):spl (spl (spl (spl aH.toArray 0 [v]) 1 [.int .i64 p.birth]) 2 [.int .i64 p.level]) 3 (p.sum.map vb)=(aF v p).toArray:=by
 have e:spl (spl (spl aH.toArray 0 [v]) 1 [.int .i64 p.birth]) 2 [.int .i64 p.level]=(v::.int .i64 p.birth::.int .i64 p.level::(List.replicate 32 (Value.int .u8 0))).toArray:=by rfl
 rw[e];have f:(p.sum.map vb).length=32:=by rw[List.length_map,h]
 apply Array.ext_getElem?;intro j;rw[nO _ _ _ _ (by rw[f];simp),f];unfold aF;rw[List.getElem?_toArray,List.getElem?_toArray]
 match j with
 | 0=>rfl
 | 1=>rfl
 | 2=>rfl
 | j+3 =>
   by_cases q:j<32
   ·rw[if_pos ⟨by omega,by omega⟩,Nat.add_sub_cancel];rfl
   ·rw[if_neg (by omega),List.getElem?_eq_none (by simp;omega),List.getElem?_eq_none (by simp[h];omega)]
theorem iN.keepT(h:iN w c a m lb g b2 lc pid cp t B D Z Mm nw Ls)(k:aA T w w')(f:∀i,T i->i≠c/\i≠m/\i≠lb/\¬B i/\¬Own g b2 lc D i/\¬t.Own i):iN w' c a m lb g b2 lc pid cp t B D Z Mm nw Ls:=
 ⟨h.cor.keep k fun i e=>⟨(f i e).1,(f i e).2.1,(f i e).2.2.1,(f i e).2.2.2.1,(f i e).2.2.2.2.2⟩,h.led.keep k fun i e=>(f i e).2.2.2.2.1,h.far,h.top,h.many⟩
theorem iN.fresh(h:iN w c a m lb g b2 lc pid cp t B D Z Mm nw Ls)(r:w.heap.size≤b):∀i,i=b->i≠c/\i≠m/\i≠lb/\¬B i/\¬Own g b2 lc D i/\¬t.Own i:=by
 rintro i rfl;have f:=lt_of_block h.cor.cor.top;have j:=lt_of_block h.cor.mir;have q:=lt_of_block h.cor.liv;exact⟨by omega,by omega,by omega,fun e=>by have:=h.lt (.inl e);omega,fun e=>by have:=h.lt (.inr e);omega,fun e=>by have:=h.cor.cor.lst.lt e;omega⟩
theorem fS{q:Tmp}{f s:TypeId}(h:fn.results=#[.cell p f,.cell q s])(tmps:Array Value)(w:World)(g:Nat)(t:TypeId)(e:Array Value)(fr:Nat×Nat)(d:TypeDesc)
 (j:tmps.getD p undef=.pointer g) (y:w.heap[g]?=some (.cells e t fr)) (A:P.underlying f=some d) (u:(match d with|.struct _|.array _ _=>true|_=>false)=true) (z:(P.info? f).map (·.size)=some e.size)
 (a:Addr) (x:Value) (r:tmps.getD q undef=.pointer (some a)) (E:(loadVar s a).run P w=.ok x w):(results fn tmps).run P w=.ok (.tuple #[.agg e,x]) w:=by
 simp only[Array.getD_eq_getD_getElem?] at j r;simp[results,h,j,r,asAddr,Sem.run_bind,Result.andThen,run_loadVar_row w g t f e fr d y A u z,E]
def EY(w:World)(c a m lb g b2:Nat)(lc:Nat->Option Nat)(pid:List UInt8)(cp:Nat)(t:Lst)(B:Nat->Prop)(D Z:Nat)(Mm:Nat->Nat->List UInt8)(nw:Nat)(Ls:List Ad)(lv:Nat)(j:List UInt8)(f:List Ad)(e:Ending)(w':World):Prop:=
 ∃v h,e=.returned (.tuple #[.agg (aF v ⟨f,t.u.txg+1,(lv:Int),dD j⟩).toArray,.int .i64 0])/\w'.ownsRow w.heap.size 82 2 v f.length (aR f)/\iN w' c a m lb g b2 lc pid cp t h D Z (mF j f Mm) (nw+f.length) (Ls++f)/\(∀k,h k->B k\/w.heap.size≤k)/\(∀k,v.ownBlock=some k->¬h k/\¬Own g b2 lc D k)/\aA (fun k=>B k\/Own g b2 lc D k) w w'
theorem OE(h:iN w c a m lb g b2 lc pid cp t B D Z Mm nw Ls)(ht:0≤t.u.txg/\t.u.txg<2147483648)(lv:Nat)(qz:lv≤3)(vv:Value)(bs:List UInt8)(R:bs.length=256)(E:Rd w 1 vv 256 (bs.map vb))(qk:∀i,vv.ownBlock=some i->¬B i/\¬Own g b2 lc D i)(hc:cI (cJ Ls D Z) (List.replicate D true) cp=none):Calls prog 124 #[.pointer c,.int .i64 (lv:Int),vv] w (aK w (.tuple #[.agg aH.toArray,.int .i64 15])):=by
 obtain⟨vp,vc,rfl,-,-⟩:=E.form;have qq:=h.led.bd;have U:=h.cor.cpb;have qn:=O (Ec (L:=Ls) qq (List.length_replicate (n:=D) (a:=true)) U.1 U.2.1);have qm:=O hc;have qt:¬((lv:Int)<0):=by omega
 have qu:¬((3:Int)<(lv:Int)):=by omega
 have q0:¬((2147483648:Int)≤t.u.txg):=by omega
 have HT:=O ht;have qv:=O R;have qy:=O qk;have qw:=O U
 have qp:Hid (∀i,(Value.slice vp 256 vc).ownBlock=some i->i<w.heap.size):=O (fun i H=>by
  obtain⟨k,W,X⟩:=E.lt (by rw[List.length_map,R];decide);rw[W] at H;cases H;exact X)
 have u:=O h;have r:=O E;have qe:=O h;have s:=lN w;clear h E qk ht R hc
 go_enter_defers func124,ntmps124
 go_wp2_with ((with_reducible show WL _ _);refine alL s 27 (.agg aH.toArray) (aH.toArray) bA ?_)
 intro V w1 j s;replace u:=O (u.keep0 j);replace r:=O (r.keep j fun _ _=>id);clear j
 go_wp2_with ((with_reducible show WL _ _);refine alL s 49 (.int .i64 0) (#[.int .i64 0]) lH ?_)
 intro F w2 j s;replace u:=O (u.keep0 j);replace r:=O (r.keep j fun _ _=>id);clear j;go_wp2_with fail;refine(sE u.cor.cor u.cor.arr).mono ?_;rintro e w3 ⟨rfl,j⟩;replace s:=kL s j;replace u:=O (u.keep0 j);replace r:=O (r.keep j fun _ _=>id);clear j;have c1:w3.cell? ⟨c,36,none⟩=some (.pointer g):=(bB.gv_ u.cor.cor)
 have c2:w3.cell? ⟨c,39,none⟩=some (.int .i64 t.u.txg):=(bB.txg_ u.cor.cor)
 go_wp2_with fail;clear c1 c2
 have qh:Hid (¬(c=F\/B c\/Own g b2 lc D c)):=O (by
  rintro (e|e|e)
  ·have:=lt_of_block qe.cor.cor.top;have:=(s.lt 0).1;omega
  ·exact u.top.1 e
  ·exact(u.far c e).2.1 rfl)
 have qa:=O (s.lt 0);have qo:=O (qe.fresh qa.1);go_wp2_with fail;refine dwB (fun k=>k=F\/B k\/Own g b2 lc D k) (by kernel_rfl) ?_;intro w4 S q A z I;replace s:=kL s I;replace u:=O (u.keep0 I);replace r:=O (r.keep I fun _ _=>id);clear I;have qg:=s;have K:=u;have qi:=r;refine tna 0 (.pointer c) rfl z ?_;refine tnb 1 (.pointer c) rfl z ?_;refine tnb 2 (.pointer (some ⟨c,36,none⟩)) rfl z ?_;refine tnd 3 (.pointer g) rfl (.inl ⟨by rfl,fun w' G=>by have c:World.cell? w' ⟨c,36,none⟩=some (.pointer g):=(q w' G).cell (bB.gv_ K.cor.cor) qh.out;go_simp⟩) z ?_;refine tna 4 (.pointer c) rfl z ?_;refine tna 6 (.pointer c) rfl z ?_;refine tnb 7 (.pointer c) rfl z ?_;refine tnb 8 (.pointer (some ⟨c,34,none⟩)) rfl z ?_;refine tnd 9 (.int .i64 (cp:Int)) rfl (.inl ⟨by rfl,fun w' G=>by have c:World.cell? w' ⟨c,34,none⟩=some (.int .i64 (cp:Int)):=(q w' G).cell (bB.cp_ K.cor.cor) qh.out;go_simp⟩) z ?_;refine wA9 5 ?_;go_wp2_with fail;refine(Cc u.cor).mono ?_;rintro e w5 ⟨v1,rfl,ho,j⟩;obtain⟨wa,wc,rfl,-,-⟩:=(Rd.of_owns ho).form;have M:=O ho;clear ho;have x:=A.out _ ((q _ z).trans j.any);replace s:=kL s j;replace u:=O (u.keep0 j);replace r:=O (r.keep j fun _ _=>id);clear z j;go_wp2_with fail;refine⟨x,?_⟩;refine wA9 10 ?_;go_wp2_with fail;refine(Eb w5 0 g b2 D Z lc Ls u.led (.slice wa D wc) (List.replicate D true) (cp:Int) (Ku M.out)).mono ?_;rintro e w6 hm;unfold jH at hm;rw[if_pos qn.out,Int.toNat_natCast,qm.out] at hm;obtain⟨rfl,j⟩:=hm;have y:=A.out _ ((q _ x).trans j.any);replace s:=kL s j;replace u:=O (u.keep0 j);replace r:=O (r.keep j fun _ _=>id);replace M:=O (j.owns M.out fun _ _=>id);clear x j;go_wp2_with fail;refine⟨y,?_⟩;refine tna 11 (.tuple #[.slice none 0 0,.int .i64 15]) rfl y ?_;refine tnb 12 (.slice none 0 0) rfl y ?_;refine tnb 13 (.int .i64 15) rfl y ?_;refine tna 14 (.slice none 0 0) rfl y ?_;refine wA9 15 ?_;refine sta 49 (.tmp 7) (.tmp 60) F 0 ([.int .i64 15]) (s.b 0) (by simp) (by kernel_rfl) (one9) ?_;intro Y j E;replace E:Y.heap[F]?=some (.cells #[.int .i64 15] 49 (0,0)):=E;have qj:=A.out _ ((q _ y).tT j (fun i H e=>.inl e));clear y;replace s:=O (s.set 0 j E);replace u:=O (u.keepT j qo.out);replace r:=O (r.keep j (fun i H e=>by have:=qp.out i H;have:=qa.1;omega));replace M:=O (j.owns M.out fun i H e=>by have:=aU M.out H;have:=(qg.lt 0).2;omega);clear j E;refine wpList_nil ?_;refine⟨qj,?_⟩;refine wpAnyH_done (by kernel_rfl) ?_ _;clear qj q A qg K qi;refine noP ?_;have c1:Y.cell? ⟨F,0,none⟩=some (.int .i64 15):=(aD (i:=0) (s.b 0) rfl)
 go_wp2_with fail;clear c1;have qb:=O (s.b 1);have qc:=O (s.b 0);have J:=O (And.intro (s.lt 1).1 (s.lt 0).1);have qf:Hid (aA aB w Y):=O s.keep;clear s u r M;obtain⟨S,N⟩:∃S:World->Prop,S=fun w'=>aA aB w w'/\w'.heap[V]?=some (.cells aH.toArray 27 (0,0))/\w'.heap[F]?=some (.cells #[.int .i64 15] 49 (0,0)):=⟨_,rfl⟩
 have q:=O (show ∀w',S w'->_ from fun w' h=>by rw[N] at h;exact h);have A:=O (show ∀w',_->S w' from fun w' h=>by rw[N];exact h);have z:S Y.drew:=A.out _ ⟨qf.drew,qb.out,qc.out⟩;clear N qb qc qf;refine nE (S:=S) (by kernel_rfl) ?_;change wpAnyH _ _ _ _ _ _ _ _ Y.drew;generalize Y.drew=wy at z ⊢;refine tnd 0 (.agg aH.toArray) rfl (yieldsIf_load_mid (by rfl) 27 (.tmp 6) rfl V 0 rfl aH _ (fun w' h=>aC (q w' h).2.1) aG rfl (szP9 aE)) z ?_;refine tnd 1 (.int .i64 15) rfl (.inl ⟨by rfl,fun w' G=>by have c:World.cell? w' ⟨F,0,none⟩=some (.int .i64 15):=aD (i:=0) (q w' G).2.2 rfl;go_simp⟩) z ?_;have qx:=J;refine wA9 2 ?_;refine sta 27 (.tmp 6) (.tmp 63) V 0 aH (q _ z).2.1 (by rw[List.size_toArray,Nat.zero_add];exact Nat.le_refl _) (szP9 aE) (cK zPt) ?_;intro wz j E;rw[aI _ _ (by rw[List.size_toArray])] at E
 have x:S wz:=A.out _ ⟨(q _ z).1.tT j (fun i H e=>by have:=J.1;omega),E,by
  by_cases e:F=V
  ·have W:=(q _ z).2.1;have X:=(q _ z).2.2
   rw[e,W] at X;cases X
  ·exact j.blk (q _ z).2.2 e⟩
 clear z j E;refine wpList_nil ?_;refine⟨x,?_⟩;refine wA9 3 ?_;refine sta 49 (.tmp 7) (.tmp 64) F 0 [.int .i64 15] (q _ x).2.2 (by simp) (by kernel_rfl) (one9) ?_;intro wu j E;replace E:wu.heap[F]?=some (.cells #[.int .i64 15] 49 (0,0)):=E
 have y:S wu:=A.out _ ⟨(q _ x).1.tT j (fun i H e=>by have:=J.2;omega),by
  by_cases e:V=F
  ·have W:=(q _ x).2.1;have X:=(q _ x).2.2
   rw[e,X] at W;cases W
  ·exact j.blk (q _ x).2.1 e,E⟩
 clear x j E;refine wpList_nil ?_;refine⟨y,?_⟩;refine wpAnyH_done (by kernel_rfl) ?_ _;refine noP ?_;have HR:=O (q _ y);clear q A y;have qd:=O HR.2.2;have ql:=O HR.2.1;go_wp2_with fail;refine leaves_cons (f:=48) (args:=#[.pointer c,.pointer F]) (by simp) (by simp[go_sem]) ?_;refine(oX wu c F 15 _ qd.out (by decide)).mono ?_;rintro e u' qr ⟨rfl,rfl,j⟩;have c7:qr.cell? ⟨F,0,none⟩=some (.int .i64 15):=aD (i:=0) (j.blk qd.out id) rfl;refine⟨_,fS rfl _ _ V _ _ _ _ rfl (j.blk ql.out id) aG rfl (by rw[List.size_toArray,aE];exact cC) ⟨F,0,none⟩ (.int .i64 15) rfl (by go_simp),?_⟩;exact⟨rfl,HR.1.trans j⟩
theorem IK{L:List Ad}(h:l.Nodup):((bF L Z l).map (·.dev)).Nodup:=by
 unfold bF;rw[List.map_map];have:((fun(x:Ad)=>x.dev) ∘ fun(d:Nat)=>(⟨(d:Int),(bD L d Z).headD 0⟩:Ad))=fun(d:Nat)=>(d:Int):=rfl
 rw[this];show List.Pairwise _ _;rw[List.pairwise_map];exact h.imp fun h e=>h (by exact_mod_cast e)
theorem Kv(e:cI (cJ Ls D Z) (List.replicate D true) cp=some l)(h:1≤cp)(j:cp≤3)(q:cp≤D):1≤(bF Ls Z l).length/\(bF Ls Z l).length≤3:=by
 have:=(fX e).2.1;have f:upN (List.replicate D true)=D:=by unfold upN;rw[List.countP_replicate];rfl
 rw[mX,this];unfold lX;rw[f];omega
theorem Kw(h:iN w c a m lb g b2 lc pid cp t B D Z Mm nw Ls)(ht:0≤t.u.txg/\t.u.txg<2147483648)(lv:Nat)(xa:lv≤3)(vv:Value)(bs:List UInt8)(q1:bs.length=256)(E:Rd w 1 vv 256 (bs.map vb))(zq:∀i,vv.ownBlock=some i->¬B i/\¬Own g b2 lc D i)(zo:∀x,eN x D Z->dS x)(hc:cI (cJ Ls D Z) (List.replicate D true) cp=some l):Calls prog 124 #[.pointer c,.int .i64 (lv:Int),vv] w (EY w c a m lb g b2 lc pid cp t B D Z Mm nw Ls lv bs (bF Ls Z l)):=by
 have q9:=Kv hc h.cor.cpb.1 h.cor.cpb.2.1 h.cor.cpb.2.2;have qn:Hid (∀x∈bF Ls Z l,eN x D Z):=O fun x hx=>(BS h.led.bd).1 (CG h.led.bd hc hx).1
 have ze:=O (IK (L:=Ls) (Z:=Z) (fX hc).2.2.2.1);have zi:=O (IJ hc);have qx:Hid (l.length=(bF Ls Z l).length):=O (mX _ _ _).symm;have zg:=O h.many;have G:=O h.top;have qt:=O h.far;obtain⟨R,q5⟩:=zX9 (bF Ls Z l)
 have zy:=O q5;rw[q5] at q9 qn ze zi qx ⊢;have qv:=O q9;have zt:Hid (jE R):=O fun x hx=>zo x (qn x hx)
 clear q9 q5 zo;obtain⟨vp,vc,rfl,-,-⟩:=E.form;have z3:=h.led.bd;have q3:=h.cor.cpb;have zw:=O (Ec (L:=Ls) z3 (List.length_replicate (n:=D) (a:=true)) q3.1 q3.2.1);have zv:=O hc;have z6:¬((lv:Int)<0):=by omega
 have z7:¬((3:Int)<(lv:Int)):=by omega
 have xc:¬((2147483648:Int)≤t.u.txg):=by omega
 have HT:=O ht;have qu:=O q1;have qz:=O zq;have z9:=O q3
 have qa:Hid (∀i,(Value.slice vp 256 vc).ownBlock=some i->i<w.heap.size):=O (fun i s=>by
  obtain⟨k,h1,h2⟩:=E.lt (by rw[List.length_map,q1];decide);rw[h1] at s;cases s;exact h2)
 have H:=O h;have q:=O E;have J:=O h;have y:=O (Loc.nil (fun k=>B k\/Own g b2 lc D k) (fun k=>B k\/Own g b2 lc D k) w);clear h E zq ht q1 hc
 go_enter_defers func124,ntmps124
 go_wp2_with ((with_reducible show WL _ _);refine al 27 (.agg aH.toArray) (aH.toArray) bA ?_)
 intro b6 w1 qk j E;replace y:=O (y.new (fun k h=>H.lt h) qk j E);replace H:=O (H.keep0 j);replace q:=O (q.keep j fun _ _=>id);clear qk j E
 go_wp2_with ((with_reducible show WL _ _);refine al 49 (.int .i64 0) (#[.int .i64 0]) lH ?_)
 intro b7 w2 qk j E;replace y:=O (y.new (fun k h=>H.lt h) qk j E);replace H:=O (H.keep0 j);replace q:=O (q.keep j fun _ _=>id);clear qk j E;go_wp2_with fail;refine(sE H.cor.cor H.cor.arr).mono ?_;rintro e w3 ⟨rfl,j⟩;replace y:=kL y j;replace H:=O (H.keep0 j);replace q:=O (q.keep j fun _ _=>id);clear j;have c1:w3.cell? ⟨c,36,none⟩=some (.pointer g):=(bB.gv_ H.cor.cor)
 have c2:w3.cell? ⟨c,39,none⟩=some (.int .i64 t.u.txg):=(bB.txg_ H.cor.cor)
 go_wp2_with fail;clear c1 c2
 have zh:Hid (¬(c=b7\/B c\/Own g b2 lc D c)):=O (by
  rintro (e|e|e)
  ·have:=lt_of_block J.cor.cor.top;have:=(y.lt 0).1;omega
  ·exact H.top.1 e
  ·exact(H.far c e).2.1 rfl)
 have za:=O (y.lt 0);have X:=O (J.fresh za.1);go_wp2_with fail;refine dwB (fun k=>k=b7\/B k\/Own g b2 lc D k) (by kernel_rfl) ?_;intro w4 S F K U V;replace y:=kL y V;replace H:=O (H.keep0 V);replace q:=O (q.keep V fun _ _=>id);clear V;have qy:=y;have qw:=H;have qj:=q;refine tna 0 (.pointer c) rfl U ?_;refine tnb 1 (.pointer c) rfl U ?_;refine tnb 2 (.pointer (some ⟨c,36,none⟩)) rfl U ?_;refine tnd 3 (.pointer g) rfl (.inl ⟨by rfl,fun w' qm=>by have c:World.cell? w' ⟨c,36,none⟩=some (.pointer g):=(F w' qm).cell (bB.gv_ qw.cor.cor) zh.out;go_simp⟩) U ?_;refine tna 4 (.pointer c) rfl U ?_;refine tna 6 (.pointer c) rfl U ?_;refine tnb 7 (.pointer c) rfl U ?_;refine tnb 8 (.pointer (some ⟨c,34,none⟩)) rfl U ?_;refine tnd 9 (.int .i64 (cp:Int)) rfl (.inl ⟨by rfl,fun w' qm=>by have c:World.cell? w' ⟨c,34,none⟩=some (.int .i64 (cp:Int)):=(F w' qm).cell (bB.cp_ qw.cor.cor) zh.out;go_simp⟩) U ?_;refine wA9 5 ?_;go_wp2_with fail;refine(Cc H.cor).mono ?_;rintro e w5 ⟨v1,rfl,ho,j⟩;obtain⟨wa,wc,rfl,-,-⟩:=(Rd.of_owns ho).form;have HO:=O ho;clear ho;have qb:=K.out _ ((F _ U).trans j.any);replace y:=kL y j;replace H:=O (H.keep0 j);replace q:=O (q.keep j fun _ _=>id);clear U j;go_wp2_with fail;refine⟨qb,?_⟩;refine wA9 10 ?_;go_wp2_with fail;have zs:=O (y.lt 0).2;have zr:=O (y.lt 1).2;have zl:=O y.keep.size;refine(Eb w5 0 g b2 D Z lc Ls H.led (.slice wa D wc) (List.replicate D true) (cp:Int) (Ku HO.out)).mono ?_;rintro e w6 hm;unfold jH at hm;rw[if_pos zw.out,Int.toNat_natCast,zv.out] at hm;dsimp only at hm;obtain⟨v1,rfl,ql,ho,j⟩:=hm;rw[zy.out] at ql ho;rw[qx.out] at ho;obtain⟨ta,tc,rfl,-,-⟩:=(Rd.of_owns ho).form;have M:=K.out _ ((F _ qb).trans (j.mono fun k _ e=>.inr (.inr e)));have N:=O (H.cor.keep j (fun i e=>⟨(H.far i e).2.1,(H.far i e).2.2.1,(H.far i e).2.2.2.1,(H.far i e).1,(H.far i e).2.2.2.2⟩));have A:=O ql;have qo:=O (fun(i:Nat) (s:(Value.slice ta R.length tc).ownBlock=some i)=>show w.heap.size≤i from by have:=aU ho s;have:=zl.out;omega);have Y:=O (fun(i:Nat) (s:(Value.slice ta R.length tc).ownBlock=some i)=>show b7<i from by have:=aU ho s;have:=zs.out;omega);have qh:=O (fun(i:Nat) (s:(Value.slice ta R.length tc).ownBlock=some i)=>show b6<i from by have:=aU ho s;have:=zr.out;omega);have z:=O (aW ho zl.out);replace q:=O (q.keep j fun i s e=>(qz i s).2 e);replace y:=O (y.turn (B':=(fun k=>B k\/Own g b2 lc D k)) (j.mono fun k _ e=>.inr e) (fun _ _ h=>h) (fun _ _ h=>h));clear H HO j ql ho qb;go_wp2_with fail;refine⟨M,?_⟩;refine tna 11 (.tuple #[.slice ta R.length tc,.int .i64 0]) rfl M ?_;refine tnb 12 (.slice ta R.length tc) rfl M ?_;refine tnb 13 (.int .i64 0) rfl M ?_;refine tna 14 (.slice ta R.length tc) rfl M ?_;refine wA9 15 ?_;refine sta 49 (.tmp 7) (.tmp 60) b7 0 ([.int .i64 0]) (y.b 0) (by simp) (by kernel_rfl) (one9) ?_;intro w7 j E;replace E:w7.heap[b7]?=some (.cells #[.int .i64 0] 49 (0,0)):=E;have qc:=K.out _ ((F _ M).tT j (fun i s e=>.inl e));clear M;replace y:=O (y.set 0 j E);replace q:=O (q.keep j (fun i s e=>by have:=qa.out i s;have:=za.1;omega));replace N:=O (N.keep j (fun i e=>⟨(X i e).1,(X i e).2.1,(X i e).2.2.1,(X i e).2.2.2.1,(X i e).2.2.2.2.2⟩));replace A:=O (A.keep j (fun i e=>(X i e).2.2.2.2.1));replace z:=O (j.owns z.out fun i s e=>by have:=Y.out i s;omega);clear j E;refine wpList_nil ?_;refine⟨qc,?_⟩;refine wpAnyH_done (by kernel_rfl) ?_ _;clear qc F K qy qw qj;refine noP ?_;have c1:w7.cell? ⟨b7,0,none⟩=some (.int .i64 0):=(aD (i:=0) (y.b 0) rfl)
 have c2:w7.cell? ⟨c,1,none⟩=some (.pointer m):=(bB.c1 N.cor)
 go_wp2_with fail;clear c1 c2;have z2:=O y.keep.size;have zj:=O (fun(i:Nat) (s:(Value.slice ta R.length tc).ownBlock=some i)=>show i<w7.heap.size from by obtain⟨k,h1,h2⟩:=(Rd.of_owns z.out).lt (by rw[sP];have:=qv.1;omega);rw[s] at h1;cases h1;exact h2);refine(MG N.arr N.mir G.2.1 (.slice ta R.length tc) R (Rd.of_owns z.out) qn.out ze.out zt.out qv.1 qv.2 (fun i s e=>by have:=qo.out i s;have:=J.lt (.inl e);omega) (.slice vp 256 vc) bs qu.out q.out (fun i s=>(qz i s).1) (by have:=zg.out;have:=HT.out;omega)).mono ?_;rintro e w8 ⟨rfl,B2,zn,qr,W⟩;have r:Hid (iD w8 c a m lb pid cp (.pointer g) t B2 D Z (mF bs R Mm) (nw+R.length)):=O ⟨N.cor.keep W G.1 (fun i e h=>(G.2.2.2 i h).1 e),zn,W.blk N.mir G.2.1,W.blk N.liv G.2.2.1,N.cpb,fun d hd=>by rw[MT bs R Mm qn.out d];exact N.lab d hd⟩;replace A:=O (A.keep W (fun i e h=>(qt i h).1 e));replace z:=O (W.owns z.out (fun i s e=>by have:=qo.out i s;have:=J.lt (.inl e);omega));replace q:=O (q.keep W (fun i s e=>(qz i s).1 e));have z1:=O (fun(i:Nat) (s:(Value.slice ta R.length tc).ownBlock=some i)=>show ¬B2 i/\¬Own g b2 lc D i from⟨fun e=>by have h1:=qo.out i s;have h2:=zj.out i s;rcases qr i e with h|h;(have:=J.lt (.inl h);omega);omega,fun e=>by have h1:=qo.out i s;have:=J.lt (.inr e);omega⟩);have qg:=O (fun(k:Nat) (e:B2 k)=>show B k\/w.heap.size≤k from(qr k e).imp (fun h=>h) (fun h=>Nat.le_trans z2.out h));replace y:=O (y.turn (B':=fun k=>B2 k\/Own g b2 lc D k) (W.mono fun k _ e=>.inl e) (fun _ _ h=>h) (fun k j e=>e.elim (fun e=>(qr k e).elim (fun h=>.inl h) (fun h=>absurd j (by omega))) (fun h=>.inr h)));clear N zn qr W;go_wp2_with fail
 have I:Hid (∀i,(i=b6\/i=b7)->i≠c/\i≠m/\i≠lb/\¬B2 i/\¬Own g b2 lc D i/\¬t.Own i):=O (by
  rintro i (rfl|rfl)
  ·have h:=J.fresh (y.lt 1).1 _ rfl
   exact⟨h.1,h.2.1,h.2.2.1,fun e=>((y.aq 1)) (.inl e),h.2.2.2.2⟩
  ·have h:=J.fresh (y.lt 0).1 _ rfl
   exact⟨h.1,h.2.1,h.2.2.1,fun e=>((y.aq 0)) (.inl e),h.2.2.2.2⟩)
 have zz:Hid (¬(c=b6\/c=b7)):=O (fun e=>(I c e).1 rfl);have qe:=O (y.lt 1).1;have qf:=O (y.lt 0).1;obtain⟨dg,qd⟩:=zX9 ((dD bs).map vb)
 have zp:dg.length=32:=by rw[←qd,List.length_map,dC]
 have zx:Hid (∀u∈dg,u.oneCell'=true):=O (by rw[←qd];exact bT _);have zd:=O qd;have xb:0≤t.u.txg:=HT.1;clear qd X;go_wp2_with fail;refine dwB (fun k=>k=b6\/k=b7) (by kernel_rfl) ?_;intro w9 S F K U V;replace y:=kL y V;replace q:=O (q.keep V fun _ _=>id);replace A:=O (A.keep0 V);replace z:=O (V.owns z.out fun _ _=>id);replace r:=O (r.keep0 V);clear V;have qy:=y;have qj:=q;have zf:=A;have zk:=z;have qi:=r;refine tna 0 (.slice ta R.length tc) rfl U ?_;refine tna 1 (.pointer c) rfl U ?_;refine tnb 2 (.pointer c) rfl U ?_;refine tnb 3 (.pointer (some ⟨c,39,none⟩)) rfl U ?_;refine tnb 4 (.pointer (some ⟨c,39,none⟩)) rfl U ?_;refine tnd 5 (.int .i64 t.u.txg) rfl (.inl ⟨by rfl,fun w' qm=>by have c:World.cell? w' ⟨c,39,none⟩=some (.int .i64 t.u.txg):=(F w' qm).cell (bB.txg_ qi.cor) zz.out;go_simp⟩) U ?_;refine tnd 6 (.int .i64 (t.u.txg+1)) rfl (.inl ⟨by rfl,fun _ _=>by go_simp;exact IntWalk.i64_in _ (by omega)⟩) U ?_;refine tna 7 (.int .i64 (lv:Int)) rfl U ?_;refine tna 8 (.slice vp 256 vc) rfl U ?_;refine wA9 9 ?_;go_wp2_with fail;refine(yN _ bs w9 (by rw[qu.out];exact q.out) (by rw[qu.out];decide)).mono ?_;rintro e wa ⟨rfl,j⟩;have qb:=K.out _ ((F _ U).trans j.any);replace y:=kL y j;replace q:=O (q.keep j fun _ _=>id);replace A:=O (A.keep0 j);replace z:=O (j.owns z.out fun _ _=>id);replace r:=O (r.keep0 j);clear U j;rw[zd.out];go_wp2_with fail;refine⟨qb,?_⟩;refine wA9 10 ?_;refine sta 27 (.tmp 6) (.const (.agg #[.slice none 0 0,.int .i64 0,.int .i64 0,.int .u8 0,.int .u8 0,.int .u8 0,.int .u8 0,.int .u8 0,.int .u8 0,.int .u8 0,.int .u8 0,.int .u8 0,.int .u8 0,.int .u8 0,.int .u8 0,.int .u8 0,.int .u8 0,.int .u8 0,.int .u8 0,.int .u8 0,.int .u8 0,.int .u8 0,.int .u8 0,.int .u8 0,.int .u8 0,.int .u8 0,.int .u8 0,.int .u8 0,.int .u8 0,.int .u8 0,.int .u8 0,.int .u8 0,.int .u8 0,.int .u8 0,.int .u8 0])) b6 0 (aH) (y.b 1) (by simp[aE]) (szP9 aE) (cK zPt) ?_;intro wb j E;rw[aI _ _ (by rw[List.size_toArray])] at E;have M:=K.out _ ((F _ qb).trans (j.mono fun k _ e=>.inl e));clear qb;replace y:=O (y.set 1 j E);replace q:=O (q.keep j (fun i s e=>by have:=qa.out i s;have:=qe.out;have:=qf.out;omega));replace A:=O (A.keep j (fun i e=>(I i (.inl e)).2.2.2.2.1));replace z:=O (j.owns z.out fun i s e=>by have:=Y.out i s;have:=qh.out i s;omega);replace r:=O (r.keep j (fun i e=>have h:=I.out i (.inl e);⟨h.1,h.2.1,h.2.2.1,h.2.2.2.1,h.2.2.2.2.2⟩));clear j E;refine wpList_nil ?_;refine⟨M,?_⟩;refine tnb 11 (.pointer b6) rfl M ?_;refine wA9 12 ?_;refine sta 23 (.tmp 89) (.tmp 79) b6 0 ([.slice ta R.length tc]) (y.b 1) (by simp[aE]) (by kernel_rfl) (one9) ?_;intro wc j E;have qc:=K.out _ ((F _ M).trans (j.mono fun k _ e=>.inl e));clear M;replace y:=O (y.set 1 j E);replace q:=O (q.keep j (fun i s e=>by have:=qa.out i s;have:=qe.out;have:=qf.out;omega));replace A:=O (A.keep j (fun i e=>(I i (.inl e)).2.2.2.2.1));replace z:=O (j.owns z.out fun i s e=>by have:=Y.out i s;have:=qh.out i s;omega);replace r:=O (r.keep j (fun i e=>have h:=I.out i (.inl e);⟨h.1,h.2.1,h.2.2.1,h.2.2.2.1,h.2.2.2.2.2⟩));clear j E;refine wpList_nil ?_;refine⟨qc,?_⟩;refine tnb 13 (.pointer (some ⟨b6,1,none⟩)) rfl qc ?_;refine wA9 14 ?_;refine sta 3 (.tmp 90) (.tmp 85) b6 1 ([.int .i64 (t.u.txg+1)]) (y.b 1) (by simp[gH,aE]) (by kernel_rfl) (one9) ?_;intro wd j E;have qp:=K.out _ ((F _ qc).trans (j.mono fun k _ e=>.inl e));clear qc;replace y:=O (y.set 1 j E);replace q:=O (q.keep j (fun i s e=>by have:=qa.out i s;have:=qe.out;have:=qf.out;omega));replace A:=O (A.keep j (fun i e=>(I i (.inl e)).2.2.2.2.1));replace z:=O (j.owns z.out fun i s e=>by have:=Y.out i s;have:=qh.out i s;omega);replace r:=O (r.keep j (fun i e=>have h:=I.out i (.inl e);⟨h.1,h.2.1,h.2.2.1,h.2.2.2.1,h.2.2.2.2.2⟩));clear j E;refine wpList_nil ?_;refine⟨qp,?_⟩;refine tnb 15 (.pointer (some ⟨b6,2,none⟩)) rfl qp ?_;refine wA9 16 ?_;refine sta 3 (.tmp 91) (.tmp 86) b6 2 ([.int .i64 (lv:Int)]) (y.b 1) (by simp[gH,aE]) (by kernel_rfl) (one9) ?_;intro we j E;have qq:=K.out _ ((F _ qp).trans (j.mono fun k _ e=>.inl e));clear qp;replace y:=O (y.set 1 j E);replace q:=O (q.keep j (fun i s e=>by have:=qa.out i s;have:=qe.out;have:=qf.out;omega));replace A:=O (A.keep j (fun i e=>(I i (.inl e)).2.2.2.2.1));replace z:=O (j.owns z.out fun i s e=>by have:=Y.out i s;have:=qh.out i s;omega);replace r:=O (r.keep j (fun i e=>have h:=I.out i (.inl e);⟨h.1,h.2.1,h.2.2.1,h.2.2.2.1,h.2.2.2.2.2⟩));clear j E;refine wpList_nil ?_;refine⟨qq,?_⟩;refine tnb 17 (.pointer (some ⟨b6,3,none⟩)) rfl qq ?_;refine wA9 18 ?_;refine sta 25 (.tmp 92) (.tmp 88) b6 3 (dg) (y.b 1) (by simp[gH,aE,zp]) (by rw[zp];exact xI) zx.out ?_;intro wf j E;have q0:=K.out _ ((F _ qq).trans (j.mono fun k _ e=>.inl e));clear qq;replace y:=O (y.set 1 j E);replace q:=O (q.keep j (fun i s e=>by have:=qa.out i s;have:=qe.out;have:=qf.out;omega));replace A:=O (A.keep j (fun i e=>(I i (.inl e)).2.2.2.2.1));replace z:=O (j.owns z.out fun i s e=>by have:=Y.out i s;have:=qh.out i s;omega);replace r:=O (r.keep j (fun i e=>have h:=I.out i (.inl e);⟨h.1,h.2.1,h.2.2.1,h.2.2.2.1,h.2.2.2.2.2⟩));clear j E;refine wpList_nil ?_;refine⟨q0,?_⟩;refine wA9 19 ?_;refine sta 49 (.tmp 7) (.const (.int .i64 0)) b7 0 ([.int .i64 0]) (y.b 0) (by simp) (by kernel_rfl) (one9) ?_;intro wg j E;replace E:wg.heap[b7]?=some (.cells #[.int .i64 0] 49 (0,0)):=E;have zm:=K.out _ ((F _ q0).trans (j.mono fun k _ e=>.inr e));clear q0;replace y:=O (y.set 0 j E);replace q:=O (q.keep j (fun i s e=>by have:=qa.out i s;have:=qe.out;have:=qf.out;omega));replace A:=O (A.keep j (fun i e=>(I i (.inr e)).2.2.2.2.1));replace z:=O (j.owns z.out fun i s e=>by have:=Y.out i s;have:=qh.out i s;omega);replace r:=O (r.keep j (fun i e=>have h:=I.out i (.inr e);⟨h.1,h.2.1,h.2.2.1,h.2.2.2.1,h.2.2.2.2.2⟩));clear j E;refine wpList_nil ?_;refine⟨zm,?_⟩;refine wpAnyH_done (by kernel_rfl) ?_ _;clear zm F K qy qj zf zk qi;refine noP ?_;have zb:=O (y.b 0);have zu:Hid (wg.heap[b6]?=some (.cells (aF (.slice ta R.length tc) ⟨R,t.u.txg+1,(lv:Int),dD bs⟩).toArray 27 (0,0))):=O (by rw[y.b 1,←OD _ _ (by rw[dC]),←zd.out])
 have z0:Hid (EY w c a m lb g b2 lc pid cp t B D Z Mm nw Ls lv bs R (.returned (.tuple #[.agg (aF (.slice ta R.length tc) ⟨R,t.u.txg+1,(lv:Int),dD bs⟩).toArray,.int .i64 0])) wg):=O ⟨_,B2,rfl,z.out,⟨r.out,A.out,fun k j=>by
  have h:=qt.out k j;exact⟨fun e=>(qg k e).elim h.1 (fun e=>by have:=J.lt (.inr j);omega),h.2⟩,by
  have h1:=lt_of_block J.cor.cor.top;have h2:=lt_of_block J.cor.mir;have h3:=lt_of_block J.cor.liv;exact⟨fun e=>(qg c e).elim G.1 (by omega),fun e=>(qg m e).elim G.2.1 (by omega),fun e=>(qg lb e).elim G.2.2.1 (by omega),fun i h=>⟨fun e=>(qg i e).elim (G.2.2.2 i h).1 fun e=>by have:=J.cor.cor.lst.lt h;omega,(G.2.2.2 i h).2⟩⟩,by
  have:=zi.out;have:=qx.out;have:=zg.out;omega⟩,qg.out,z1.out,y.keep⟩
 clear y r A q z;go_wp2_with fail;refine leaves_cons (f:=48) (args:=#[.pointer c,.pointer b7]) (by simp) (by simp[go_sem]) ?_;refine(oX wg c b7 0 _ zb.out (by decide)).mono ?_;rintro e u' z5 ⟨rfl,rfl,j⟩;have c7:z5.cell? ⟨b7,0,none⟩=some (.int .i64 0):=aD (i:=0) (j.blk zb.out id) rfl;refine⟨_,fS rfl _ _ b6 _ _ _ _ rfl (j.blk zu.out id) aG rfl (by rw[List.size_toArray,aJ (by rw[dC])];exact cC) ⟨b7,0,none⟩ (.int .i64 0) rfl (by go_simp),?_⟩;obtain⟨v,B3,h1,h2,h3,h4,h6,h5⟩:=z0.out;exact⟨v,B3,h1,j.owns h2 fun _ _=>id,h3.keep0 j,h4,h6,h5.trans j.any⟩
theorem Kx(w:World)(pv:Value)(p:Pt)(x:PtV w pv p)(E:p.hole=true)(lv:Int):Calls prog 215 #[.agg (aF pv p).toArray,.int .i64 lv] w (aK w (.bool true)):=by
 have r:=aJ (v:=pv) x.sum;obtain⟨I,H,s,-,-⟩:=x.rd.form;obtain⟨z,f⟩:=zX9 (aF pv p)
 have G:Hid (∀u∈z,u.oneCell'=true):=O (by rw[←f,s];exact cK p);have y:=O f;rw[f] at r ⊢;have h:=O x;have j:=lN w;have F:=O E;clear x f s E;go_in
 go_wp2_with ((with_reducible show WL _ _);refine bxL j 27 (.tmp 0) (z.toArray) ?_)
 intro b2 A q j;replace h:=O (h.keep q fun _ _=>id);clear q
 go_wp2_with ((with_reducible show WL _ _);refine wpList_load_mid rfl 27 (.tmp 2) rfl b2 0 rfl z _ (aC (j.b 0)) aG rfl (szP9 r) ?_)
 refine((by rw[←y.out];exact cE A pv p h.out:Ka A (aY A p.hole))).mono ?_;rintro e J ⟨rfl,q⟩;replace j:=kL j q;replace h:=O (h.keep q fun _ _=>id);clear q;rw[F.out];go_wp2;go_ret;exact aK.of j.keep
theorem MU(w:World)(pv:Value)(p:Pt)(y:PtV w pv p)(H:p.hole=false)(J:p.may=true)(lv:Int)(h0:0≤lv)(S:lv≤4)(I:p.level=lv-1):Calls prog 215 #[.agg (aF pv p).toArray,.int .i64 lv] w (aK w (.bool true)):=by
 have s:=aJ (v:=pv) y.sum;obtain⟨U,R,x,-,-⟩:=y.rd.form;obtain⟨z,h⟩:=zX9 (aF pv p)
 have L:Hid (∀u∈z,u.oneCell'=true):=O (by rw[←h,x];exact cK p);have r:=O h;rw[h] at s ⊢;have f:=O y;have j:=lN w;have K:=O H;have E:=O J;have A:=O I;have M:IntKind.i64.wrap (lv-1)=lv-1:=IntWalk.i64_in _ (by omega);clear y h x H J I;go_in
 go_wp2_with ((with_reducible show WL _ _);refine bxL j 27 (.tmp 0) (z.toArray) ?_)
 intro b2 F q j;replace f:=O (f.keep q fun _ _=>id);clear q
 go_wp2_with ((with_reducible show WL _ _);refine wpList_load_mid rfl 27 (.tmp 2) rfl b2 0 rfl z _ (aC (j.b 0)) aG rfl (szP9 s) ?_)
 refine((by rw[←r.out];exact cE F pv p f.out:Ka F (aY F p.hole))).mono ?_;rintro e G ⟨rfl,q⟩;replace j:=kL j q;replace f:=O (f.keep q fun _ _=>id);clear q;rw[K.out]
 go_wp2_with ((with_reducible show WL _ _);refine aM (by rfl) 27 (.tmp 2) rfl b2 0 rfl z _ (aC (j.b 0)) aG rfl (szP9 s) ?_)
 refine((by rw[←r.out];exact lF G pv p f.out:Ka G (mY G p.may))).mono ?_;rintro e N ⟨rfl,q⟩;replace j:=kL j q;replace f:=O (f.keep q fun _ _=>id);clear q;rw[E.out];have c1:N.cell? ⟨b2,2,none⟩=some (.int .i64 (lv-1)):=(by rw[←A.out];exact(bW (aC (by rw[r.out];exact(j.b 0)))).2.2.1)
 go_wp2_with fail;clear c1;go_ret;exact aK.of j.keep
def bU(lv:Int)(vs:Nat->Value)(ps:Nat->Pt):List Value:=.int .i64 lv::(aF (vs 0) (ps 0)++(aF (vs 1) (ps 1)++(aF (vs 2) (ps 2)++aF (vs 3) (ps 3))))
def dM(w:World)(vs:Nat->Value)(ps:Nat->Pt):Prop:=∀k,k<4->PtV w (vs k) (ps k)
theorem dM.keep(h:dM w vs ps)(k:aA aB w w'):dM w' vs ps:=fun i e=>(h i e).keep k fun _ _=>id
theorem cX(lv:Int)(vs:Nat->Value)(h:dM w vs ps):(bU lv vs ps).length=141:=by
 simp[bU,aJ (h 0 (by omega)).sum,aJ (h 1 (by omega)).sum,aJ (h 2 (by omega)).sum,aJ (h 3 (by omega)).sum]
theorem aN{p:Pt}(h:PtV w v p):∀u∈aF v p,u.oneCell'=true:=by
 obtain⟨f,e,rfl,-,-⟩:=h.rd.form;exact cK p
theorem cZ(lv:Int)(h:dM w vs ps):∀u∈bU lv vs ps,u.oneCell'=true:=by
 intro u e;unfold bU at e;rcases List.mem_cons.1 e with rfl|e
 ·rfl
 rcases List.mem_append.1 e with e|e
 ·exact aN (h 0 (by omega)) u e
 rcases List.mem_append.1 e with e|e
 ·exact aN (h 1 (by omega)) u e
 rcases List.mem_append.1 e with e|e
 ·exact aN (h 2 (by omega)) u e
 ·exact aN (h 3 (by omega)) u e
theorem vF(h:w.rangeAt b o (v::C)):w.rangeAt b (o+1) C:=fun j u e=>by
 have:=h (j+1) u (by rw[List.getElem?_cons_succ];exact e);rw[show o+1+j=o+(j+1) by omega];exact this
theorem xU{A:List Value}(h:w.rangeAt b o (A++C))(f:A.length=n):w.rangeAt b o A/\w.rangeAt b (o+n) C:=by
 subst f;refine⟨fun j u e=>h j u (by rw[List.getElem?_append_left (List.getElem?_eq_some_iff.1 e).1];exact e),fun j u e=>?_⟩;have:=h (A.length+j) u (by rw[List.getElem?_append_right (by omega),Nat.add_sub_cancel_left];exact e);rw[show o+A.length+j=o+(A.length+j) by omega];exact this
theorem mI{y:World}{lv:Int}(e:dM y vs ps)(h:w.rangeAt b 0 (bU lv vs ps))(z:k<4):w.rangeAt b (1+k*35) (aF (vs k) (ps k)):=by
 have s:=vF h;obtain⟨f,u⟩:=xU s (aJ (e 0 (by omega)).sum);obtain⟨j,x⟩:=xU u (aJ (e 1 (by omega)).sum);obtain⟨q,r⟩:=xU x (aJ (e 2 (by omega)).sum);rcases k with _|_|_|_|k
 ·exact f
 ·exact j
 ·exact q
 ·exact r
 ·omega
def kR(ps:Nat->Pt):Bool:=(ps 0).hole && (ps 1).hole && (ps 2).hole && (ps 3).hole
theorem IL(h:∀k,k<4->(ps k).hole=true):kR ps=true:=by
 unfold kR;rw[h 0 (by omega),h 1 (by omega),h 2 (by omega),h 3 (by omega)];rfl
theorem Ky(e:k<4)(h:(ps k).hole=false):kR ps=false:=by
 unfold kR;rcases k with _|_|_|_|k
 ·rw[h];rfl
 ·rw[h];simp
 ·rw[h];simp
 ·rw[h];simp
 ·omega
theorem CX(w:World)(lv:Int)(vs:Nat->Value)(ps:Nat->Pt)(h:dM w vs ps):Calls prog 123 #[.agg (bU lv vs ps).toArray] w (aK w (.bool (kR ps))):=by
 have R:=cX lv vs h;obtain⟨U,r⟩:=zX9 (bU lv vs ps)
 have X:Hid (∀u∈U,u.oneCell'=true):=O (by rw[←r];exact cZ lv h);have N:=O r;rw[r] at R ⊢;have s:=O h;have q:=lN w;clear h r;go_in
 go_wp2_with ((with_reducible show WL _ _);refine bxL q 98 (.tmp 0) (U.toArray) ?_)
 intro b1 w1 y q;replace s:=O (dM.keep s.out y);clear y;go_wp2_with fail;have V:=O (q.b 0);have H:=O q.keep;clear q
 go_loopw [3,4] (fun _ i wr=>∃k:Nat,k≤4/\i=.int .i64 k/\Hid (aA aB w1 wr)/\Hid (∀j,j<k->(ps j).hole=true)) (fun _ i _=>4-(intOf i).toNat)
 case atStart=>exact⟨0,by omega,rfl,O (aA.refl _ _),O (fun j hj=>by omega)⟩
 case round =>
  obtain⟨k,y,rfl,G,S⟩:=hrel
  by_cases z:k<4
  ·have K:=O (G.blk V.out id)
   have x:=O (dM.keep s.out G.out);have F:=aJ (v:=vs k) (s k z).sum;obtain⟨pk,f⟩:=zX9 (aF (vs k) (ps k))
   have W:Hid (∀u∈pk,u.oneCell'=true):=O (by rw[←f];exact aN (s k z));have E:Hid (World.rangeAt wr b1 (1+k*35) pk):=O (by rw[←f];exact mI s.out (by rw[N.out];exact aC K.out) z);have I:=O f;rw[f] at F;have q:=lN wr;have qa:(0:Int)≤(k:Int):=by omega
   have qb:(k:Int)<4:=by omega
   clear f;cases J:(ps k).hole
   ·have A:=O J
    clear J
    go_wp2_with ((with_reducible show WL _ _);refine wpList_load_mid rfl 27 (.tmp 9) rfl b1 (1+k*35) rfl pk _ E.out aG rfl (szP9 F) ?_)
    refine((by rw[←I.out];exact cE wr (vs k) (ps k) (x k z):Ka wr (aY wr (ps k).hole))).mono ?_;rintro e w2 ⟨rfl,y⟩;replace q:=kL q y;replace E:=O (y.rangeAt E.out);replace x:=O (dM.keep x.out y);clear y;rw[A.out];go_wp2_with fail;have Y:=O (H.trans (G.trans q.keep));clear q E;go_wp2;go_ret;rw[Ky z A.out];exact aK.of Y.out
   ·have A:=O J
    clear J
    go_wp2_with ((with_reducible show WL _ _);refine wpList_load_mid rfl 27 (.tmp 9) rfl b1 (1+k*35) rfl pk _ E.out aG rfl (szP9 F) ?_)
    refine((by rw[←I.out];exact cE wr (vs k) (ps k) (x k z):Ka wr (aY wr (ps k).hole))).mono ?_;rintro e w2 ⟨rfl,y⟩;replace q:=kL q y;replace E:=O (y.rangeAt E.out);replace x:=O (dM.keep x.out y);clear y;rw[A.out];go_wp2_with fail;have M:=O (G.trans q.keep)
    have L:Hid (∀j,j<k+1->(ps j).hole=true):=O (fun j hj=>by
     by_cases e:j=k
     ·subst e;exact A.out
     ·exact S.out j (by omega))
    clear q E
    go_roundw
    case rel=>exact⟨k+1,by omega,by go_num,M,L⟩
    case measure=>simp[intOf];omega
  ·obtain rfl:k=4:=by omega
   go_wp2;go_ret;rw[IL S.out];exact aK.of (H.trans G.out)
def Cd(lv:Int)(p:Pt):Prop:=p.hole=true\/(p.hole=false/\p.may=true/\p.level=lv-1)
theorem MV(w:World)(pv:Value)(p:Pt)(e:PtV w pv p)(lv:Int)(h0:0≤lv)(f:lv≤4)(j:Cd lv p):Calls prog 215 #[.agg (aF pv p).toArray,.int .i64 lv] w (aK w (.bool true)):=
 j.elim (fun h=>Kx w pv p e h lv) fun h=>MU w pv p e h.1 h.2.1 lv h0 f h.2.2
theorem IM(w:World)(lv:Int)(vs:Nat->Value)(ps:Nat->Pt)(h:dM w vs ps)(h1:1≤lv)(h3:lv≤3)(hf:∀k,k<4->Cd lv (ps k)):Calls prog 165 #[.agg (bU lv vs ps).toArray] w (aK w (.int .i64 0)):=by
 have qc:=cX lv vs h;obtain⟨nc,f⟩:=zX9 (bU lv vs ps)
 have qf:Hid (∀u∈nc,u.oneCell'=true):=O (by rw[←f];exact cZ lv h);have qa:=O f;rw[f] at qc ⊢;have s:=O h;have q:=lN w;have HF:=O hf;have G:Hid (∃r,nc=.int .i64 lv::r):=O ⟨_,f.symm⟩;have e1:¬lv<1:=by omega
 have e3:¬3<lv:=by omega
 clear h f hf;go_in
 go_wp2_with ((with_reducible show WL _ _);refine bxL q 98 (.tmp 0) (nc.toArray) ?_)
 intro b1 w1 A q;replace s:=O (dM.keep s.out A);clear A;have c1:w1.cell? ⟨b1,0,none⟩=some (.int .i64 lv):=(by obtain⟨r,e⟩:=G.out;exact aD (i:=0) (q.b 0) (by rw[e];rfl))
 have c2:w1.cell? ⟨b1,0,none⟩=some (.int .i64 lv):=(by obtain⟨r,e⟩:=G.out;exact aD (i:=0) (q.b 0) (by rw[e];rfl))
 go_wp2_with fail;clear c1 c2;go_wp2_with fail;have HB:=O (q.b 0);have W:=O q.keep;clear q
 go_loopw [3,12] (fun _ i wr=>∃k:Nat,k≤4/\i=.int .i64 k/\Hid (aA aB w1 wr)) (fun _ i _=>4-(intOf i).toNat)
 case atStart=>exact⟨0,by omega,rfl,O (aA.refl _ _)⟩
 case round =>
  obtain⟨k,A,rfl,V⟩:=hrel
  by_cases y:k<4
  ·have K:=O (V.blk HB.out id)
   have x:=O (dM.keep s.out V.out);have U:=aJ (v:=vs k) (s k y).sum;obtain⟨pk,j⟩:=zX9 (aF (vs k) (ps k))
   have qe:Hid (∀u∈pk,u.oneCell'=true):=O (by rw[←j];exact aN (s k y));have I:Hid (World.rangeAt wr b1 (1+k*35) pk):=O (by rw[←j];exact mI s.out (by rw[qa.out];exact aC K.out) y);have J:Hid (World.cell? wr ⟨b1,0,none⟩=some (.int .i64 lv)):=O (by obtain⟨r,e⟩:=G.out;exact aD (i:=0) K.out (by rw[e];rfl));have qb:=O j;rw[j] at U;have q:=lN wr;have qg:(0:Int)≤(k:Int):=by omega
   have qh:(k:Int)<4:=by omega
   clear j;go_wp2_with fail;refine dwA aB (by kernel_rfl) ?_;intro w2 S E M F z;replace q:=kL q z;replace I:=O (z.rangeAt I.out);replace x:=O (dM.keep x.out z);replace J:=O (z.cell J.out id);clear z;have Y:=q;have N:=I;have L:=x;have R:=J;refine tna 0 (.int .i64 (k:Int)) rfl F ?_;refine tnb 1 (.pointer (some ⟨b1,1,none⟩)) rfl F ?_;refine tnd 2 (.pointer (some ⟨b1,1+k*35,none⟩)) rfl (.inl ⟨by rfl,fun _ _=>by go_simp<;>omega⟩) F ?_;refine tnd 3 (.agg pk.toArray) rfl (yieldsIf_load_mid (by rfl) 27 (.tmp 17) rfl b1 (1+k*35) rfl pk _ (fun w' h=>(E w' h).rangeAt N.out) aG rfl (szP9 U)) F ?_;refine tnb 4 (.pointer b1) rfl F ?_;refine tnd 5 (.int .i64 lv) rfl (.inl ⟨by rfl,fun w' qd=>by have c:World.cell? w' ⟨b1,0,none⟩=some (.int .i64 lv):=(E w' qd).cell R.out id;go_simp⟩) F ?_;refine wA9 6 ?_;go_wp2_with fail;refine((by rw[←qb.out];exact MV w2 (vs k) (ps k) (x k y) lv (by omega) (by omega) (HF k y):Ka w2 (aK w2 (.bool true)))).mono ?_;rintro e w3 ⟨rfl,A⟩;have H:=M.out _ ((E _ F).trans A);replace q:=kL q A;replace I:=O (A.rangeAt I.out);replace x:=O (dM.keep x.out A);replace J:=O (A.cell J.out id);clear F A;go_wp2_with fail;refine⟨H,?_⟩;refine tnb 7 (.bool false) rfl H ?_;refine wpAnyH_done (by kernel_rfl) ?_ _;clear H E M Y N L R;go_wp2_with fail;have X:=O (V.trans q.keep);clear q I J;go_wp2
   go_roundw
   case rel=>exact⟨k+1,by omega,by go_num,X⟩
   case measure=>simp[intOf];omega
  ·obtain rfl:k=4:=by omega
   go_wp2;go_ret;exact aK.of (W.trans V.out)
theorem nmPt   {p:Pt} (h:PtV w v p):∃c,Hid (aF v p=c)/\c.length=35/\Hid (∀u∈c,u.oneCell'=true):=⟨_,O rfl,aJ h.sum,O (aN h)⟩
theorem Ce(e:List Value)(h:e.length=32):e=(List.range 32).map fun i=>e.getD i undef:=by
 apply List.ext_getElem?;intro i;rw[List.getElem?_map]
 by_cases f:i<32
 ·rw[List.getElem?_range f,List.getElem?_eq_getElem (by omega)]
  simp[List.getD,List.getElem?_eq_getElem (show i<e.length by omega)]
 ·rw[List.getElem?_eq_none (by omega),List.getElem?_eq_none (by simp;omega)];rfl
theorem IN(a m:Nat)(f:Nat->Value)(cp:Int):prog.built yQ [(0,.pointer a),(1,.pointer m),(2,.agg ((List.range 32).map f).toArray),(3,.int .i64 cp)]=some (Value.pointer a::.pointer m::((List.range 32).map f++(.int .i64 cp::.slice none 0 0::.pointer none::.slice none 0 0::.slice none 0 0::hE pX))).toArray:=by kernel_rfl
theorem Kz(a m cp:Nat)(pid:List UInt8)(h:pid.length=32)(w:World):(Instr.build yQ #[(0,.pointer a),(1,.pointer m),(2,.agg (pid.map vb).toArray),(3,.int .i64 (cp:Int))]).run prog w=.ok (.agg (fP a m pid cp (.slice none 0 0) (.pointer none) pX).toArray) w:=by
 refine run_build w yQ _ _ ?_;unfold fP;rw[Ce (pid.map vb) (by rw[List.length_map,h])];exact IN a m _ _
def CY(w:World)(a:Nat)(pid:List UInt8)(cp:Nat)(e:Ending)(w':World):Prop:=∃c m,e=.returned (.pointer (some ⟨c,0,none⟩))/\bB w' c a m pid cp (.slice none 0 0) (.pointer none) pX/\fF w' m a/\w.heap.size≤c/\w.heap.size≤m/\m<c/\aA aB w w'
theorem MW(G:bP w a B D Z Mm nw)(pid:List UInt8)(f:pid.length=32)(cp:Nat):Calls prog 78 #[.pointer a,.agg (pid.map vb).toArray,.int .i64 (cp:Int)] w (CY w a pid cp):=by
 have E:(pid.map vb).length=32:=by rw[List.length_map];exact f
 have q:=O f;have r:=O G;have j:=lN w;clear G f;go_in
 go_wp2_with ((with_reducible show WL _ _);refine bxL j 25 (.tmp 1) ((pid.map vb).toArray) ?_)
 intro K S h j;replace r:=O (r.keep0 h);clear h;go_wp2_with fail;have z:=O j.keep.size;refine(MF r.out).mono ?_;rintro e N ⟨m,rfl,u,H,h⟩;replace j:=kL j h;replace r:=O (r.keep0 h);clear h;have F:=O H;have y:=O (Nat.le_trans z.out u);clear H u;have A:=Kz a m cp pid q.out;have s:=O j.keep;have x:=O (j.b 0);have M:m<N.heap.size:=lt_of_block F.out;clear j r
 go_wp2_with ((with_reducible show WL _ _);first
  | refine wpList_load_mid rfl 25 (.tmp 4) rfl K 0 rfl (pid.map vb) _ (aC x.out) underlying25 rfl (by rw[E];exact xI) ?_
  | refine bld yQ #[(0,.tmp 14),(1,.tmp 15),(2,.tmp 16),(3,.tmp 17)] [(0,.pointer a),(1,.pointer m),(2,.agg (pid.map vb).toArray),(3,.int .i64 (cp:Int))] (.agg (fP a m pid cp (.slice none 0 0) (.pointer none) pX).toArray) A ?_
  | refine bx yQ (.tmp 18) (fP a m pid cp (.slice none 0 0) (.pointer none) pX).toArray ?_)
 intro c R L h I;have J:Hid (CY w a pid cp (.returned (.pointer c)) R):=O ⟨c,m,rfl,⟨I,q.out,nD.zero _⟩,h.blk F.out id,by have:=s.size;omega,y.out,by omega,s.trans h⟩;clear L h I;go_wp2;go_ret;exact J.out
theorem F9(r:bP w a B D Z Mm nw)(s:w.heap[bc]?=some (.cells #[.pointer a] 40 (0,0)))(d:Int)(h0:0≤d)(u:d<(D:Int)):Calls prog 81 #[.int .i64 d,.pointer bc] w (aK w (.bool false)):=by
 have f:=O (cell_of_one s);have x:Hid ((decide (0≤d) && decide (d<(D:Int)))=true):=O (by rw[decide_eq_true h0,decide_eq_true u];rfl);have j:=O r;have q:=lN w;clear r s h0 u;go_in;have c1:w.cell? ⟨bc,0,none⟩=some (.pointer a):=f.out;go_wp2_with fail;clear c1;refine(QB j.out d).mono ?_;rintro e y ⟨rfl,h⟩;replace q:=kL q h;replace j:=O (j.keep0 h);replace f:=O (h.cell f.out id);clear h;rw[x.out];go_wp2;go_ret;exact aK.of q.keep
theorem IP(w:World)(v:Value)(l:List Int)(j:Rd w 1 v l.length (l.map fun x=>.int .i64 x))(U:l.length≤65536)(y bc:Nat)(eg:∀args w,(callFunc y args).run prog w=.ok (.enter y args) w)(h:∀x∈l,∀w',aA aB w w'->Calls prog y #[.int .i64 x,.pointer bc] w' (aK w' (.bool false))) :
 Calls prog 117 #[v,.func (.func y) #[] #[.pointer bc]] w (aK w (.int .i64 (-1))):=by
 obtain⟨oa,J,rfl,-,-⟩:=j.form;obtain⟨n,G⟩:=zX9 l.length
 have M:=O G;rw[G] at j U ⊢;have Y:n≤J:=by obtain⟨_,a',c',R,S,h3,-⟩:=j;cases R;exact S
 have N:=O j;have E:=O h;clear j h G;go_in;go_wp2_with fail
 go_loopw [5,8] (fun _ i wr=>∃k:Nat,k≤n/\i=.int .i64 k/\Hid (aA aB w wr)) (fun _ i _=>n-(intOf i).toNat)
 case atStart=>exact⟨0,by omega,rfl,O (aA.refl _ _)⟩
 case round =>
  obtain⟨k,z,rfl,q⟩:=hrel
  by_cases F:k<n
  ·obtain⟨x,H⟩:∃x,l[k]?=some x:=⟨l[k]'(by rw[M.out];exact F),List.getElem?_eq_getElem _⟩
   obtain⟨g,o,K,L,f⟩:=oW N.out (k:=k) (u:=.int .i64 x) (by rw[List.getElem?_map,H];rfl);obtain rfl:oa=some ⟨g,o,none⟩:=by cases L;rfl
   have s:=O (q.cell f id);have I:=O (E x (List.mem_of_getElem? H) wr q.out);have r:=lN wr;have V:(0:Int)≤(k:Int):=by omega
   have W:(k:Int)<(n:Int):=by omega
   have X:(k:Int)≤(J:Int):=by omega
   clear H f L;have c1:wr.cell? ⟨g,o+k,none⟩=some (.int .i64 x):=s.out;go_wp2_with fail;clear c1;refine(I.out).mono ?_;rintro e w1 ⟨rfl,z⟩;replace r:=kL r z;replace s:=O (z.cell s.out id);clear z;go_wp2_with fail;have A:=O (q.trans r.keep);clear r I s
   go_roundw
   case rel=>exact⟨k+1,by omega,by go_num,A⟩
   case measure=>simp[intOf];omega
  ·obtain rfl:k=n:=by omega
   go_wp2;go_ret;exact aK.of q.out
theorem Ga(w:World)(v:Value)(l:List Int)(s:Rd w 1 v l.length (l.map fun x=>.int .i64 x))(q:l.length≤65536)(f bc:Nat)(y:∀args w,(callFunc f args).run prog w=.ok (.enter f args) w)(h:∀x∈l,∀w',aA aB w w'->Calls prog f #[.int .i64 x,.pointer bc] w' (aK w' (.bool false))) :
 Calls prog 79 #[v,.func (.func f) #[] #[.pointer bc]] w (aK w v):=by
 have u:=O (IP w v l s q f bc y h);have j:=lN w;clear s h q;go_in;go_wp2_with fail;refine(u.out).mono ?_;rintro e z ⟨rfl,r⟩;replace j:=kL j r;clear r;go_wp2;go_ret;exact aK.of j.keep
end
end Go.Proofs.YtiinnfhjpaeffaaGreat
