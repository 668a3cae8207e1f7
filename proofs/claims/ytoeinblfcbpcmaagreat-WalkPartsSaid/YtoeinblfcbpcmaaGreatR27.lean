import Derived.Test.YtoeinblfcbpcmaaGreatR24
import Derived.Test.YtoeinblfcbpcmaaGreatR26
namespace Go.Proofs.YtoeinblfcbpcmaaGreat
open Tryz
set_option maxHeartbeats 0
set_option maxRecDepth 100000
set_option linter.unusedVariables false
section
open Go.RowKit Go.Maps Go.ChangeMaps
variable{w:World}{i:Nat}
theorem bs1{P:Program}{ops:Array Oper}{rest:List Oper}{o:Oper}{a:Act}{Q:Exit->Act->World->Prop}(t e:TypeId)(x:Operand)(v:Value)(f:(P.info? e).map (·.size)=some 1)(s:((P.info? e).bind (·.zero)).isSome=true)(q:P.underlying t=some (.slice e))(A:v.cells=#[v])
 (h:∀b w',w.heap.size=b->aA aB w w'->w'.heap[b]?=some (.cells #[v] e (0,0))->wpList P ops Q rest (a.put o.dst (.slice (some ⟨b,0,none⟩) 1 1)) w') (G:a.eval x=v:=by rfl) (E:o.guard=none:=by rfl) (F:o.op=.buildSlice t 1 #[(0,x)]:=by rfl):wpList P ops Q (o::rest) a w:=by
 cases j:P.info? e with
 | none=>simp[j] at f
 | some H =>
   simp only[j,Option.map_some,Option.some.injEq,Option.bind_some] at f s;obtain⟨z,r⟩:=Option.isSome_iff_exists.1 s;refine wpList_buildSlice E t e 1 _ F #[v] H z q j r (by rw[f];omega) (by rw[f];omega) ?_ (h _ _ rfl ((aA.refl _ _).alloc _) (heap_alloc_new _ _));rw[f];have y:((#[((0:Nat),x)]:Array (Nat×Operand)).map fun(i,x)=>(i,a.eval x)).toList=([v].zipIdx 0).map fun x=>(x.2,x.1):=by simp[G]
   rw[y];exact Great.fill_flat [v] _ (fun u q=>by rcases List.mem_singleton.1 q with rfl;exact A) (by simp)
abbrev Ba:TypeId:=113
structure Lst where
 rv:Value
 u:Ub
 ov:Value
 ol:List Ad
 vv:Value
 vl:List Ad
def pP:Lst:=⟨.slice none 0 0,⟨0,zPt,0,List.replicate 32 0⟩,.slice none 0 0,[],.slice none 0 0,[]⟩
def Lst.Own(t:Lst)(i:Nat):Prop:=t.rv.ownBlock=some i\/t.ov.ownBlock=some i\/t.vv.ownBlock=some i
theorem rC:¬pP.Own i:=fun h=>by rcases h with h|h|h<;>cases h
structure mO(w:World)(t:Lst):Prop where
 ub:UbV w t.rv t.u
 old:Rd w 2 t.ov t.ol.length (aR t.ol)
 live:Rd w 2 t.vv t.vl.length (aR t.vl)
 oads:kR t.ol
 lads:kR t.vl
 isc:∀i,t.Own i->∃cs T,w.heap[i]?=some (.cells cs T (0,0))
 few:t.u.root.addrs.length≤65536/\t.ol.length≤65536/\t.vl.length≤65536
theorem mO.keep{T:Nat->Prop}{w':World}{t:Lst}(h:mO w t)(k:aA T w w')(j:∀i,T i->¬t.Own i):mO w' t:=
 ⟨h.ub.keep k fun i f e=>j i e (.inl f),h.old.keep k fun i f e=>j i e (.inr (.inl f)),h.live.keep k fun i f e=>j i e (.inr (.inr f)),h.oads,h.lads,fun i f=>by
  obtain⟨q,T,r⟩:=h.isc i f;exact⟨q,T,k.blk r fun e=>j i e f⟩,h.few⟩
theorem mO.zero(w:World):mO w pP:=⟨⟨⟨Rd.nil w 2,fun x e=>(by cases e),rfl⟩,rfl⟩,Rd.nil w 2,Rd.nil w 2,fun x e=>(by cases e),fun x e=>(by cases e),fun i f=>by (rcases f with h|h|h<;>cases h),by decide⟩
theorem mO.lt{t:Lst}(h:mO w t)(f:t.Own i):i<w.heap.size:=by
 obtain⟨j,T,e⟩:=h.isc i f;exact lt_of_block e
def iJ(t:Lst):List Value:=dS t.rv t.u++[.bool false]
theorem EZ{t:Lst}(h:mO w t):(iJ t).length=70:=by
 unfold iJ;rw[List.length_append,lQ h.ub.root.sum h.ub.pool];rfl
def fL(a m:Nat)(pid:List UInt8)(cp:Nat)(lv gv:Value)(t:Lst):List Value:=
 .pointer a::.pointer m::(pid.map vb++(.int .i64 (cp:Int)::lv::gv::t.ov::t.vv::iJ t))
structure bD(w:World)(c a m:Nat)(pid:List UInt8)(cp:Nat)(lv gv:Value)(t:Lst):Prop where
 top:w.heap[c]?=some (.cells (fL a m pid cp lv gv t).toArray Ba (0,0))
 idl:pid.length=32
 lst:mO w t
section
variable {w:World}{c a m:Nat}{pid:List UInt8}{cp:Nat}{lv gv:Value}{t:Lst}
variable{w':World}
theorem bD.keep{T:Nat->Prop}(h:bD w c a m pid cp lv gv t)(k:aA T w w')(f:¬T c)(e:∀i,T i->¬t.Own i):bD w' c a m pid cp lv gv t:=⟨k.blk h.top f,h.idl,h.lst.keep k e⟩
theorem bD.keep0(h:bD w c a m pid cp lv gv t)(k:aA aB w w'):bD w' c a m pid cp lv gv t:=h.keep k (fun h=>h) fun _ h=>h.elim
theorem uZ(h:pid.length=32)(e:(iJ t).length=70):(fL a m pid cp lv gv t).length=109:=by
 unfold fL;simp only[List.length_cons,List.length_append,List.length_map,h,e]
theorem bD.c0(h:bD w c a m pid cp lv gv t):w.cell? ⟨c,0,none⟩=some (.pointer a):=aC h.top rfl
theorem bD.c1(h:bD w c a m pid cp lv gv t):w.cell? ⟨c,1,none⟩=some (.pointer m):=aC h.top rfl
theorem bD.id_(h:bD w c a m pid cp lv gv t):w.rangeAt c 2 (pid.map vb):=fun j v f=>by
 refine aC h.top ?_;rw[List.getElem?_toArray];unfold fL;have e:2+j=j+1+1:=by omega
 rw[e,List.getElem?_cons_succ,List.getElem?_cons_succ,List.getElem?_append_left (List.getElem?_eq_some_iff.1 f).1];exact f
theorem bD.at_(h:bD w c a m pid cp lv gv t){k:Nat}{v:Value}(j:(.int .i64 (cp:Int)::lv::gv::t.ov::t.vv::iJ t)[k]?=some v):w.cell? ⟨c,34+k,none⟩=some v:=by
 refine aC h.top ?_;rw[List.getElem?_toArray];unfold fL;have e:34+k=(32+k)+1+1:=by omega
 have q:(pid.map vb).length=32:=by rw[List.length_map,h.idl]
 rw[e,List.getElem?_cons_succ,List.getElem?_cons_succ,List.getElem?_append_right (by omega),q];have f:32+k-32=k:=by omega
 rw[f];exact j
theorem bD.cp_(h:bD w c a m pid cp lv gv t):w.cell? ⟨c,34,none⟩=some (.int .i64 (cp:Int)):=h.at_ (k:=0) rfl
theorem bD.lv_(h:bD w c a m pid cp lv gv t):w.cell? ⟨c,35,none⟩=some lv:=h.at_ (k:=1) rfl
theorem bD.gv_(h:bD w c a m pid cp lv gv t):w.cell? ⟨c,36,none⟩=some gv:=h.at_ (k:=2) rfl
theorem bD.old_(h:bD w c a m pid cp lv gv t):w.cell? ⟨c,37,none⟩=some t.ov:=h.at_ (k:=3) rfl
theorem bD.live_(h:bD w c a m pid cp lv gv t):w.cell? ⟨c,38,none⟩=some t.vv:=h.at_ (k:=4) rfl
theorem bD.txg_(h:bD w c a m pid cp lv gv t):w.cell? ⟨c,39,none⟩=some (.int .i64 t.u.txg):=h.at_ (k:=5) rfl
theorem bD.out_(h:bD w c a m pid cp lv gv t):w.cell? ⟨c,108,none⟩=some (.bool false):=h.at_ (k:=74) (by
 have e:=lQ h.lst.ub.root.sum h.lst.ub.pool (v:=t.rv);simp only[List.getElem?_cons_succ];unfold iJ;rw[List.getElem?_append_right (by omega),e];rfl)
end
variable{w w':World}{c a m cp D Z nw n d lb k bc g b2 b o:Nat}{pid:List UInt8}{lv gv v:Value}{t:Lst}{B T:Nat->Prop}{Mm:Nat->Nat->List UInt8}{xs C:List Value}{Q:Exit->Act->World->Prop}{P:Program}{ops:Array Oper}{fn:Func}{p:Tmp}{lc:Nat->Option Nat}{Ls:List Ad}{l:List Nat}{vs:Nat->Value}{ps:Nat->Pt}
theorem xP(h:bD w c a m pid cp lv gv t):Calls prog 98 #[.pointer c] w (aH w (.bool false)):=by
 have e:=O h;have f:=lN w;clear h;go_in;have c1:w.cell? ⟨c,0,none⟩=some (.pointer a):=(bD.c0 e.out)
 go_wp2_with fail;clear c1;go_ret;exact aH.of f.keep
theorem CQ(q:bQ w a B D Z Mm nw):Calls prog 41 #[.pointer a] w (aH w (.bool false)):=by
 have f:=O q;have h:=lN w;clear q;go_in;go_wp2_with fail;refine(OR f.out).mono ?_;rintro e r ⟨rfl,j⟩;replace h:=kL h j;replace f:=O (f.keep0 j);clear j;go_wp2;go_ret;exact aH.of h.keep
theorem rX(h:bD w c a m pid cp lv gv t)(s:bQ w a B D Z Mm nw):Calls prog 60 #[.pointer c] w (aH w (.int .i64 0)):=by
 have j:=O h;have q:=O s;have r:=lN w;clear h s;go_in;go_wp2_with fail;refine(xP j.out).mono ?_;rintro e u ⟨rfl,f⟩;replace r:=kL r f;replace j:=O (j.keep0 f);replace q:=O (q.keep0 f);clear f;have c1:u.cell? ⟨c,108,none⟩=some (.bool false):=(bD.out_ j.out)
 have c2:u.cell? ⟨c,0,none⟩=some (.pointer a):=(bD.c0 j.out)
 go_wp2_with fail;clear c1 c2;refine(CQ q.out).mono ?_;rintro e x ⟨rfl,f⟩;replace r:=kL r f;replace j:=O (j.keep0 f);replace q:=O (q.keep0 f);clear f;go_wp2;go_ret;exact aH.of r.keep
theorem Gf(h:bD w c a m pid cp lv gv t):Calls prog 77 #[.pointer c] w (aH w (.int .i64 (cp:Int))):=by
 have f:=O h;have j:=lN w;clear h;go_in;go_wp2_with fail;refine(xP f.out).mono ?_;rintro e r ⟨rfl,q⟩;replace j:=kL j q;replace f:=O (f.keep0 q);clear q;have c1:r.cell? ⟨c,34,none⟩=some (.int .i64 (cp:Int)):=(bD.cp_ f.out)
 go_wp2_with fail;clear c1;go_ret;exact aH.of j.keep
theorem E0:(prog.info? 3).map (fun i=>(i.zero,i.size,i.bytes))=some (some (.int .i64 0),1,8):=by kernel_rfl
theorem KJ:(prog.info? 4).map (fun i=>(i.zero,i.size,i.bytes))=some (some (.bool false),1,1):=by kernel_rfl
def rY(k:Nat):List Value:=(List.range k).map fun(i:Nat)=>Value.int .i64 (i:Int)
theorem IT(k:Nat):rY (k+1)=rY k++[.int .i64 (k:Int)]:=by unfold rY;rw[List.range_succ,List.map_append];rfl
theorem Ak{wr f j:World}{T:TypeId}(h:aA aB w wr)(q:f.ownsRow w.heap.size T 1 v n xs)(k:aA aB wr f)(r:aA (fun k=>v.ownBlock=some k) f j):aA aB w j:=
 (h.trans k).tT r (fun i s e=>by have:=aW q e;omega)
def M9(w:World)(D:Nat)(e:Ending)(w':World):Prop:=∃v,e=.returned v/\w'.ownsRow w.heap.size 3 1 v D (rY D)/\aA aB w w'
theorem rZ(h:bD w c a m pid cp lv gv t)(R:bQ w a B D Z Mm nw):Calls prog 44 #[.pointer c] w (M9 w D):=by
 have Y:=R.bd;have G:=O h;have F:=O R;have f:=lN w;clear h R;go_in;have c1:w.cell? ⟨c,0,none⟩=some (.pointer a):=(bD.c0 G.out)
 go_wp2_with fail;clear c1;refine(lJ F.out).mono ?_;rintro e w1 ⟨rfl,j⟩;replace f:=kL f j;replace G:=O (G.keep0 j);replace F:=O (F.keep0 j);clear j;go_wp2_with fail;have J:=O f.keep;clear f G F
 go_loopw [3,10] (fun v i wr=>∃(k:Nat) (p:Option Addr) (H:Nat),k≤D/\i=.int .i64 k/\v=.slice p k H/\Hid (aA aB w wr)/\Hid (wr.ownsRow w.heap.size 3 1 (.slice p k H) k (rY k))) (fun _ i _=>D-(intOf i).toNat)
 case atStart=>exact⟨0,none,0,by omega,rfl,rfl,J,O (World.ownsRow_nil _ _ _ _)⟩
 case round =>
  obtain⟨k,p,H,j,rfl,rfl,I,x⟩:=hrel
  by_cases qb:k<D
  ·have f:=lN wr
   have W:=O I.size;have qa:(k:Int)<(D:Int):=by omega
   go_wp2_with ((with_reducible show WL _ _);refine bs1 48 3 (.tmp 14) (.int .i64 (k:Int)) (by kernel_rfl) (by kernel_rfl) underlying48 rfl ?_)
   intro z w2 A j V;replace f:=lW f A j V;replace x:=O (j.owns x.out fun _ _=>id);clear A j V;have r:Rd w2 1 (.slice z 1 1) 1 [.int .i64 (k:Int)]:=dX (n:=1) (size:=1) (f.b 0) rfl (by unfold maxLen;omega);have q:=O r;have N:=x;have y:=O f.keep;clear r
   go_wp2_with (first
    | (at_builtin;refine aM rfl (.tmp 13) (.tmp 15) 48 rfl w.heap.size 3 (.int .i64 0) 1 8 underlying48 E0 rfl (by decide) (.slice p k H) k (rY k) rfl x.out (.slice z 1 1) 1 [.int .i64 (k:Int)] rfl q.out (by intro u hu;rcases List.mem_singleton.1 hu with rfl;rfl) (by unfold maxLen;omega) (by omega) (Nat.le_trans W.out y.size) ?_))
   intro v2 w8 s E U S;obtain⟨X,c2,rfl⟩:=ownsRow_succ s;have M:=O s;have K:=O E;clear s E U S q f x;go_wp2_with fail;have L:=O (Ak I.out N.out y.out K.out)
   go_roundw
   case rel=>exact⟨k+1,some ⟨X,0,none⟩,c2,by omega,by go_num,rfl,L,by rw[IT];exact M⟩
   case measure=>simp[intOf];omega
  ·obtain rfl:k=D:=by omega
   go_wp2;go_ret;exact⟨_,rfl,x.out,I.out⟩
def dJ(pid:List UInt8)(d D cp Z:Nat):Lab:=⟨pid,(d:Int),(D:Int),(cp:Int),(Z:Int),0⟩
theorem vA(q:d<D)(h:2≤D/\D≤8/\8≤Z/\Z≤4096)(e:1≤cp)(f:cp≤3)(j:cp≤D):(dJ pid d D cp Z).may=true:=by
 unfold Lab.may dJ;simp only[decide_eq_true_eq];omega
def GZ(w:World)(L:Lab)(e:Ending)(w':World):Prop:=e=.returned (.tuple #[.agg L.cells.toArray,.bool true])/\aA aB w w'
theorem E1(ha:bQ w a B D Z Mm nw)(A:pid.length=32)(hd:d<D)(V:1≤cp/\cp≤3/\cp≤D)(K:Mm d 0=eC (dJ pid d D cp Z)) :
 Calls prog 153 #[.pointer a,.int .i64 (d:Int)] w (GZ w (dJ pid d D cp Z)):=by
 have qn:=ha.bd;have H:=vA (pid:=pid) hd qn V.1 V.2.1 V.2.2;have ql:=O (EY (dJ pid d D cp Z) A H);have qa:=O K;have qd:=O A;have qb:=O H;have qk:=O (ha.len hd (show 0<Z by omega));have qg:=O hd;have qm:=O (show 0<Z by omega);obtain⟨lc,r⟩:=zX9 ((dJ pid d D cp Z).cells)
 have F:lc.length=37:=by rw[←r];exact Lab.cells_length _ A
 have qc:Hid (∀u∈lc,u.oneCell'=true):=O (by rw[←r];exact oL _);have s:∀i,lc.toArray[32+i]?=(dJ pid d D cp Z).nums[i]?:=fun i=>by rw[List.getElem?_toArray,←r];exact Lab.cells_num _ A i
 have L:Hid (lc.toArray[32]?=some (.int .i64 (d:Int))):=O (s 0);have M:Hid (lc.toArray[33]?=some (.int .i64 (D:Int))):=O (s 1);have qi:Hid (lc.toArray[34]?=some (.int .i64 (cp:Int))):=O (s 2);have N:Hid (lc.toArray[35]?=some (.int .i64 (Z:Int))):=O (s 3);have qj:Hid (lc.toArray[36]?=some (.int .i64 0)):=O (s 4);have qh:=O r;have q:=O ha;have j:=lN w;unfold GZ;rw[r];clear ha H K r s A;have Y:=q;go_in
 go_wp2_with refine alM j (O qB) ?_
 intro b4 w1 f j;replace q:=O (q.keep0 f);clear f;go_wp2_with fail;refine(QM q.out qg.out qm.out).mono ?_;rintro e w2 ⟨v0,rfl,ho,f⟩;obtain⟨pv,cv,rfl,-,-⟩:=(Rd.of_owns ho).form;have X:=O ho;clear ho;replace j:=kL j f;replace q:=O (q.keep0 f);clear f;go_wp2_with fail;refine(DG w2 (.slice pv 256 cv) (dJ pid d D cp Z) qd.out qb.out (Mm d 0) qa.out (by rw[qk.out];exact Rd.of_owns X.out)).mono ?_;rintro e w3 ⟨rfl,f⟩;replace j:=kL j f;replace q:=O (q.keep0 f);replace X:=O (f.owns X.out fun _ _=>id);clear f;rw[qa.out,ql.out];dsimp only;rw[qh.out]
 go_wp2_with ((with_reducible show WL _ _);refine alW (O qB) F sR (by rw[F];exact gQ) qc.out ?_)
 intro R w5 qe f hb
 replace j:=lW j qe f hb;replace q:=O (q.keep0 f);replace X:=O (f.owns X.out fun _ _=>id);clear qe f hb;clear X;go_wp2_with fail;refine dwA (fun k=>k=b4) (by kernel_rfl) ?_;intro w6 S z J E W;replace j:=kL j W;replace q:=O (q.keep0 W);clear W;have x:=j;have qf:=q;refine tnd 0 (.agg lc.toArray) rfl (yieldsIf_load_mid (by rfl) 157 (.tmp 8) rfl R 0 rfl lc _ (fun w' h=>aD ((z w' h).blk (x.b 0) (fun e=>by exact bH (i:=1) x.nd rfl 0 (by decide) rfl e))) underlying157 rfl (by rw[F];exact gQ)) E ?_;refine tna 1 (.int .i64 0) rfl E ?_;refine tnb 2 (.bool true) rfl E ?_;refine tna 3 (.bool true) rfl E ?_;refine tnb 4 (.pointer (some ⟨R,32,none⟩)) rfl E ?_;refine tnd 5 (.int .i64 (d:Int)) rfl (.inl ⟨by rfl,fun w' I=>by have c:World.cell? w' ⟨R,32,none⟩=some (.int .i64 (d:Int)):=(aC (i:=32) ((z w' I).blk (x.b 0) (fun e=>by exact bH (i:=1) x.nd rfl 0 (by decide) rfl e)) (L.out));go_simp⟩) E ?_;refine tna 6 (.int .i64 (d:Int)) rfl E ?_;refine tnb 7 (.bool true) rfl E ?_;refine tna 8 (.bool true) rfl E ?_;refine tna 9 (.bool true) rfl E ?_;refine tnb 10 (.pointer (some ⟨R,33,none⟩)) rfl E ?_;refine tnd 11 (.int .i64 (D:Int)) rfl (.inl ⟨by rfl,fun w' I=>by have c:World.cell? w' ⟨R,33,none⟩=some (.int .i64 (D:Int)):=(aC (i:=33) ((z w' I).blk (x.b 0) (fun e=>by exact bH (i:=1) x.nd rfl 0 (by decide) rfl e)) (M.out));go_simp⟩) E ?_;refine tna 12 (.pointer a) rfl E ?_;refine wA9 13 ?_;go_wp2_with fail;refine(lJ q.out).mono ?_;rintro e w7 ⟨rfl,f⟩;have y:=J.out _ ((z _ E).trans f.any);replace j:=kL j f;replace q:=O (q.keep0 f);clear E f;go_wp2_with fail;refine⟨y,?_⟩;refine tnb 14 (.bool true) rfl y ?_;refine tna 15 (.bool true) rfl y ?_;refine tna 16 (.bool true) rfl y ?_;refine tnb 17 (.pointer (some ⟨R,35,none⟩)) rfl y ?_;refine tnd 18 (.int .i64 (Z:Int)) rfl (.inl ⟨by rfl,fun w' I=>by have c:World.cell? w' ⟨R,35,none⟩=some (.int .i64 (Z:Int)):=(aC (i:=35) ((z w' I).blk (x.b 0) (fun e=>by exact bH (i:=1) x.nd rfl 0 (by decide) rfl e)) (N.out));go_simp⟩) y ?_;refine tna 19 (.pointer a) rfl y ?_;refine wA9 20 ?_;go_wp2_with fail;refine(xJ q.out).mono ?_;rintro e w8 ⟨rfl,f⟩;have G:=J.out _ ((z _ y).trans f.any);replace j:=kL j f;replace q:=O (q.keep0 f);clear y f;go_wp2_with fail;refine⟨G,?_⟩;refine tnb 21 (.bool true) rfl G ?_;refine tna 22 (.bool true) rfl G ?_;refine wA9 23 ?_;refine stW (j.b 1) F sR (by rw[F];exact gQ) qc.out ?_;intro w9 f hb;have U:=J.out _ ((z _ G).tT f (fun i hi e=>(e)));clear G;replace j:=O (j.set 1 f hb);replace q:=O (Y.keep0 j.keep);clear f hb;refine wpList_nil ?_;refine⟨U,?_⟩;refine tna 24 (.bool true) rfl U ?_;refine wpAnyH_done (by kernel_rfl) ?_ _;clear U z J x qf;have HR:Hid (aA aB w w9):=O j.keep;have HB:=O (j.b 1);clear j q Y;go_wp2_with fail;refine bodyPost_ret (aT rfl _ _ b4 _ _ _ _ rfl HB.out underlying157 rfl (by rw[List.size_toArray,F];exact gQ)) rfl ?_;exact⟨rfl,HR.out⟩
theorem qC(ha:bQ w a B D Z Mm nw)(h:bD w c a m pid cp (.slice lb D D) gv t)(qc:w.heap[lb]?=some (.cells (Array.replicate D (.int .i64 0)) 3 (0,0)))(hd:d<D)(J:1≤cp/\cp≤3/\cp≤D)(L:Mm d 0=eC (dJ pid d D cp Z)) :
 Calls prog 101 #[.pointer c,.int .i64 (d:Int)] w (aH w (.bool true)):=by
 have qk:=ha.bd;have A:=h.idl;have M:=vA (pid:=pid) hd qk J.1 J.2.1 J.2.2;have qm:(0:Int)≤(d:Int):=by omega
 have qn:(d:Int)<(D:Int):=by omega
 have qj:Hid (rB (dJ pid d D cp Z) pid (d:Int) 0=true):=O (by unfold rB;rw[M];simp[dJ]);obtain⟨lc,z⟩:=zX9 ((dJ pid d D cp Z).cells)
 have X:lc.length=37:=by rw[←z];exact Lab.cells_length _ A
 have qi:Hid (∀u∈lc,u.oneCell'=true):=O (by rw[←z];exact oL _);have r:∀i,lc.toArray[32+i]?=(dJ pid d D cp Z).nums[i]?:=fun i=>by rw[List.getElem?_toArray,←z];exact Lab.cells_num _ A i
 have qf:Hid (lc.toArray[32]?=some (.int .i64 (d:Int))):=O (r 0);have qg:Hid (lc.toArray[33]?=some (.int .i64 (D:Int))):=O (r 1);have R:Hid (lc.toArray[34]?=some (.int .i64 (cp:Int))):=O (r 2);have qh:Hid (lc.toArray[35]?=some (.int .i64 (Z:Int))):=O (r 3);have U:Hid (lc.toArray[36]?=some (.int .i64 0)):=O (r 4);have qa:=O z;have qe:=O L;have qd:=O J;have HD:=O hd;have ql:(pid.map vb).length=32:=by rw[List.length_map];exact A
 have I:=O A;have F:Hid (w.cell? ⟨lb,d,none⟩=some (.int .i64 0)):=O (by rw[cell_of_row _ _ _ _ _ _ qc];simp[hd]);have s:=O h;have E:=O ha;have x:=lN w;clear ha h M L z r A J qc;go_in;go_wp2_with fail;refine(xP s.out).mono ?_;rintro e w1 ⟨rfl,f⟩;replace x:=kL x f;replace s:=O (s.keep0 f);replace E:=O (E.keep0 f);replace F:=O (f.cell F.out id);clear f;have c1:w1.cell? ⟨c,0,none⟩=some (.pointer a):=(bD.c0 s.out)
 go_wp2_with fail;clear c1;refine(E1 E.out I.out HD.out qd.out qe.out).mono ?_;rintro e w2 ⟨rfl,f⟩;replace x:=kL x f;replace s:=O (s.keep0 f);replace E:=O (E.keep0 f);replace F:=O (f.cell F.out id);clear f;rw[qa.out]
 go_wp2_with ((with_reducible show WL _ _);refine alW (O qB) X sR (by rw[X];exact gQ) qi.out ?_)
 intro b5 w4 qb f hb
 replace x:=lW x qb f hb;replace s:=O (s.keep0 f);replace E:=O (E.keep0 f);replace F:=O (f.cell F.out id);clear qb f hb;go_wp2_with fail;refine dwA aB (by kernel_rfl) ?_;intro w5 S y K q j;replace x:=kL x j;replace s:=O (s.keep0 j);replace E:=O (E.keep0 j);replace F:=O (j.cell F.out id);clear j;have H:=x;have G:=s;have N:=E;have V:=F;refine tna 0 (.bool true) rfl q ?_;refine tnb 1 (.bool false) rfl q ?_;refine tna 2 (.bool false) rfl q ?_;refine tnb 3 (.pointer (some ⟨b5,34,none⟩)) rfl q ?_;refine tnd 4 (.int .i64 (cp:Int)) rfl (.inl ⟨by rfl,fun w' Y=>by have c:World.cell? w' ⟨b5,34,none⟩=some (.int .i64 (cp:Int)):=(aC (i:=34) ((y w' Y).blk (H.b 0) id) (R.out));go_simp⟩) q ?_;refine tna 5 (.pointer c) rfl q ?_;refine tnb 6 (.pointer c) rfl q ?_;refine tnb 7 (.pointer (some ⟨c,34,none⟩)) rfl q ?_;refine tnd 8 (.int .i64 (cp:Int)) rfl (.inl ⟨by rfl,fun w' Y=>by have c:World.cell? w' ⟨c,34,none⟩=some (.int .i64 (cp:Int)):=(y w' Y).cell (bD.cp_ G.out) id;go_simp⟩) q ?_;refine tnb 9 (.bool false) rfl q ?_;refine tna 10 (.bool false) rfl q ?_;refine wpAnyH_done (by kernel_rfl) ?_ _;clear q y K H G N V;have c1:w5.cell? ⟨b5,36,none⟩=some (.int .i64 0):=(aC (i:=36) (x.b 0) (U.out))
 have c2:w5.cell? ⟨c,35,none⟩=some (.slice lb D D):=(bD.lv_ s.out)
 have c3:w5.cell? ⟨c,35,none⟩=some (.slice lb D D):=(bD.lv_ s.out)
 have c4:w5.cell? ⟨lb,d,none⟩=some (.int .i64 0):=F.out;go_wp2_with fail;clear c1 c2 c3 c4;refine dwA aB (by kernel_rfl) ?_;intro w6 S y K q j;replace x:=kL x j;replace s:=O (s.keep0 j);replace E:=O (E.keep0 j);replace F:=O (j.cell F.out id);clear j;have H:=x;have G:=s;have N:=E;have V:=F;refine tnd 0 (.agg lc.toArray) rfl (yieldsIf_load_mid (by rfl) 157 (.tmp 5) rfl b5 0 rfl lc _ (fun w' h=>aD ((y w' h).blk (H.b 0) id)) underlying157 rfl (by rw[X];exact gQ)) q ?_;refine tna 1 (.pointer c) rfl q ?_;refine tnb 2 (.pointer c) rfl q ?_;refine tnb 3 (.pointer (some ⟨c,2,none⟩)) rfl q ?_;refine tnd 4 (.agg (pid.map vb).toArray) rfl (yieldsIf_load_mid (by rfl) 28 (.tmp 47) rfl c 2 rfl (pid.map vb) _ (fun w' h=>(y w' h).rangeAt (bD.id_ G.out)) underlying28 rfl (by rw[ql];exact xD)) q ?_;refine tna 5 (.int .i64 (d:Int)) rfl q ?_;refine tna 6 (.int .i64 0) rfl q ?_;refine wA9 7 ?_;go_wp2_with fail;refine((by rw[←qa.out];exact KH w6 (dJ pid d D cp Z) pid (d:Int) 0 I.out I.out:Ka w6 (aN w6 (rB (dJ pid d D cp Z) pid (d:Int) 0)))).mono ?_;rintro e w7 ⟨rfl,f⟩;have W:=K.out _ ((y _ q).trans f);replace x:=kL x f;replace s:=O (s.keep0 f);replace E:=O (E.keep0 f);replace F:=O (f.cell F.out id);clear q f;rw[qj.out];go_wp2_with fail;refine⟨W,?_⟩;refine tna 8 (.bool true) rfl W ?_;refine wpAnyH_done (by kernel_rfl) ?_ _;clear W y K H G N V;have HR:Hid (aA aB w w7):=O x.keep;clear x E s;go_wp2;go_ret;exact aH.of HR.out
structure gZ(w:World)(c a m lb:Nat)(pid:List UInt8)(cp:Nat)(gv:Value)(t:Lst)(B:Nat->Prop)(D Z:Nat)(Mm:Nat->Nat->List UInt8)(nw:Nat):Prop where
 cor:bD w c a m pid cp (.slice (some ⟨lb,0,none⟩) D D) gv t
 arr:bQ w a B D Z Mm nw
 mir:eV w m a
 liv:w.heap[lb]?=some (.cells (Array.replicate D (.int .i64 0)) 3 (0,0))
 cpb:1≤cp/\cp≤3/\cp≤D
 lab:∀d,d<D->Mm d 0=eC (dJ pid d D cp Z)
theorem gZ.keep(h:gZ w c a m lb pid cp gv t B D Z Mm nw)(k:aA T w w')(f:∀i,T i->i≠c/\i≠m/\i≠lb/\¬B i/\¬t.Own i):gZ w' c a m lb pid cp gv t B D Z Mm nw:=
 ⟨h.cor.keep k (fun e=>(f _ e).1 rfl) fun i e=>(f i e).2.2.2.2,h.arr.keep k fun i e=>(f i e).2.2.2.1,k.blk h.mir fun e=>(f _ e).2.1 rfl,k.blk h.liv fun e=>(f _ e).2.2.1 rfl,h.cpb,h.lab⟩
theorem gZ.keep0(h:gZ w c a m lb pid cp gv t B D Z Mm nw)(k:aA aB w w'):gZ w' c a m lb pid cp gv t B D Z Mm nw:=h.keep k fun _ h=>h.elim
theorem oM{u:Value}(h:Rd w 1 v n xs)(f:xs[k]?=some u):∃g o e,v=.slice (some ⟨g,o,none⟩) n e/\w.cell? ⟨g,o+k,none⟩=some u:=by
 obtain⟨h0,a,e,rfl,r,s,x,j⟩:=h;obtain⟨g,o,rfl,q⟩:=j (by have:=(List.getElem?_eq_some_iff.1 f).1;omega);exact⟨g,o,e,rfl,q k u f⟩
theorem lX(h:k<n):(rY n)[k]?=some (.int .i64 (k:Int)):=by
 unfold rY;rw[List.getElem?_map,List.getElem?_range h];rfl
def kX(k:Nat):List Value:=List.replicate k (.bool true)
theorem IU(k:Nat):kX (k+1)=kX k++[.bool true]:=by unfold kX;rw[List.replicate_succ']
def OX(w:World)(D:Nat)(e:Ending)(w':World):Prop:=∃v,e=.returned v/\w'.ownsRow w.heap.size 4 1 v D (kX D)/\aA aB w w'
theorem BZ(h:gZ w c a m lb pid cp gv t B D Z Mm nw):Calls prog 64 #[.pointer c] w (OX w D):=by
 have qb:=h.arr.bd;have G:=O h;have q:=lN w;clear h;go_in;go_wp2_with fail;refine(rZ G.cor G.arr).mono ?_;rintro e N ⟨v0,rfl,ho,j⟩;obtain⟨g,o,dc,rfl,-⟩:=oM (Rd.of_owns ho) (lX (show 0<D by omega))
 have R:=O (fun(k:Nat) (j:k<D)=>show ∃y,Value.slice (some ⟨g,o,none⟩) D dc=.slice (some ⟨g,o,none⟩) D y/\World.cell? N ⟨g,o+k,none⟩=some (.int .i64 (k:Int)) from by
  obtain⟨g',o',y,he,Y⟩:=oM (Rd.of_owns ho) (lX j);cases he
  exact⟨_,rfl,Y⟩)
 clear ho;replace q:=kL q j;replace G:=O (G.keep0 j);clear j;go_wp2_with fail;have H:=O q.keep;clear q
 go_loopw [3,5,9] (fun v _ i wr=>∃(k:Nat) (p:Option Addr) (M:Nat),k≤D/\i=.int .i64 k/\v=.slice p k M/\Hid (aA aB N wr)/\Hid (wr.ownsRow N.heap.size 4 1 (.slice p k M) k (kX k))) (fun _ _ i _=>D-(intOf i).toNat)
 case atStart=>exact⟨0,none,0,by omega,rfl,rfl,O (aA.refl _ _),O (World.ownsRow_nil _ _ _ _)⟩
 case round =>
  obtain⟨k,p,M,j,rfl,rfl,r,s⟩:=hrel
  by_cases A:k<D
  ·have q:=lN wr
   have HW:=O r.size;have qc:(0:Int)≤(k:Int):=by omega
   have qd:(k:Int)<(D:Int):=by omega
   have F:Hid (World.cell? wr ⟨g,o+k,none⟩=some (.int .i64 (k:Int))):=O (by obtain⟨_,_,Y⟩:=R.out k A;exact r.cell Y id);have f:=O (G.keep0 r.out);have c1:wr.cell? ⟨g,o+k,none⟩=some (.int .i64 (k:Int)):=F.out;go_wp2_with fail;clear c1;refine(qC f.arr f.cor f.liv A f.cpb (f.lab _ A)).mono ?_;rintro e w2 ⟨rfl,j⟩;replace q:=kL q j;replace s:=O (j.owns s.out fun _ _=>id);replace f:=O (f.keep0 j);replace F:=O (j.cell F.out id);clear j
   go_wp2_with ((with_reducible show WL _ _);refine bs1 134 4 (.tmp 16) (.bool true) (by kernel_rfl) (by kernel_rfl) underlying134 rfl ?_)
   intro J w3 K j hb;replace q:=lW q K j hb;replace s:=O (j.owns s.out fun _ _=>id);replace f:=O (f.keep0 j);replace F:=O (j.cell F.out id);clear K j hb;have z:Rd w3 1 (.slice J 1 1) 1 [.bool true]:=dX (n:=1) (size:=1) (q.b 0) rfl (by unfold maxLen;omega);have x:=O z;have W:=s;have I:=O q.keep;clear z
   go_wp2_with (first
    | (at_builtin;refine aM rfl (.tmp 13) (.tmp 17) 134 rfl N.heap.size 4 (.bool false) 1 1 underlying134 KJ rfl (by decide) (.slice p k M) k (kX k) rfl s.out (.slice J 1 1) 1 [.bool true] rfl x.out (by intro u hu;rcases List.mem_singleton.1 hu with rfl;rfl) (by unfold maxLen;omega) (by omega) (Nat.le_trans HW.out I.size) ?_))
   intro v2 w8 E L qa X;obtain⟨g2,c2,rfl⟩:=ownsRow_succ E;have V:=O E;have S:=O L;clear E L qa X x q s f F;go_wp2_with fail;have U:=O (Ak r.out W.out I.out S.out)
   go_roundw
   case rel=>exact⟨k+1,some ⟨g2,0,none⟩,c2,by omega,by go_num,rfl,U,by rw[IU];exact V⟩
   case measure=>simp[intOf];omega
  ·obtain rfl:k=D:=by omega
   go_wp2;go_ret;exact⟨_,rfl,bA s.out H.size,H.trans r.out⟩
theorem OY:(prog.info? 59).map (fun i=>(i.zero,i.size,i.bytes))=some (some (.agg #[.int .i64 0,.int .i64 0]),2,16):=by kernel_rfl
def Bb(w:World)(l:List Ad)(e:Ending)(w':World):Prop:=∃f,e=.returned f/\w'.ownsRow w.heap.size 59 2 f l.length (aR l)/\aA aB w w'
theorem QN(w:World):Sem.run prog (binOp .eql 26 (.slice none 0 0) (.slice none 0 0)) w=.ok (.bool true) w:=by kernel_rfl
theorem Qa(w:World)(a:Addr)(n c:Nat):Sem.run prog (binOp .eql 26 (.slice (some a) n c) (.slice none 0 0)) w=.ok (.bool false) w:=by kernel_rfl
theorem oN(w:World)(v:Value)(l:List Ad)(z:Rd w 2 v l.length (aR l))(hl:l.length≤65536):Calls prog 61 #[v] w (Bb w l):=by
 obtain⟨h0,A,F,hv,R,S,H,V⟩:=z;have z:Rd w 2 v l.length (aR l):=⟨h0,A,F,hv,R,S,H,V⟩
 subst hv;cases A with
 | none =>
   obtain rfl:F=0:=H rfl;have y:l.length=0:=by omega
   have hx:l=[]:=List.eq_nil_of_length_eq_zero y;subst hx;clear h0 R S H V z hl y;have qa:=QN w;go_in;go_wp2;go_ret;exact⟨_,rfl,World.ownsRow_nil _ _ _ _,aA.refl _ _⟩
 | some A =>
   obtain⟨w3,qb,I,W,s3⟩:=aP w #[] 59;have J:=O I;have qc:=O s3;have M:Hid (w3.ownsRow w.heap.size 59 2 (.slice (w.heap.size) 0 0) 0 []):=O (by rw[←qb];exact World.ownsRow_made w #[] 0 (Nat.le_refl _) (by unfold maxLen;omega) rfl);have r:=O (z.keep I fun _ _=>id);have q:Hid (∀E w',w'.ownsRow w.heap.size 59 2 E l.length (aR l)->aA aB w w'->Bb w l (.returned E) w'):=O (fun E w' a b=>⟨E,rfl,a,b⟩);obtain⟨n,X⟩:=zX9 l.length
   obtain⟨G,f⟩:=zX9 (aR l)
   have L:Hid (∀u∈G,u.oneCell'=true):=O (by rw[←f];exact zA _);rw[X,f] at r q;rw[X] at hl ⊢;have qd:w.heap.size≤w3.heap.size:=I.size;clear h0 R S H V z I W s3 X f;have qa:=Qa w A n F;go_in
   go_wp2_with (first
    | (at_builtin;refine aM rfl (.tmp 5) (.tmp 6) 26 rfl w.heap.size 59 (.agg #[.int .i64 0,.int .i64 0]) 2 16 underlying26 OY rfl (by decide) (.slice (w.heap.size) 0 0) 0 ([]) rfl M.out (.slice (some A) n F) n G rfl r.out L.out (by unfold maxLen;omega) (by omega) (by omega) ?_
       intro E w4 j x Y s;rw[Nat.zero_add,List.nil_append] at j;have N:=O j;have K:=O (J.tT x (fun i hi e=>by have e':w.heap.size=i:=Option.some.inj e;omega));clear j x Y s))
   go_ret;exact q.out _ _ N.out K.out
theorem IV(h:gZ w c a m lb pid cp gv t B D Z Mm nw)(x:Ad)(I:eF x D Z):Calls prog 162 #[.pointer c,.agg (aO x).toArray] w (aH w (.bool true)):=by
 have J:Hid (fN x D Z=true):=O ((BM h.arr.bd).2 I);have q:=O h;have r:=lN w;clear h I;go_in
 go_wp2_with refine bxM r ((aO x).toArray) ?_
 intro K M f r;replace q:=O (q.keep0 f);clear f;go_wp2_with fail;refine dwA aB (by kernel_rfl) ?_;intro N S j u s F;replace r:=kL r F;replace q:=O (q.keep0 F);clear F;have H:=r;have y:=q;refine tnd 0 (.agg (aO x).toArray) rfl (yieldsIf_load_mid (by rfl) 59 (.tmp 3) rfl K 0 rfl (aO x) _ (fun w' h=>aD ((j w' h).blk (H.b 0) id)) bT rfl (by rw[bG];exact jK)) s ?_;refine tna 1 (.pointer c) rfl s ?_;refine tnb 2 (.pointer c) rfl s ?_;refine tnb 3 (.pointer c) rfl s ?_;refine tnd 4 (.pointer a) rfl (.inl ⟨by rfl,fun w' G=>by have c:World.cell? w' ⟨c,0,none⟩=some (.pointer a):=(j w' G).cell (bD.c0 y.cor) id;go_simp⟩) s ?_;refine tna 6 (.pointer c) rfl s ?_;refine tnb 7 (.pointer c) rfl s ?_;refine tnb 8 (.pointer c) rfl s ?_;refine tnd 9 (.pointer a) rfl (.inl ⟨by rfl,fun w' G=>by have c:World.cell? w' ⟨c,0,none⟩=some (.pointer a):=(j w' G).cell (bD.c0 y.cor) id;go_simp⟩) s ?_;refine wA9 5 ?_;go_wp2_with fail;refine(lJ q.arr).mono ?_;rintro e R ⟨rfl,f⟩;have z:=u.out _ ((j _ s).trans f);replace r:=kL r f;replace q:=O (q.keep0 f);clear s f;go_wp2_with fail;refine⟨z,?_⟩;refine wA9 10 ?_;go_wp2_with fail;refine(xJ q.arr).mono ?_;rintro e L ⟨rfl,f⟩;have A:=u.out _ ((j _ z).trans f);replace r:=kL r f;replace q:=O (q.keep0 f);clear z f;go_wp2_with fail;refine⟨A,?_⟩;refine wA9 11 ?_;go_wp2_with fail;refine(GI x (D:Int) (Z:Int) L).mono ?_;rintro e U ⟨rfl,f⟩;have E:=u.out _ ((j _ A).trans f);replace r:=kL r f;replace q:=O (q.keep0 f);clear A f;rw[J.out];go_wp2_with fail;refine⟨E,?_⟩;refine tna 12 (.bool true) rfl E ?_;refine wpAnyH_done (by kernel_rfl) ?_ _;clear E j u H y;go_wp2;go_ret;exact aH.of r.keep
theorem KK(h:gZ w c a m lb pid cp gv t B D Z Mm nw)(s:w.heap[bc]?=some (.cells #[.pointer c] 24 (0,0)))(x:Ad)(u:eF x D Z):Calls prog 161 #[.agg (aO x).toArray,.pointer bc] w (aH w (.bool false)):=by
 have f:=O (cell_of_one s);have y:=O u;have r:=O h;have q:=lN w;clear h u s;go_in
 go_wp2_with refine bxM q ((aO x).toArray) ?_
 intro b2 z j q;replace r:=O (r.keep0 j);replace f:=O (j.cell f.out id);clear j;have c1:z.cell? ⟨bc,0,none⟩=some (.pointer c):=f.out
 go_wp2_with ((with_reducible show WL _ _);refine ldR (q.b 0) bT (by rw[bG];exact jK) ?_)
 clear c1;refine(IV r.out x y.out).mono ?_;rintro e A ⟨rfl,j⟩;replace q:=kL q j;replace r:=O (r.keep0 j);replace f:=O (j.cell f.out id);clear j;go_wp2;go_ret;exact aH.of q.keep
theorem KL(h:gZ w c a m lb pid cp gv t B D Z Mm nw)(y:w.heap[bc]?=some (.cells #[.pointer c] 24 (0,0)))(x:Ad)(z:eF x D Z):Calls prog 164 #[.agg (aO x).toArray,.pointer bc] w (aH w (.bool false)):=by
 have f:=O (cell_of_one y);obtain⟨d,s,rfl,A,E,F⟩:=mM z;have j:=O h;have r:=lN w;have u:=O A;clear h z y;go_in
 go_wp2_with refine bxM r ((aO ⟨(d:Int),(s:Int)⟩).toArray) ?_
 intro b2 G q r;replace j:=O (j.keep0 q);replace f:=O (q.cell f.out id);clear q;have c1:G.cell? ⟨bc,0,none⟩=some (.pointer c):=f.out;have c2:=cD r 0
 go_wp2_with fail;clear c1 c2;refine(qC j.arr j.cor j.liv u.out j.cpb (j.lab _ u.out)).mono ?_;rintro e H ⟨rfl,q⟩;replace r:=kL r q;replace j:=O (j.keep0 q);replace f:=O (q.cell f.out id);clear q;go_wp2;go_ret;exact aH.of r.keep
theorem Bc(w:World)(v:Value)(l:List Ad)(q:Rd w 2 v l.length (aR l))(U:l.length≤65536)(y bc:Nat)(eg:∀args w,(callFunc y args).run prog w=.ok (.enter y args) w)(j:∀x∈l,∀w',aA aB w w'->Calls prog y #[.agg (aO x).toArray,.pointer bc] w' (aH w' (.bool false))) :
 Calls prog 203 #[v,.func (.func y) #[] #[.pointer bc]] w (aH w (.int .i64 (-1))):=by
 obtain⟨oa,K,rfl,-,-⟩:=q.form;obtain⟨n,G⟩:=zX9 l.length
 have J:=O G;rw[G] at q U ⊢;have Y:n≤K:=by obtain⟨_,a',c',R,S,h3,-⟩:=q;cases R;exact S
 have N:=O q;have E:=O j;clear q j G;go_in;go_wp2_with fail
 go_loopw [5,8] (fun _ i wr=>∃k:Nat,k≤n/\i=.int .i64 k/\Hid (aA aB w wr)) (fun _ i _=>n-(intOf i).toNat)
 case atStart=>exact⟨0,by omega,rfl,O (aA.refl _ _)⟩
 case round =>
  obtain⟨k,z,rfl,r⟩:=hrel
  by_cases F:k<n
  ·obtain⟨x,H⟩:∃x,l[k]?=some x:=⟨l[k]'(by rw[J.out];exact F),List.getElem?_eq_getElem _⟩
   have f:=N.out;rw[←J.out] at f;obtain⟨g,o,L,M,h⟩:=gX f H;obtain rfl:oa=some ⟨g,o,none⟩:=by cases M;rfl
   have u:=O (r.rangeAt h);have I:=O (E x (List.mem_of_getElem? H) wr r.out);have s:=lN wr;have V:(0:Int)≤(k:Int):=by omega
   have W:(k:Int)<(n:Int):=by omega
   have X:(k:Int)≤(K:Int):=by omega
   clear H f h M
   go_wp2_with ((with_reducible show WL _ _);refine ldM g (o+k*2) (aO x) u.out bT (by rw[bG];exact jK) ?_)
   refine(I.out).mono ?_;rintro e w1 ⟨rfl,z⟩;replace s:=kL s z;replace u:=O (z.rangeAt u.out);clear z;go_wp2_with fail;have A:=O (r.trans s.keep);clear s I u
   go_roundw
   case rel=>exact⟨k+1,by omega,by go_num,A⟩
   case measure=>simp[intOf];omega
  ·obtain rfl:k=n:=by omega
   go_wp2;go_ret;exact aH.of r.out
def yI(Q:Exit->Act->World->Prop):Exit->Act->World->Prop
 | .panic _,_,_=>False
 | e,a,w=>Q e a w
theorem noP{a:Act}(h:Q .normal a w):yI Q .normal a w:=h
theorem mP{S:World->Prop}{id:Nat}{a:Act}(j:P.follows .mixedOrders=true)
 (h:wpAnyH P .any ops (yI Q) S ops.size (Array.replicate ops.size false) a { w with drawn:=w.drawn+1 }):(Code.region id ops true).wp P Q a w:=
 wp_mono (wp_region_held j h) fun e a w h=>by
  cases e<;>first|exact h|exact h.elim
theorem dwB{id:Nat}{a:Act}(U:Nat->Prop)(f:P.follows .mixedOrders=true)(h:∀wd (S:World->Prop),Hid (∀w',S w'->aA U wd w')->Hid (∀w',aA U wd w'->S w')->S wd->aA aB w wd->wpAnyH P .any ops (yI Q) S ops.size (Array.replicate ops.size false) a wd):(Code.region id ops true).wp P Q a w:=
 have e:=(aA.refl aB w).drew
 mP (S:=fun w'=>aA U w.drew w') f (h w.drew (fun w'=>aA U w.drew w') (O fun _ h=>h) (O fun _ h=>h) (aA.refl _ _) e)
theorem DH(w:World)(v:Value)(l:List Ad)(s:Rd w 2 v l.length (aR l))(q:l.length≤65536)(f bc:Nat)(y:∀args w,(callFunc f args).run prog w=.ok (.enter f args) w)(h:∀x∈l,∀w',aA aB w w'->Calls prog f #[.agg (aO x).toArray,.pointer bc] w' (aH w' (.bool false))) :
 Calls prog 160 #[v,.func (.func f) #[] #[.pointer bc]] w (aH w (.bool false)):=by
 have u:=O (Bc w v l s q f bc y h);have j:=lN w;clear s h q;go_in;go_wp2_with fail;refine(u.out).mono ?_;rintro e z ⟨rfl,r⟩;replace j:=kL j r;clear r;go_wp2;go_ret;exact aH.of j.keep
theorem Gg(w:World)(v:Value)(l:List Ad)(s:Rd w 2 v l.length (aR l))(q:l.length≤65536)(f bc:Nat)(y:∀args w,(callFunc f args).run prog w=.ok (.enter f args) w)(h:∀x∈l,∀w',aA aB w w'->Calls prog f #[.agg (aO x).toArray,.pointer bc] w' (aH w' (.bool false))) :
 Calls prog 163 #[v,.func (.func f) #[] #[.pointer bc]] w (aH w v):=by
 have u:=O (Bc w v l s q f bc y h);have j:=lN w;clear s h q;go_in;go_wp2_with fail;refine(u.out).mono ?_;rintro e z ⟨rfl,r⟩;replace j:=kL j r;clear r;go_wp2;go_ret;exact aH.of j.keep
theorem E2(v e:Value)(p:Pt):spl (aE v p).toArray 0 [e]=(aE e p).toArray:=by
 unfold aE spl spl;simp
def Am(w:World)(p:Pt)(e:Ending)(w':World):Prop:=∃v,e=.returned (.tuple #[.agg (aE v p).toArray,.int .i64 0])/\w'.ownsRow w.heap.size 59 2 v p.addrs.length (aR p.addrs)/\aA aB w w'
theorem Na(h:gZ w c a m lb pid cp gv t B D Z Mm nw)(pv:Value)(p:Pt)(hp:PtV w pv p)(K:p.may=true)(hh:p.hole=false)(qa:∀x∈p.addrs,eF x D Z)(J:p.addrs.length≤65536):Calls prog 109 #[.pointer c,.agg (aE pv p).toArray] w (Am w p):=by
 have I:=aF (v:=pv) hp.sum;obtain⟨oa,ca,qb,-,-⟩:=hp.rd.form;obtain⟨pc,y⟩:=zX9 (aE pv p)
 have qh:Hid (∀u∈pc,u.oneCell'=true):=O (by rw[←y,qb];exact cE p);have N:=O y;have W:Hid (∃r,pc=pv::r):=O ⟨_,y.symm⟩;rw[y] at I ⊢;have s:=O h;have f:=O hp;have qd:=O K;have HH:=O hh;have X:=O qa;have M:=O J;have q:=lN w;clear h hp y K hh qa J qb;have L:=s;have A:=f;go_in
 go_wp2_with refine bxM q (#[.pointer c]) ?_
 intro b2 w1 j q;replace s:=O (s.keep0 j);replace f:=O (f.keep j fun _ _=>id);clear j
 go_wp2_with refine bxM q (pc.toArray) ?_
 intro Y w2 j q;replace s:=O (s.keep0 j);replace f:=O (f.keep j fun _ _=>id);clear j
 go_wp2_with refine alM q aZ ?_
 intro b4 w3 j q;replace s:=O (s.keep0 j);replace f:=O (f.keep j fun _ _=>id);clear j;have c1:=cD q 2
 go_wp2_with fail;clear c1;refine(rX s.cor s.arr).mono ?_;rintro e w4 ⟨rfl,j⟩;replace q:=kL q j;replace s:=O (s.keep0 j);replace f:=O (f.keep j fun _ _=>id);clear j
 go_wp2_with refine ldQ (q.b 1) I ?_
 refine((by rw[←N.out];exact iZ w4 pv p f.out:Ka w4 (lH w4 p.may))).mono ?_;rintro e w5 ⟨rfl,j⟩;replace q:=kL q j;replace s:=O (s.keep0 j);replace f:=O (f.keep j fun _ _=>id);clear j;rw[qd.out]
 go_wp2_with ((with_reducible show WL _ _);refine aK (by rfl) 30 (.tmp 3) rfl Y 0 rfl pc _ (aD (q.b 1)) aI rfl (szP9 I) ?_)
 refine((by rw[←N.out];exact bK w5 pv p f.out:Ka w5 (aN w5 p.hole))).mono ?_;rintro e w6 ⟨rfl,j⟩;replace q:=kL q j;replace s:=O (s.keep0 j);replace f:=O (f.keep j fun _ _=>id);clear j;rw[HH.out];have c1:w6.cell? ⟨Y,0,none⟩=some (pv):=(by obtain⟨r,e⟩:=W.out;exact aC (i:=0) (q.b 1) (by rw[e];rfl))
 go_wp2_with fail;clear c1;refine(DH w6 pv p.addrs f.rd M.out 161 b2 (enters_of func161 (by kernel_rfl) rfl) (fun x hx w' k=>KK (s.keep0 k) (k.blk (q.b 2) id) x (X x hx))).mono ?_;rintro e w7 ⟨rfl,j⟩;replace q:=kL q j;replace s:=O (s.keep0 j);replace f:=O (f.keep j fun _ _=>id);clear j;have c1:w7.cell? ⟨Y,0,none⟩=some (pv):=(by obtain⟨r,e⟩:=W.out;exact aC (i:=0) (q.b 1) (by rw[e];rfl))
 go_wp2_with fail;clear c1;have qg:=O q.keep.size;have S:=O (q.lt 1).2;have U:=O (q.lt 0).2;refine(oN w7 pv p.addrs f.rd M.out).mono ?_;rintro e w8 ⟨v1,rfl,ho,j⟩;obtain⟨E,F,rfl,-,-⟩:=(Rd.of_owns ho).form;replace q:=kL q j;replace s:=O (s.keep0 j);replace f:=O (f.keep j fun _ _=>id);clear j;have V:=O (fun(i:Nat) (hi:(Value.slice E p.addrs.length F).ownBlock=some i)=>show w7.heap.size≤i from aW ho hi);have H:=O (bA ho qg.out);clear ho;go_wp2_with fail;refine(Gg w8 (.slice E p.addrs.length F) p.addrs (Rd.of_owns H.out) M.out 164 b2 (enters_of func164 (by kernel_rfl) rfl) (fun x hx w' k=>KL (s.keep0 k) (k.blk (q.b 2) id) x (X x hx))).mono ?_;rintro e w9 ⟨rfl,j⟩;replace q:=kL q j;replace s:=O (s.keep0 j);replace f:=O (f.keep j fun _ _=>id);replace H:=O (j.owns H.out fun _ _=>id);clear j
 go_wp2_with ((with_reducible show WL _ _);refine sta 26 (.tmp 32) (.tmp 31) Y 0 ([.slice E p.addrs.length F]) (q.b 1) (by first|decide|(rw[rfl];exact Nat.le_refl _)|simp[I]) (by kernel_rfl) (one9) ?_)
 intro wa j R;have G:(aE (.slice E p.addrs.length F) p).length=35:=aF A.sum;obtain⟨pd,z⟩:=zX9 (aE (.slice E p.addrs.length F) p)
 have qf:=O z;have qe:Hid (∀u∈pd,u.oneCell'=true):=O (by rw[←z];exact cE p);rw[z] at G;replace R:wa.heap[Y]?=some (.cells pd.toArray 30 (0,0)):=by rw[R,←N.out,E2,z]
 clear z;replace q:=O (q.set 1 j R);replace s:=O (L.keep0 q.keep);replace f:=O (A.keep q.keep fun _ _=>id);replace H:=O (j.owns H.out fun i hi e=>by have:=V.out i hi;have:=S.out;have:=U.out;omega);clear j R
 go_wp2_with (first
  | refine ldQ (q.b 1) G ?_
  | refine stW (q.b 0) G aG (szP9 G) qe.out ?_)
 intro wb j R;replace q:=O (q.set 0 j R);replace s:=O (L.keep0 q.keep);replace f:=O (A.keep q.keep fun _ _=>id);replace H:=O (j.owns H.out fun i hi e=>by have:=V.out i hi;have:=S.out;have:=U.out;omega);clear j R;have HR:Hid (Am w p (.returned (.tuple #[.agg pd.toArray,.int .i64 0])) wb):=O ⟨_,by rw[qf.out],H.out,q.keep⟩;have qc:=O (q.b 0);clear q s f H L A;go_wp2_with fail;refine bodyPost_ret (aT rfl _ _ b4 _ _ _ _ rfl qc.out aI rfl (by rw[List.size_toArray,G];exact bX)) rfl ?_;exact HR.out
theorem oO(w:World)(c e:Nat)(f:Int)(s:TypeId)(h:w.heap[e]?=some (.cells #[.int .i64 f] s (0,0)))(h10:f≠10):CallsD prog 59 #[.pointer c,.pointer e] .returning w fun r u w'=>u=.returning/\aH w (.tuple #[]) r w':=by
 have j:=O (cell_of_one h);have x:(f == 10)=false:=by rw[beq_eq_false_iff_ne];exact h10
 have q:=lN w;clear h
 go_enter_d func59,ntmps59
 have c1:w.cell? ⟨e,0,none⟩=some (.int .i64 f):=j.out;go_wp2_with fail;clear c1;refine bodyPost_ret (results_none rfl _ _ _) rfl ?_;exact aH.of q.keep
theorem Ap{u:Tmp}{tp:TypeId}(h:fn.results=#[.tmp u,.cell p tp])(tmps:Array Value)(P:Program)(w:World)(a:Addr)(x:Value)(e:tmps.getD p undef=.pointer (some a))(f:(loadVar tp a).run P w=.ok x w) :
 (results fn tmps).run P w=.ok (.tuple #[tmps.getD u undef,x]) w:=by
 simp only[results,h];simp only[Array.getD_eq_getD_getElem?] at e;simp[Result.andThen,asAddr,e,f]
theorem Nb(h:gZ w c a m lb pid cp gv t B D Z Mm nw)(pv:Value)(p:Pt)(hp:PtV w pv p)(Y:p.may=true)(hh:p.hole=false)(qq:∀x∈p.addrs,eF x D Z)(X:p.addrs.length≤65536){s:Nat}{rest:List Ad}(qe:p.addrs=⟨(d:Int),(s:Int)⟩::rest)(qa:p.sum=dB (Mm d s)):Calls prog 80 #[.pointer c,.agg (aE pv p).toArray] w (gH w (Mm d s)):=by
 have qp:=aF (v:=pv) hp.sum;obtain⟨oa,ca,qr,-,-⟩:=hp.rd.form;obtain⟨pc,I⟩:=zX9 (aE pv p)
 have za:Hid (∀u∈pc,u.oneCell'=true):=O (by rw[←I,qr];exact cE p);have qz:=O I;have q3:(((p.addrs.length:Nat):Int) == 0)=false:=by rw[beq_eq_false_iff_ne,qe];simp;omega
 rw[I] at qp ⊢;obtain⟨n,hn⟩:=zX9 p.addrs.length
 rw[hn] at q3;have HN:=O hn;have A:=O h;have q:=O hp;have qi:=O Y;have HH:=O hh;have qk:=O qq;have qv:=O X;have qx:=O qe;have q0:=O qa;have y:=lN w;clear h hp I Y hh qq X qr qe qa hn
 go_enter_defers func80,ntmps80
 have N:=A;have E:=q
 go_wp2_with refine bxM y (pc.toArray) ?_
 intro b3 w1 j y;replace A:=O (A.keep0 j);replace q:=O (q.keep j fun _ _=>id);clear j
 go_wp2_with refine alS y kV ?_
 intro V w2 j y;replace A:=O (A.keep0 j);replace q:=O (q.keep j fun _ _=>id);clear j
 go_wp2_with refine ldQ (y.b 1) qp ?_
 have qb:=O (y.lt 0).2;refine((by rw[←qz.out];exact Na A.out pv p q.out qi.out HH.out qk.out qv.out:Ka w2 (Am w2 p))).mono ?_;rintro e w3 ⟨v1,rfl,R,j⟩;obtain⟨G,H,rfl,-,-⟩:=(Rd.of_owns R).form;have qh:=O (fun(i:Nat) (M:(Value.slice G p.addrs.length H).ownBlock=some i) (e:i=V)=>show False from by have:=aW R M;have:=qb.out;omega);have HO:=O R;clear R;replace y:=kL y j;replace A:=O (A.keep0 j);replace q:=O (q.keep j fun _ _=>id);clear j;have U:(aE (.slice G p.addrs.length H) p).length=35:=aF E.sum;have z:=O (show PtV w3 (.slice G p.addrs.length H) p from⟨Rd.of_owns HO.out,E.ads,E.sum⟩);obtain⟨pd,F⟩:=zX9 (aE (.slice G p.addrs.length H) p)
 have qy:=O F;have qw:Hid (∀u∈pd,u.oneCell'=true):=O (by rw[←F];exact cE p);have qj:Hid (∃r,pd=.slice G n H::r):=O ⟨_,by rw[←HN.out];exact F.symm⟩;rw[F] at U;rw[F];clear F
 go_wp2_with refine alW aZ U aG (szP9 U) qw.out ?_
 intro b6 w5 qo j W
 replace y:=lW y qo j W;replace A:=O (A.keep0 j);replace q:=O (q.keep j fun _ _=>id);replace z:=O (z.keep j fun _ _=>id);clear qo j W
 go_wp2_with refine stV (.int .i64 0) (y.b 1) ?_
 intro w6 j W;replace y:=O (y.set 1 j W);replace A:=O (N.keep0 y.keep);replace q:=O (E.keep y.keep fun _ _=>id);replace z:=O (z.keep j fun i M e=>qh.out i M e);clear j W;have c1:=cD y 1
 have c2:w6.cell? ⟨b6,0,none⟩=some (.slice G n H):=(by obtain⟨r,e⟩:=qj.out;exact aC (i:=0) (y.b 0) (by rw[e];rfl))
 go_wp2_with fail;clear c1 c2;have qt:Hid (¬c=V):=O (fun e=>by have:=lt_of_block N.cor.top;have:=(y.lt 1).1;omega);go_wp2_with fail;refine dwB (fun k=>k=V) (by kernel_rfl) ?_;intro w7 S K qd hS L;replace y:=kL y L;replace A:=O (A.keep0 L);replace q:=O (q.keep L fun _ _=>id);replace z:=O (z.keep L fun _ _=>id);clear L;have qc:=y;have qg:=A;have ql:=q;have qm:=z;refine tna 0 (.pointer c) rfl hS ?_;refine tnb 1 (.pointer c) rfl hS ?_;refine tnb 2 (.pointer (some ⟨c,1,none⟩)) rfl hS ?_;refine tnd 3 (.pointer m) rfl (.inl ⟨by rfl,fun w' q5=>by have c:World.cell? w' ⟨c,1,none⟩=some (.pointer m):=(K w' q5).cell (bD.c1 qg.cor) qt.out;go_simp⟩) hS ?_;refine tnd 4 (.agg pd.toArray) rfl (yieldsIf_load_mid (by rfl) 30 (.tmp 6) rfl b6 0 rfl pd _ (fun w' h=>aD ((K w' h).blk (qc.b 0) (fun e=>by exact bH (i:=1) qc.nd rfl 0 (by decide) rfl e))) aI rfl (szP9 U)) hS ?_;refine wA9 5 ?_;go_wp2_with fail;have q1:=O y.keep.size;have qb:=O (y.lt 1).2;refine((by rw[←qy.out];exact M0 A.arr A.mir (.slice G p.addrs.length H) p z.out qi.out HH.out qk.out qx.out q0.out:Ka w7 (gH w7 (Mm d s)))).mono ?_;rintro e w8 ⟨v2,rfl,R,j⟩;obtain⟨ga,gc,rfl,-,-⟩:=(Rd.of_owns R).form;have J:=qd.out _ ((K _ hS).trans j.any);replace y:=kL y j;replace A:=O (A.keep0 j);replace q:=O (q.keep j fun _ _=>id);replace z:=O (z.keep j fun _ _=>id);clear hS j;have qu:=O (fun(i:Nat) (M:(Value.slice ga 256 gc).ownBlock=some i) (e:i=V)=>show False from by have:=aW R M;have:=qb.out;omega);have HG:=O (bA R q1.out);clear R;go_wp2_with fail;refine⟨J,?_⟩;refine tnb 6 (.slice ga 256 gc) rfl J ?_;refine tnb 7 (.int .i64 0) rfl J ?_;refine tna 8 (.slice ga 256 gc) rfl J ?_;refine wA9 9 ?_;refine stV (.int .i64 0) (y.b 1) ?_;intro w9 j W;have qn:=qd.out _ ((K _ J).tT j (fun i M e=>(e)));clear J;replace y:=O (y.set 1 j W);replace A:=O (N.keep0 y.keep);replace q:=O (E.keep y.keep fun _ _=>id);replace z:=O (z.keep j fun i M e=>qh.out i M e);replace HG:=O (j.owns HG.out fun i M e=>qu.out i M e);clear j W;refine wpList_nil ?_;refine⟨qn,?_⟩;refine wpAnyH_done (by kernel_rfl) ?_ _;clear qn K qd qc qg ql qm;refine noP ?_;have HR:=O y.keep;have qf:=O (y.b 1);clear y A q N E z;go_wp2_with fail;refine leaves_cons (f:=59) (args:=#[.pointer c,.pointer V]) (by simp) (by simp[go_sem]) ?_;refine(oO w9 c V 0 _ qf.out (by decide)).mono ?_;rintro e u' q9 ⟨rfl,rfl,j⟩;have c5:q9.cell? ⟨V,0,none⟩=some (.int .i64 0):=aC (i:=0) (j.blk qf.out id) rfl;refine⟨_,Ap rfl _ _ _ ⟨V,0,none⟩ (.int .i64 0) rfl (by go_simp),?_⟩;exact⟨_,rfl,j.owns HG.out fun _ _=>id,HR.trans j⟩
structure iG(w:World)(c a m lb g b2:Nat)(lc:Nat->Option Nat)(pid:List UInt8)(cp:Nat)(t:Lst)(B:Nat->Prop)(D Z:Nat)(Mm:Nat->Nat->List UInt8)(nw:Nat)(Ls:List Ad):Prop where
 cor:gZ w c a m lb pid cp (.pointer (some ⟨g,0,none⟩)) t B D Z Mm nw
 led:dD w 0 g b2 lc D Z Ls
 far:∀k,Own g b2 lc D k->¬B k/\k≠c/\k≠m/\k≠lb/\¬t.Own k
 top:¬B c/\¬B m/\¬B lb/\∀i,t.Own i->¬B i/\i≠c/\i≠m/\i≠lb
 many:nw+pJ (cI Ls D Z)≤40000+8*t.u.txg.toNat
theorem iG.keep0(h:iG w c a m lb g b2 lc pid cp t B D Z Mm nw Ls)(k:aA aB w w'):iG w' c a m lb g b2 lc pid cp t B D Z Mm nw Ls:=⟨h.cor.keep0 k,h.led.keep0 k,h.far,h.top,h.many⟩
theorem KM(D:Nat):(List.replicate D true).map Value.bool=kX D:=by unfold kX;rw[List.map_replicate]
theorem KN{base:Nat}(h:w.ownsRow base 4 1 v D (kX D)):Rd w 1 v (List.replicate D true).length ((List.replicate D true).map Value.bool):=by
 rw[KM,List.length_replicate];exact Rd.of_owns h
theorem IW{M:List Ad}{th:List Bool}(f:cF (cI M D Z) th cp=some l):pJ (cI (M++bF M Z l) D Z)+l.length=pJ (cI M D Z):=by
 rw[zF f];have e:=fA f;refine GB l _ e.2.2.2.1 fun i h=>⟨(e.2.2.2.2 i h).1,?_⟩
 have:=(e.2.2.2.2 i h).2;unfold eK at this;simp only[Bool.and_eq_true,decide_eq_true_eq] at this;omega
theorem Nc(b:List UInt8)(l:List Ad)(Mm:Nat->Nat->List UInt8)(f:∀x∈l,eF x D Z)(d:Nat):lV b l Mm d 0=Mm d 0:=
 Af b l Mm d 0 fun x h e=>by
  have:=(f x h).2.2;have:=e.2;omega
theorem iG.lt(h:iG w c a m lb g b2 lc pid cp t B D Z Mm nw Ls)(f:B k\/Own g b2 lc D k):k<w.heap.size:=
 f.elim (fun e=>h.cor.arr.lt e) fun e=>(h.led.own_lt e).2
theorem OZ(v:Value)(p:Pt)(h:p.sum.length=32):spl (spl (spl (spl aX.toArray 0 [v]) 1 [.int .i64 p.birth]) 2 [.int .i64 p.level]) 3 (p.sum.map vb)=(aE v p).toArray:=by
 have e:spl (spl (spl aX.toArray 0 [v]) 1 [.int .i64 p.birth]) 2 [.int .i64 p.level]=(v::.int .i64 p.birth::.int .i64 p.level::(List.replicate 32 (Value.int .u8 0))).toArray:=by rfl
 rw[e];have f:(p.sum.map vb).length=32:=by rw[List.length_map,h]
 apply Array.ext_getElem?;intro j;rw[mY _ _ _ _ (by rw[f];simp),f];unfold aE;rw[List.getElem?_toArray,List.getElem?_toArray]
 match j with
 | 0=>rfl
 | 1=>rfl
 | 2=>rfl
 | j+3 =>
   by_cases q:j<32
   ·rw[if_pos ⟨by omega,by omega⟩,Nat.add_sub_cancel];rfl
   ·rw[if_neg (by omega),List.getElem?_eq_none (by simp;omega),List.getElem?_eq_none (by simp[h];omega)]
theorem iG.keepT(h:iG w c a m lb g b2 lc pid cp t B D Z Mm nw Ls)(k:aA T w w')(f:∀i,T i->i≠c/\i≠m/\i≠lb/\¬B i/\¬Own g b2 lc D i/\¬t.Own i):iG w' c a m lb g b2 lc pid cp t B D Z Mm nw Ls:=
 ⟨h.cor.keep k fun i e=>⟨(f i e).1,(f i e).2.1,(f i e).2.2.1,(f i e).2.2.2.1,(f i e).2.2.2.2.2⟩,h.led.keep k fun i e=>(f i e).2.2.2.2.1,h.far,h.top,h.many⟩
theorem iG.fresh(h:iG w c a m lb g b2 lc pid cp t B D Z Mm nw Ls)(r:w.heap.size≤b):∀i,i=b->i≠c/\i≠m/\i≠lb/\¬B i/\¬Own g b2 lc D i/\¬t.Own i:=by
 rintro i rfl;have f:=lt_of_block h.cor.cor.top;have j:=lt_of_block h.cor.mir;have q:=lt_of_block h.cor.liv;exact⟨by omega,by omega,by omega,fun e=>by have:=h.lt (.inl e);omega,fun e=>by have:=h.lt (.inr e);omega,fun e=>by have:=h.cor.cor.lst.lt e;omega⟩
theorem fP{q:Tmp}{f s:TypeId}(h:fn.results=#[.cell p f,.cell q s])(tmps:Array Value)(w:World)(g:Nat)(t:TypeId)(e:Array Value)(fr:Nat×Nat)(d:TypeDesc)
 (j:tmps.getD p undef=.pointer g) (y:w.heap[g]?=some (.cells e t fr)) (A:P.underlying f=some d) (u:(match d with|.struct _|.array _ _=>true|_=>false)=true) (z:(P.info? f).map (·.size)=some e.size)
 (a:Addr) (x:Value) (r:tmps.getD q undef=.pointer (some a)) (E:(loadVar s a).run P w=.ok x w):(results fn tmps).run P w=.ok (.tuple #[.agg e,x]) w:=by
 simp only[Array.getD_eq_getD_getElem?] at j r;simp[results,h,j,r,asAddr,Sem.run_bind,Result.andThen,run_loadVar_row w g t f e fr d y A u z,E]
def E3(w:World)(c a m lb g b2:Nat)(lc:Nat->Option Nat)(pid:List UInt8)(cp:Nat)(t:Lst)(B:Nat->Prop)(D Z:Nat)(Mm:Nat->Nat->List UInt8)(nw:Nat)(Ls:List Ad)(lv:Nat)(j:List UInt8)(f:List Ad)(e:Ending)(w':World):Prop:=
 ∃v h,e=.returned (.tuple #[.agg (aE v ⟨f,t.u.txg+1,(lv:Int),dB j⟩).toArray,.int .i64 0])/\w'.ownsRow w.heap.size 59 2 v f.length (aR f)/\iG w' c a m lb g b2 lc pid cp t h D Z (lV j f Mm) (nw+f.length) (Ls++f)/\(∀k,h k->B k\/w.heap.size≤k)/\(∀k,v.ownBlock=some k->¬h k/\¬Own g b2 lc D k)/\aA (fun k=>B k\/Own g b2 lc D k) w w'
theorem O0(h:iG w c a m lb g b2 lc pid cp t B D Z Mm nw Ls)(ht:0≤t.u.txg/\t.u.txg<2147483648)(lv:Nat)(qy:lv≤3)(vv:Value)(bs:List UInt8)(R:bs.length=256)(E:Rd w 1 vv 256 (bs.map vb))(qj:∀i,vv.ownBlock=some i->¬B i/\¬Own g b2 lc D i)(hc:cF (cI Ls D Z) (List.replicate D true) cp=none):Calls prog 95 #[.pointer c,.int .i64 (lv:Int),vv] w (aH w (.tuple #[.agg aX.toArray,.int .i64 15])):=by
 obtain⟨vp,vc,rfl,-,-⟩:=E.form;have qp:=h.led.bd;have U:=h.cor.cpb;have qm:=O (Eh (L:=Ls) qp (List.length_replicate (n:=D) (a:=true)) U.1 U.2.1);have ql:=O hc;have qr:¬((lv:Int)<0):=by omega
 have qt:¬((3:Int)<(lv:Int)):=by omega
 have qz:¬((2147483648:Int)≤t.u.txg):=by omega
 have HT:=O ht;have qu:=O R;have qx:=O qj;have qv:=O U
 have qo:Hid (∀i,(Value.slice vp 256 vc).ownBlock=some i->i<w.heap.size):=O (fun i H=>by
  obtain⟨k,W,X⟩:=E.lt (by rw[List.length_map,R];decide);rw[W] at H;cases H;exact X)
 have u:=O h;have r:=O E;have qd:=O h;have s:=lN w;clear h E qj ht R hc
 go_enter_defers func95,ntmps95
 go_wp2_with refine alM s aZ ?_
 intro V w1 j s;replace u:=O (u.keep0 j);replace r:=O (r.keep j fun _ _=>id);clear j
 go_wp2_with refine alS s kV ?_
 intro G w2 j s;replace u:=O (u.keep0 j);replace r:=O (r.keep j fun _ _=>id);clear j;go_wp2_with fail;refine(rX u.cor.cor u.cor.arr).mono ?_;rintro e w3 ⟨rfl,j⟩;replace s:=kL s j;replace u:=O (u.keep0 j);replace r:=O (r.keep j fun _ _=>id);clear j;have c1:w3.cell? ⟨c,36,none⟩=some (.pointer g):=(bD.gv_ u.cor.cor)
 have c2:w3.cell? ⟨c,39,none⟩=some (.int .i64 t.u.txg):=(bD.txg_ u.cor.cor)
 go_wp2_with fail;clear c1 c2
 have qg:Hid (¬(c=G\/B c\/Own g b2 lc D c)):=O (by
  rintro (e|e|e)
  ·have:=lt_of_block qd.cor.cor.top;have:=(s.lt 0).1;omega
  ·exact u.top.1 e
  ·exact(u.far c e).2.1 rfl)
 have Y:=O (s.lt 0);have qn:=O (qd.fresh Y.1);go_wp2_with fail;refine dwB (fun k=>k=G\/B k\/Own g b2 lc D k) (by kernel_rfl) ?_;intro w4 S q A z I;replace s:=kL s I;replace u:=O (u.keep0 I);replace r:=O (r.keep I fun _ _=>id);clear I;have qf:=s;have K:=u;have qh:=r;refine tna 0 (.pointer c) rfl z ?_;refine tnb 1 (.pointer c) rfl z ?_;refine tnb 2 (.pointer (some ⟨c,36,none⟩)) rfl z ?_;refine tnd 3 (.pointer g) rfl (.inl ⟨by rfl,fun w' F=>by have c:World.cell? w' ⟨c,36,none⟩=some (.pointer g):=(q w' F).cell (bD.gv_ K.cor.cor) qg.out;go_simp⟩) z ?_;refine tna 4 (.pointer c) rfl z ?_;refine tna 6 (.pointer c) rfl z ?_;refine tnb 7 (.pointer c) rfl z ?_;refine tnb 8 (.pointer (some ⟨c,34,none⟩)) rfl z ?_;refine tnd 9 (.int .i64 (cp:Int)) rfl (.inl ⟨by rfl,fun w' F=>by have c:World.cell? w' ⟨c,34,none⟩=some (.int .i64 (cp:Int)):=(q w' F).cell (bD.cp_ K.cor.cor) qg.out;go_simp⟩) z ?_;refine wA9 5 ?_;go_wp2_with fail;refine(BZ u.cor).mono ?_;rintro e w5 ⟨v1,rfl,ho,j⟩;obtain⟨wa,wc,rfl,-,-⟩:=(Rd.of_owns ho).form;have M:=O ho;clear ho;have x:=A.out _ ((q _ z).trans j.any);replace s:=kL s j;replace u:=O (u.keep0 j);replace r:=O (r.keep j fun _ _=>id);clear z j;go_wp2_with fail;refine⟨x,?_⟩;refine wA9 10 ?_;go_wp2_with fail;refine(Eg w5 0 g b2 D Z lc Ls u.led (.slice wa D wc) (List.replicate D true) (cp:Int) (KN M.out)).mono ?_;rintro e w6 hm;unfold iX at hm;rw[if_pos qm.out,Int.toNat_natCast,ql.out] at hm;obtain⟨rfl,j⟩:=hm;have y:=A.out _ ((q _ x).trans j.any);replace s:=kL s j;replace u:=O (u.keep0 j);replace r:=O (r.keep j fun _ _=>id);replace M:=O (j.owns M.out fun _ _=>id);clear x j;go_wp2_with fail;refine⟨y,?_⟩;refine tna 11 (.tuple #[.slice none 0 0,.int .i64 15]) rfl y ?_;refine tnb 12 (.slice none 0 0) rfl y ?_;refine tnb 13 (.int .i64 15) rfl y ?_;refine tna 14 (.slice none 0 0) rfl y ?_;refine wA9 15 ?_;refine stV (.int .i64 15) (s.b 0) ?_;intro w7 j E;have qi:=A.out _ ((q _ y).tT j (fun i H e=>.inl e));clear y;replace s:=O (s.set 0 j E);replace u:=O (u.keepT j qn.out);replace r:=O (r.keep j (fun i H e=>by have:=qo.out i H;have:=Y.1;omega));replace M:=O (j.owns M.out fun i H e=>by have:=aW M.out H;have:=(qf.lt 0).2;omega);clear j E;refine wpList_nil ?_;refine⟨qi,?_⟩;refine wpAnyH_done (by kernel_rfl) ?_ _;clear qi q A qf K qh;refine noP ?_;have c1:=cD s 0
 go_wp2_with fail;clear c1;have qa:=O (s.b 1);have qb:=O (s.b 0);have J:=O (And.intro (s.lt 1).1 (s.lt 0).1);have qe:Hid (aA aB w w7):=O s.keep;clear s u r M;obtain⟨S,N⟩:∃S:World->Prop,S=fun w'=>aA aB w w'/\w'.heap[V]?=some (.cells aX.toArray 30 (0,0))/\w'.heap[G]?=some (.cells #[.int .i64 15] 41 (0,0)):=⟨_,rfl⟩
 have q:=O (show ∀w',S w'->_ from fun w' h=>by rw[N] at h;exact h);have A:=O (show ∀w',_->S w' from fun w' h=>by rw[N];exact h);have z:S w7.drew:=A.out _ ⟨qe.drew,qa.out,qb.out⟩;clear N qa qb qe;refine mP (S:=S) (by kernel_rfl) ?_;change wpAnyH _ _ _ _ _ _ _ _ w7.drew;generalize w7.drew=wy at z ⊢;refine tnd 0 (.agg aX.toArray) rfl (yieldsIf_load_mid (by rfl) 30 (.tmp 6) rfl V 0 rfl aX _ (fun w' h=>aD (q w' h).2.1) aI rfl (szP9 aG)) z ?_;refine tnd 1 (.int .i64 15) rfl (.inl ⟨by rfl,fun w' F=>by have c:World.cell? w' ⟨G,0,none⟩=some (.int .i64 15):=aC (i:=0) (q w' F).2.2 rfl;go_simp⟩) z ?_;have qw:=J;refine wA9 2 ?_;refine sta 30 (.tmp 6) (.tmp 63) V 0 aX (q _ z).2.1 (by rw[List.size_toArray,Nat.zero_add];exact Nat.le_refl _) (szP9 aG) (cE zPt) ?_;intro wz j E;rw[aS _ _ (by rw[List.size_toArray])] at E
 have x:S wz:=A.out _ ⟨(q _ z).1.tT j (fun i H e=>by have:=J.1;omega),E,by
  by_cases e:G=V
  ·have W:=(q _ z).2.1;have X:=(q _ z).2.2
   rw[e,W] at X;cases X
  ·exact j.blk (q _ z).2.2 e⟩
 clear z j E;refine wpList_nil ?_;refine⟨x,?_⟩;refine wA9 3 ?_;refine stV (.int .i64 15) (q _ x).2.2 ?_;intro wu j E;have y:S wu:=A.out _ ⟨(q _ x).1.tT j (fun i H e=>by have:=J.2;omega),by
  by_cases e:V=G
  ·have W:=(q _ x).2.1;have X:=(q _ x).2.2
   rw[e,X] at W;cases W
  ·exact j.blk (q _ x).2.1 e,E⟩
 clear x j E;refine wpList_nil ?_;refine⟨y,?_⟩;refine wpAnyH_done (by kernel_rfl) ?_ _;refine noP ?_;have HR:=O (q _ y);clear q A y;have qc:=O HR.2.2;have qk:=O HR.2.1;go_wp2_with fail;refine leaves_cons (f:=59) (args:=#[.pointer c,.pointer G]) (by simp) (by simp[go_sem]) ?_;refine(oO wu c G 15 _ qc.out (by decide)).mono ?_;rintro e u' qq ⟨rfl,rfl,j⟩;have c7:qq.cell? ⟨G,0,none⟩=some (.int .i64 15):=aC (i:=0) (j.blk qc.out id) rfl;refine⟨_,fP rfl _ _ V _ _ _ _ rfl (j.blk qk.out id) aI rfl (by rw[List.size_toArray,aG];exact bX) ⟨G,0,none⟩ (.int .i64 15) rfl (by go_simp),?_⟩;exact⟨rfl,HR.1.trans j⟩
theorem IX{L:List Ad}(h:l.Nodup):((bF L Z l).map (·.dev)).Nodup:=by
 unfold bF;rw[List.map_map];have:((fun(x:Ad)=>x.dev) ∘ fun(d:Nat)=>(⟨(d:Int),(bC L d Z).headD 0⟩:Ad))=fun(d:Nat)=>(d:Int):=rfl
 rw[this];show List.Pairwise _ _;rw[List.pairwise_map];exact h.imp fun h e=>h (by exact_mod_cast e)
theorem KO(e:cF (cI Ls D Z) (List.replicate D true) cp=some l)(h:1≤cp)(j:cp≤3)(q:cp≤D):1≤(bF Ls Z l).length/\(bF Ls Z l).length≤3:=by
 have:=(fA e).2.1;have f:upN (List.replicate D true)=D:=by unfold upN;rw[List.countP_replicate];rfl
 rw[mL,this];unfold kP;rw[f];omega
theorem KR(h:iG w c a m lb g b2 lc pid cp t B D Z Mm nw Ls)(ht:0≤t.u.txg/\t.u.txg<2147483648)(lv:Nat)(xb:lv≤3)(vv:Value)(bs:List UInt8)(q1:bs.length=256)(G:Rd w 1 vv 256 (bs.map vb))(zq:∀i,vv.ownBlock=some i->¬B i/\¬Own g b2 lc D i)(zo:∀x,eF x D Z->eW x)(hc:cF (cI Ls D Z) (List.replicate D true) cp=some l):Calls prog 95 #[.pointer c,.int .i64 (lv:Int),vv] w (E3 w c a m lb g b2 lc pid cp t B D Z Mm nw Ls lv bs (bF Ls Z l)):=by
 have q9:=KO hc h.cor.cpb.1 h.cor.cpb.2.1 h.cor.cpb.2.2;have qn:Hid (∀x∈bF Ls Z l,eF x D Z):=O fun x hx=>(BM h.led.bd).1 (Cz h.led.bd hc hx).1
 have ze:=O (IX (L:=Ls) (Z:=Z) (fA hc).2.2.2.1);have zi:=O (IW hc);have qx:Hid (l.length=(bF Ls Z l).length):=O (mL _ _ _).symm;have zg:=O h.many;have F:=O h.top;have qt:=O h.far;obtain⟨R,q5⟩:=zX9 (bF Ls Z l)
 have zz:=O q5;rw[q5] at q9 qn ze zi qx ⊢;have qv:=O q9;have zu:Hid (kR R):=O fun x hx=>zo x (qn x hx)
 clear q9 q5 zo;obtain⟨vp,vc,rfl,-,-⟩:=G.form;have z5:=h.led.bd;have q3:=h.cor.cpb;have zx:=O (Eh (L:=Ls) z5 (List.length_replicate (n:=D) (a:=true)) q3.1 q3.2.1);have zw:=O hc;have z7:¬((lv:Int)<0):=by omega
 have z9:¬((3:Int)<(lv:Int)):=by omega
 have xd:¬((2147483648:Int)≤t.u.txg):=by omega
 have HT:=O ht;have qu:=O q1;have qz:=O zq;have xa:=O q3
 have qa:Hid (∀i,(Value.slice vp 256 vc).ownBlock=some i->i<w.heap.size):=O (fun i s=>by
  obtain⟨k,h1,h2⟩:=G.lt (by rw[List.length_map,q1];decide);rw[h1] at s;cases s;exact h2)
 have H:=O h;have q:=O G;have J:=O h;have y:=O (Loc.nil (fun k=>B k\/Own g b2 lc D k) (fun k=>B k\/Own g b2 lc D k) w);clear h G zq ht q1 hc
 go_enter_defers func95,ntmps95
 go_wp2_with refine alA aZ ?_
 intro b6 w1 qk j G;replace y:=O (y.new (fun k h=>H.lt h) qk j G);replace H:=O (H.keep0 j);replace q:=O (q.keep j fun _ _=>id);clear qk j G
 go_wp2_with refine alB kV ?_
 intro b7 w2 qk j G;replace y:=O (y.new (fun k h=>H.lt h) qk j G);replace H:=O (H.keep0 j);replace q:=O (q.keep j fun _ _=>id);clear qk j G;go_wp2_with fail;refine(rX H.cor.cor H.cor.arr).mono ?_;rintro e w3 ⟨rfl,j⟩;replace y:=kL y j;replace H:=O (H.keep0 j);replace q:=O (q.keep j fun _ _=>id);clear j;have c1:w3.cell? ⟨c,36,none⟩=some (.pointer g):=(bD.gv_ H.cor.cor)
 have c2:w3.cell? ⟨c,39,none⟩=some (.int .i64 t.u.txg):=(bD.txg_ H.cor.cor)
 go_wp2_with fail;clear c1 c2
 have zh:Hid (¬(c=b7\/B c\/Own g b2 lc D c)):=O (by
  rintro (e|e|e)
  ·have:=lt_of_block J.cor.cor.top;have:=(y.lt 0).1;omega
  ·exact H.top.1 e
  ·exact(H.far c e).2.1 rfl)
 have za:=O (y.lt 0);have X:=O (J.fresh za.1);go_wp2_with fail;refine dwB (fun k=>k=b7\/B k\/Own g b2 lc D k) (by kernel_rfl) ?_;intro w4 S E K U V;replace y:=kL y V;replace H:=O (H.keep0 V);replace q:=O (q.keep V fun _ _=>id);clear V;have qy:=y;have qw:=H;have qj:=q;refine tna 0 (.pointer c) rfl U ?_;refine tnb 1 (.pointer c) rfl U ?_;refine tnb 2 (.pointer (some ⟨c,36,none⟩)) rfl U ?_;refine tnd 3 (.pointer g) rfl (.inl ⟨by rfl,fun w' qm=>by have c:World.cell? w' ⟨c,36,none⟩=some (.pointer g):=(E w' qm).cell (bD.gv_ qw.cor.cor) zh.out;go_simp⟩) U ?_;refine tna 4 (.pointer c) rfl U ?_;refine tna 6 (.pointer c) rfl U ?_;refine tnb 7 (.pointer c) rfl U ?_;refine tnb 8 (.pointer (some ⟨c,34,none⟩)) rfl U ?_;refine tnd 9 (.int .i64 (cp:Int)) rfl (.inl ⟨by rfl,fun w' qm=>by have c:World.cell? w' ⟨c,34,none⟩=some (.int .i64 (cp:Int)):=(E w' qm).cell (bD.cp_ qw.cor.cor) zh.out;go_simp⟩) U ?_;refine wA9 5 ?_;go_wp2_with fail;refine(BZ H.cor).mono ?_;rintro e w5 ⟨v1,rfl,ho,j⟩;obtain⟨wa,wc,rfl,-,-⟩:=(Rd.of_owns ho).form;have HO:=O ho;clear ho;have qb:=K.out _ ((E _ U).trans j.any);replace y:=kL y j;replace H:=O (H.keep0 j);replace q:=O (q.keep j fun _ _=>id);clear U j;go_wp2_with fail;refine⟨qb,?_⟩;refine wA9 10 ?_;go_wp2_with fail;have zt:=O (y.lt 0).2;have zr:=O (y.lt 1).2;have zl:=O y.keep.size;refine(Eg w5 0 g b2 D Z lc Ls H.led (.slice wa D wc) (List.replicate D true) (cp:Int) (KN HO.out)).mono ?_;rintro e w6 hm;unfold iX at hm;rw[if_pos zx.out,Int.toNat_natCast,zw.out] at hm;dsimp only at hm;obtain⟨v1,rfl,ql,ho,j⟩:=hm;rw[zz.out] at ql ho;rw[qx.out] at ho;obtain⟨ta,tc,rfl,-,-⟩:=(Rd.of_owns ho).form;have M:=K.out _ ((E _ qb).trans (j.mono fun k _ e=>.inr (.inr e)));have N:=O (H.cor.keep j (fun i e=>⟨(H.far i e).2.1,(H.far i e).2.2.1,(H.far i e).2.2.2.1,(H.far i e).1,(H.far i e).2.2.2.2⟩));have A:=O ql;have qo:=O (fun(i:Nat) (s:(Value.slice ta R.length tc).ownBlock=some i)=>show w.heap.size≤i from by have:=aW ho s;have:=zl.out;omega);have Y:=O (fun(i:Nat) (s:(Value.slice ta R.length tc).ownBlock=some i)=>show b7<i from by have:=aW ho s;have:=zt.out;omega);have qh:=O (fun(i:Nat) (s:(Value.slice ta R.length tc).ownBlock=some i)=>show b6<i from by have:=aW ho s;have:=zr.out;omega);have z:=O (bA ho zl.out);replace q:=O (q.keep j fun i s e=>(qz i s).2 e);replace y:=O (y.turn (B':=(fun k=>B k\/Own g b2 lc D k)) (j.mono fun k _ e=>.inr e) (fun _ _ h=>h) (fun _ _ h=>h));clear H HO j ql ho qb;go_wp2_with fail;refine⟨M,?_⟩;refine tna 11 (.tuple #[.slice ta R.length tc,.int .i64 0]) rfl M ?_;refine tnb 12 (.slice ta R.length tc) rfl M ?_;refine tnb 13 (.int .i64 0) rfl M ?_;refine tna 14 (.slice ta R.length tc) rfl M ?_;refine wA9 15 ?_;refine stV (.int .i64 0) (y.b 0) ?_;intro w7 j G;have qc:=K.out _ ((E _ M).tT j (fun i s e=>.inl e));clear M;replace y:=O (y.set 0 j G);replace q:=O (q.keep j (fun i s e=>by have:=qa.out i s;have:=za.1;omega));replace N:=O (N.keep j (fun i e=>⟨(X i e).1,(X i e).2.1,(X i e).2.2.1,(X i e).2.2.2.1,(X i e).2.2.2.2.2⟩));replace A:=O (A.keep j (fun i e=>(X i e).2.2.2.2.1));replace z:=O (j.owns z.out fun i s e=>by have:=Y.out i s;omega);clear j G;refine wpList_nil ?_;refine⟨qc,?_⟩;refine wpAnyH_done (by kernel_rfl) ?_ _;clear qc E K qy qw qj;refine noP ?_;have c1:=cD y 0
 have c2:w7.cell? ⟨c,1,none⟩=some (.pointer m):=(bD.c1 N.cor)
 go_wp2_with fail;clear c1 c2;have z3:=O y.keep.size;have zj:=O (fun(i:Nat) (s:(Value.slice ta R.length tc).ownBlock=some i)=>show i<w7.heap.size from by obtain⟨k,h1,h2⟩:=(Rd.of_owns z.out).lt (by rw[sH];have:=qv.1;omega);rw[s] at h1;cases h1;exact h2);refine(MW N.arr N.mir F.2.1 (.slice ta R.length tc) R (Rd.of_owns z.out) qn.out ze.out zu.out qv.1 qv.2 (fun i s e=>by have:=qo.out i s;have:=J.lt (.inl e);omega) (.slice vp 256 vc) bs qu.out q.out (fun i s=>(qz i s).1) (by have:=zg.out;have:=HT.out;omega)).mono ?_;rintro e w8 ⟨rfl,B2,zn,qr,W⟩;have r:Hid (gZ w8 c a m lb pid cp (.pointer g) t B2 D Z (lV bs R Mm) (nw+R.length)):=O ⟨N.cor.keep W F.1 (fun i e h=>(F.2.2.2 i h).1 e),zn,W.blk N.mir F.2.1,W.blk N.liv F.2.2.1,N.cpb,fun d hd=>by rw[Nc bs R Mm qn.out d];exact N.lab d hd⟩;replace A:=O (A.keep W (fun i e h=>(qt i h).1 e));replace z:=O (W.owns z.out (fun i s e=>by have:=qo.out i s;have:=J.lt (.inl e);omega));replace q:=O (q.keep W (fun i s e=>(qz i s).1 e));have z2:=O (fun(i:Nat) (s:(Value.slice ta R.length tc).ownBlock=some i)=>show ¬B2 i/\¬Own g b2 lc D i from⟨fun e=>by have h1:=qo.out i s;have h2:=zj.out i s;rcases qr i e with h|h;(have:=J.lt (.inl h);omega);omega,fun e=>by have h1:=qo.out i s;have:=J.lt (.inr e);omega⟩);have qg:=O (fun(k:Nat) (e:B2 k)=>show B k\/w.heap.size≤k from(qr k e).imp (fun h=>h) (fun h=>Nat.le_trans z3.out h));replace y:=O (y.turn (B':=fun k=>B2 k\/Own g b2 lc D k) (W.mono fun k _ e=>.inl e) (fun _ _ h=>h) (fun k j e=>e.elim (fun e=>(qr k e).elim (fun h=>.inl h) (fun h=>absurd j (by omega))) (fun h=>.inr h)));clear N zn qr W;go_wp2_with fail
 have I:Hid (∀i,(i=b6\/i=b7)->i≠c/\i≠m/\i≠lb/\¬B2 i/\¬Own g b2 lc D i/\¬t.Own i):=O (by
  rintro i (rfl|rfl)
  ·have h:=J.fresh (y.lt 1).1 _ rfl
   exact⟨h.1,h.2.1,h.2.2.1,fun e=>((y.aq 1)) (.inl e),h.2.2.2.2⟩
  ·have h:=J.fresh (y.lt 0).1 _ rfl
   exact⟨h.1,h.2.1,h.2.2.1,fun e=>((y.aq 0)) (.inl e),h.2.2.2.2⟩)
 have z0:Hid (¬(c=b6\/c=b7)):=O (fun e=>(I c e).1 rfl);have qe:=O (y.lt 1).1;have qf:=O (y.lt 0).1;obtain⟨dg,qd⟩:=zX9 ((dB bs).map vb)
 have zp:dg.length=32:=by rw[←qd,List.length_map,cZ]
 have zy:Hid (∀u∈dg,u.oneCell'=true):=O (by rw[←qd];exact bR _);have zd:=O qd;have xc:0≤t.u.txg:=HT.1;clear qd X;go_wp2_with fail;refine dwB (fun k=>k=b6\/k=b7) (by kernel_rfl) ?_;intro w9 S E K U V;replace y:=kL y V;replace q:=O (q.keep V fun _ _=>id);replace A:=O (A.keep0 V);replace z:=O (V.owns z.out fun _ _=>id);replace r:=O (r.keep0 V);clear V;have qy:=y;have qj:=q;have zf:=A;have zk:=z;have qi:=r;refine tna 0 (.slice ta R.length tc) rfl U ?_;refine tna 1 (.pointer c) rfl U ?_;refine tnb 2 (.pointer c) rfl U ?_;refine tnb 3 (.pointer (some ⟨c,39,none⟩)) rfl U ?_;refine tnb 4 (.pointer (some ⟨c,39,none⟩)) rfl U ?_;refine tnd 5 (.int .i64 t.u.txg) rfl (.inl ⟨by rfl,fun w' qm=>by have c:World.cell? w' ⟨c,39,none⟩=some (.int .i64 t.u.txg):=(E w' qm).cell (bD.txg_ qi.cor) z0.out;go_simp⟩) U ?_;refine tnd 6 (.int .i64 (t.u.txg+1)) rfl (.inl ⟨by rfl,fun _ _=>by go_simp;exact IntWalk.i64_in _ (by omega)⟩) U ?_;refine tna 7 (.int .i64 (lv:Int)) rfl U ?_;refine tna 8 (.slice vp 256 vc) rfl U ?_;refine wA9 9 ?_;go_wp2_with fail;refine(yF _ bs w9 (by rw[qu.out];exact q.out) (by rw[qu.out];decide)).mono ?_;rintro e wa ⟨rfl,j⟩;have qb:=K.out _ ((E _ U).trans j.any);replace y:=kL y j;replace q:=O (q.keep j fun _ _=>id);replace A:=O (A.keep0 j);replace z:=O (j.owns z.out fun _ _=>id);replace r:=O (r.keep0 j);clear U j;rw[zd.out];go_wp2_with fail;refine⟨qb,?_⟩;refine wA9 10 ?_;refine sta 30 (.tmp 6) (.const (.agg #[.slice none 0 0,.int .i64 0,.int .i64 0,.int .u8 0,.int .u8 0,.int .u8 0,.int .u8 0,.int .u8 0,.int .u8 0,.int .u8 0,.int .u8 0,.int .u8 0,.int .u8 0,.int .u8 0,.int .u8 0,.int .u8 0,.int .u8 0,.int .u8 0,.int .u8 0,.int .u8 0,.int .u8 0,.int .u8 0,.int .u8 0,.int .u8 0,.int .u8 0,.int .u8 0,.int .u8 0,.int .u8 0,.int .u8 0,.int .u8 0,.int .u8 0,.int .u8 0,.int .u8 0,.int .u8 0,.int .u8 0])) b6 0 (aX) (y.b 1) (by simp[aG]) (szP9 aG) (cE zPt) ?_;intro wb j G;rw[aS _ _ (by rw[List.size_toArray])] at G;have M:=K.out _ ((E _ qb).trans (j.mono fun k _ e=>.inl e));clear qb;replace y:=O (y.set 1 j G);replace q:=O (q.keep j (fun i s e=>by have:=qa.out i s;have:=qe.out;have:=qf.out;omega));replace A:=O (A.keep j (fun i e=>(I i (.inl e)).2.2.2.2.1));replace z:=O (j.owns z.out fun i s e=>by have:=Y.out i s;have:=qh.out i s;omega);replace r:=O (r.keep j (fun i e=>have h:=I.out i (.inl e);⟨h.1,h.2.1,h.2.2.1,h.2.2.2.1,h.2.2.2.2.2⟩));clear j G;refine wpList_nil ?_;refine⟨M,?_⟩;refine tnb 11 (.pointer b6) rfl M ?_;refine wA9 12 ?_;refine sta 26 (.tmp 89) (.tmp 79) b6 0 ([.slice ta R.length tc]) (y.b 1) (by simp[aG]) (by kernel_rfl) (one9) ?_;intro wc j G;have qc:=K.out _ ((E _ M).trans (j.mono fun k _ e=>.inl e));clear M;replace y:=O (y.set 1 j G);replace q:=O (q.keep j (fun i s e=>by have:=qa.out i s;have:=qe.out;have:=qf.out;omega));replace A:=O (A.keep j (fun i e=>(I i (.inl e)).2.2.2.2.1));replace z:=O (j.owns z.out fun i s e=>by have:=Y.out i s;have:=qh.out i s;omega);replace r:=O (r.keep j (fun i e=>have h:=I.out i (.inl e);⟨h.1,h.2.1,h.2.2.1,h.2.2.2.1,h.2.2.2.2.2⟩));clear j G;refine wpList_nil ?_;refine⟨qc,?_⟩;refine tnb 13 (.pointer (some ⟨b6,1,none⟩)) rfl qc ?_;refine wA9 14 ?_;refine sta 3 (.tmp 90) (.tmp 85) b6 1 ([.int .i64 (t.u.txg+1)]) (y.b 1) (by simp[gF,aG]) (by kernel_rfl) (one9) ?_;intro wd j G;have qp:=K.out _ ((E _ qc).trans (j.mono fun k _ e=>.inl e));clear qc;replace y:=O (y.set 1 j G);replace q:=O (q.keep j (fun i s e=>by have:=qa.out i s;have:=qe.out;have:=qf.out;omega));replace A:=O (A.keep j (fun i e=>(I i (.inl e)).2.2.2.2.1));replace z:=O (j.owns z.out fun i s e=>by have:=Y.out i s;have:=qh.out i s;omega);replace r:=O (r.keep j (fun i e=>have h:=I.out i (.inl e);⟨h.1,h.2.1,h.2.2.1,h.2.2.2.1,h.2.2.2.2.2⟩));clear j G;refine wpList_nil ?_;refine⟨qp,?_⟩;refine tnb 15 (.pointer (some ⟨b6,2,none⟩)) rfl qp ?_;refine wA9 16 ?_;refine sta 3 (.tmp 91) (.tmp 86) b6 2 ([.int .i64 (lv:Int)]) (y.b 1) (by simp[gF,aG]) (by kernel_rfl) (one9) ?_;intro we j G;have qq:=K.out _ ((E _ qp).trans (j.mono fun k _ e=>.inl e));clear qp;replace y:=O (y.set 1 j G);replace q:=O (q.keep j (fun i s e=>by have:=qa.out i s;have:=qe.out;have:=qf.out;omega));replace A:=O (A.keep j (fun i e=>(I i (.inl e)).2.2.2.2.1));replace z:=O (j.owns z.out fun i s e=>by have:=Y.out i s;have:=qh.out i s;omega);replace r:=O (r.keep j (fun i e=>have h:=I.out i (.inl e);⟨h.1,h.2.1,h.2.2.1,h.2.2.2.1,h.2.2.2.2.2⟩));clear j G;refine wpList_nil ?_;refine⟨qq,?_⟩;refine tnb 17 (.pointer (some ⟨b6,3,none⟩)) rfl qq ?_;refine wA9 18 ?_;refine sta 28 (.tmp 92) (.tmp 88) b6 3 (dg) (y.b 1) (by simp[gF,aG,zp]) (by rw[zp];exact xD) zy.out ?_;intro wf j G;have q0:=K.out _ ((E _ qq).trans (j.mono fun k _ e=>.inl e));clear qq;replace y:=O (y.set 1 j G);replace q:=O (q.keep j (fun i s e=>by have:=qa.out i s;have:=qe.out;have:=qf.out;omega));replace A:=O (A.keep j (fun i e=>(I i (.inl e)).2.2.2.2.1));replace z:=O (j.owns z.out fun i s e=>by have:=Y.out i s;have:=qh.out i s;omega);replace r:=O (r.keep j (fun i e=>have h:=I.out i (.inl e);⟨h.1,h.2.1,h.2.2.1,h.2.2.2.1,h.2.2.2.2.2⟩));clear j G;refine wpList_nil ?_;refine⟨q0,?_⟩;refine wA9 19 ?_;refine stV (.int .i64 0) (y.b 0) ?_;intro wg j G;have zm:=K.out _ ((E _ q0).trans (j.mono fun k _ e=>.inr e));clear q0;replace y:=O (y.set 0 j G);replace q:=O (q.keep j (fun i s e=>by have:=qa.out i s;have:=qe.out;have:=qf.out;omega));replace A:=O (A.keep j (fun i e=>(I i (.inr e)).2.2.2.2.1));replace z:=O (j.owns z.out fun i s e=>by have:=Y.out i s;have:=qh.out i s;omega);replace r:=O (r.keep j (fun i e=>have h:=I.out i (.inr e);⟨h.1,h.2.1,h.2.2.1,h.2.2.2.1,h.2.2.2.2.2⟩));clear j G;refine wpList_nil ?_;refine⟨zm,?_⟩;refine wpAnyH_done (by kernel_rfl) ?_ _;clear zm E K qy qj zf zk qi;refine noP ?_;have zb:=O (y.b 0);have zv:Hid (wg.heap[b6]?=some (.cells (aE (.slice ta R.length tc) ⟨R,t.u.txg+1,(lv:Int),dB bs⟩).toArray 30 (0,0))):=O (by rw[y.b 1,←OZ _ _ (by rw[cZ]),←zd.out])
 have z1:Hid (E3 w c a m lb g b2 lc pid cp t B D Z Mm nw Ls lv bs R (.returned (.tuple #[.agg (aE (.slice ta R.length tc) ⟨R,t.u.txg+1,(lv:Int),dB bs⟩).toArray,.int .i64 0])) wg):=O ⟨_,B2,rfl,z.out,⟨r.out,A.out,fun k j=>by
  have h:=qt.out k j;exact⟨fun e=>(qg k e).elim h.1 (fun e=>by have:=J.lt (.inr j);omega),h.2⟩,by
  have h1:=lt_of_block J.cor.cor.top;have h2:=lt_of_block J.cor.mir;have h3:=lt_of_block J.cor.liv;exact⟨fun e=>(qg c e).elim F.1 (by omega),fun e=>(qg m e).elim F.2.1 (by omega),fun e=>(qg lb e).elim F.2.2.1 (by omega),fun i h=>⟨fun e=>(qg i e).elim (F.2.2.2 i h).1 fun e=>by have:=J.cor.cor.lst.lt h;omega,(F.2.2.2 i h).2⟩⟩,by
  have:=zi.out;have:=qx.out;have:=zg.out;omega⟩,qg.out,z2.out,y.keep⟩
 clear y r A q z;go_wp2_with fail;refine leaves_cons (f:=59) (args:=#[.pointer c,.pointer b7]) (by simp) (by simp[go_sem]) ?_;refine(oO wg c b7 0 _ zb.out (by decide)).mono ?_;rintro e u' z6 ⟨rfl,rfl,j⟩;have c7:z6.cell? ⟨b7,0,none⟩=some (.int .i64 0):=aC (i:=0) (j.blk zb.out id) rfl;refine⟨_,fP rfl _ _ b6 _ _ _ _ rfl (j.blk zv.out id) aI rfl (by rw[List.size_toArray,aF (by rw[cZ])];exact bX) ⟨b7,0,none⟩ (.int .i64 0) rfl (by go_simp),?_⟩;obtain⟨v,B3,h1,h2,h3,h4,h6,h5⟩:=z1.out;exact⟨v,B3,h1,j.owns h2 fun _ _=>id,h3.keep0 j,h4,h6,h5.trans j.any⟩
theorem KS(w:World)(pv:Value)(p:Pt)(x:PtV w pv p)(A:p.hole=true)(lv:Int):Calls prog 187 #[.agg (aE pv p).toArray,.int .i64 lv] w (aH w (.bool true)):=by
 have r:=aF (v:=pv) x.sum;obtain⟨I,H,s,-,-⟩:=x.rd.form;obtain⟨E,f⟩:=zX9 (aE pv p)
 have G:Hid (∀u∈E,u.oneCell'=true):=O (by rw[←f,s];exact cE p);have y:=O f;rw[f] at r ⊢;have h:=O x;have j:=lN w;have F:=O A;clear x f s A;go_in
 go_wp2_with refine bxM j (E.toArray) ?_
 intro b2 z q j;replace h:=O (h.keep q fun _ _=>id);clear q
 go_wp2_with refine ldQ (j.b 0) r ?_
 refine((by rw[←y.out];exact bK z pv p h.out:Ka z (aN z p.hole))).mono ?_;rintro e J ⟨rfl,q⟩;replace j:=kL j q;replace h:=O (h.keep q fun _ _=>id);clear q;rw[F.out];go_wp2;go_ret;exact aH.of j.keep
theorem Nd(w:World)(pv:Value)(p:Pt)(y:PtV w pv p)(H:p.hole=false)(J:p.may=true)(lv:Int)(h0:0≤lv)(S:lv≤4)(I:p.level=lv-1):Calls prog 187 #[.agg (aE pv p).toArray,.int .i64 lv] w (aH w (.bool true)):=by
 have s:=aF (v:=pv) y.sum;obtain⟨U,R,x,-,-⟩:=y.rd.form;obtain⟨E,h⟩:=zX9 (aE pv p)
 have L:Hid (∀u∈E,u.oneCell'=true):=O (by rw[←h,x];exact cE p);have r:=O h;rw[h] at s ⊢;have f:=O y;have j:=lN w;have K:=O H;have A:=O J;have z:=O I;have M:IntKind.i64.wrap (lv-1)=lv-1:=IntWalk.i64_in _ (by omega);clear y h x H J I;go_in
 go_wp2_with refine bxM j (E.toArray) ?_
 intro b2 F q j;replace f:=O (f.keep q fun _ _=>id);clear q
 go_wp2_with refine ldQ (j.b 0) s ?_
 refine((by rw[←r.out];exact bK F pv p f.out:Ka F (aN F p.hole))).mono ?_;rintro e G ⟨rfl,q⟩;replace j:=kL j q;replace f:=O (f.keep q fun _ _=>id);clear q;rw[K.out]
 go_wp2_with ((with_reducible show WL _ _);refine aK (by rfl) 30 (.tmp 2) rfl b2 0 rfl E _ (aD (j.b 0)) aI rfl (szP9 s) ?_)
 refine((by rw[←r.out];exact iZ G pv p f.out:Ka G (lH G p.may))).mono ?_;rintro e N ⟨rfl,q⟩;replace j:=kL j q;replace f:=O (f.keep q fun _ _=>id);clear q;rw[A.out];have c1:N.cell? ⟨b2,2,none⟩=some (.int .i64 (lv-1)):=(by rw[←z.out];exact(bN (aD (by rw[r.out];exact(j.b 0)))).2.2.1)
 go_wp2_with fail;clear c1;go_ret;exact aH.of j.keep
def bS(lv:Int)(vs:Nat->Value)(ps:Nat->Pt):List Value:=.int .i64 lv::(aE (vs 0) (ps 0)++(aE (vs 1) (ps 1)++(aE (vs 2) (ps 2)++aE (vs 3) (ps 3))))
def dK(w:World)(vs:Nat->Value)(ps:Nat->Pt):Prop:=∀k,k<4->PtV w (vs k) (ps k)
theorem dK.keep(h:dK w vs ps)(k:aA aB w w'):dK w' vs ps:=fun i e=>(h i e).keep k fun _ _=>id
theorem cP(lv:Int)(vs:Nat->Value)(h:dK w vs ps):(bS lv vs ps).length=141:=by
 simp[bS,aF (h 0 (by omega)).sum,aF (h 1 (by omega)).sum,aF (h 2 (by omega)).sum,aF (h 3 (by omega)).sum]
theorem aL{p:Pt}(h:PtV w v p):∀u∈aE v p,u.oneCell'=true:=by
 obtain⟨f,e,rfl,-,-⟩:=h.rd.form;exact cE p
theorem cQ(lv:Int)(h:dK w vs ps):∀u∈bS lv vs ps,u.oneCell'=true:=by
 intro u e;unfold bS at e;rcases List.mem_cons.1 e with rfl|e
 ·rfl
 rcases List.mem_append.1 e with e|e
 ·exact aL (h 0 (by omega)) u e
 rcases List.mem_append.1 e with e|e
 ·exact aL (h 1 (by omega)) u e
 rcases List.mem_append.1 e with e|e
 ·exact aL (h 2 (by omega)) u e
 ·exact aL (h 3 (by omega)) u e
theorem vB(h:w.rangeAt b o (v::C)):w.rangeAt b (o+1) C:=fun j u e=>by
 have:=h (j+1) u (by rw[List.getElem?_cons_succ];exact e);rw[show o+1+j=o+(j+1) by omega];exact this
theorem xQ{A:List Value}(h:w.rangeAt b o (A++C))(f:A.length=n):w.rangeAt b o A/\w.rangeAt b (o+n) C:=by
 subst f;refine⟨fun j u e=>h j u (by rw[List.getElem?_append_left (List.getElem?_eq_some_iff.1 e).1];exact e),fun j u e=>?_⟩;have:=h (A.length+j) u (by rw[List.getElem?_append_right (by omega),Nat.add_sub_cancel_left];exact e);rw[show o+A.length+j=o+(A.length+j) by omega];exact this
theorem kD{y:World}{lv:Int}(e:dK y vs ps)(h:w.rangeAt b 0 (bS lv vs ps))(z:k<4):w.rangeAt b (1+k*35) (aE (vs k) (ps k)):=by
 have s:=vB h;obtain⟨f,u⟩:=xQ s (aF (e 0 (by omega)).sum);obtain⟨j,x⟩:=xQ u (aF (e 1 (by omega)).sum);obtain⟨q,r⟩:=xQ x (aF (e 2 (by omega)).sum);rcases k with _|_|_|_|k
 ·exact f
 ·exact j
 ·exact q
 ·exact r
 ·omega
def kF(ps:Nat->Pt):Bool:=(ps 0).hole && (ps 1).hole && (ps 2).hole && (ps 3).hole
theorem IY(h:∀k,k<4->(ps k).hole=true):kF ps=true:=by
 unfold kF;rw[h 0 (by omega),h 1 (by omega),h 2 (by omega),h 3 (by omega)];rfl
theorem KT(e:k<4)(h:(ps k).hole=false):kF ps=false:=by
 unfold kF;rcases k with _|_|_|_|k
 ·rw[h];rfl
 ·rw[h];simp
 ·rw[h];simp
 ·rw[h];simp
 ·omega
theorem CR(w:World)(lv:Int)(vs:Nat->Value)(ps:Nat->Pt)(h:dK w vs ps):Calls prog 93 #[.agg (bS lv vs ps).toArray] w (aH w (.bool (kF ps))):=by
 have R:=cP lv vs h;obtain⟨U,r⟩:=zX9 (bS lv vs ps)
 have X:Hid (∀u∈U,u.oneCell'=true):=O (by rw[←r];exact cQ lv h);have N:=O r;rw[r] at R ⊢;have s:=O h;have q:=lN w;clear h r;go_in
 go_wp2_with refine bxM q (U.toArray) ?_
 intro b1 w1 y q;replace s:=O (dK.keep s.out y);clear y;go_wp2_with fail;have V:=O (q.b 0);have H:=O q.keep;clear q
 go_loopw [3,4] (fun _ i wr=>∃k:Nat,k≤4/\i=.int .i64 k/\Hid (aA aB w1 wr)/\Hid (∀j,j<k->(ps j).hole=true)) (fun _ i _=>4-(intOf i).toNat)
 case atStart=>exact⟨0,by omega,rfl,O (aA.refl _ _),O (fun j hj=>by omega)⟩
 case round =>
  obtain⟨k,y,rfl,G,S⟩:=hrel
  by_cases z:k<4
  ·have K:=O (G.blk V.out id)
   have x:=O (dK.keep s.out G.out);have F:=aF (v:=vs k) (s k z).sum;obtain⟨pk,f⟩:=zX9 (aE (vs k) (ps k))
   have W:Hid (∀u∈pk,u.oneCell'=true):=O (by rw[←f];exact aL (s k z));have E:Hid (World.rangeAt wr b1 (1+k*35) pk):=O (by rw[←f];exact kD s.out (by rw[N.out];exact aD K.out) z);have I:=O f;rw[f] at F;have q:=lN wr;have qa:(0:Int)≤(k:Int):=by omega
   have qb:(k:Int)<4:=by omega
   clear f;cases J:(ps k).hole
   ·have A:=O J
    clear J
    go_wp2_with refine ldP b1 (1+k*35) pk E.out F ?_
    refine((by rw[←I.out];exact bK wr (vs k) (ps k) (x k z):Ka wr (aN wr (ps k).hole))).mono ?_;rintro e w2 ⟨rfl,y⟩;replace q:=kL q y;replace E:=O (y.rangeAt E.out);replace x:=O (dK.keep x.out y);clear y;rw[A.out];go_wp2_with fail;have Y:=O (H.trans (G.trans q.keep));clear q E;go_wp2;go_ret;rw[KT z A.out];exact aH.of Y.out
   ·have A:=O J
    clear J
    go_wp2_with refine ldP b1 (1+k*35) pk E.out F ?_
    refine((by rw[←I.out];exact bK wr (vs k) (ps k) (x k z):Ka wr (aN wr (ps k).hole))).mono ?_;rintro e w2 ⟨rfl,y⟩;replace q:=kL q y;replace E:=O (y.rangeAt E.out);replace x:=O (dK.keep x.out y);clear y;rw[A.out];go_wp2_with fail;have M:=O (G.trans q.keep)
    have L:Hid (∀j,j<k+1->(ps j).hole=true):=O (fun j hj=>by
     by_cases e:j=k
     ·subst e;exact A.out
     ·exact S.out j (by omega))
    clear q E
    go_roundw
    case rel=>exact⟨k+1,by omega,by go_num,M,L⟩
    case measure=>simp[intOf];omega
  ·obtain rfl:k=4:=by omega
   go_wp2;go_ret;rw[IY S.out];exact aH.of (H.trans G.out)
def B4(lv:Int)(p:Pt):Prop:=p.hole=true\/(p.hole=false/\p.may=true/\p.level=lv-1)
theorem Nf(w:World)(pv:Value)(p:Pt)(e:PtV w pv p)(lv:Int)(h0:0≤lv)(f:lv≤4)(j:B4 lv p):Calls prog 187 #[.agg (aE pv p).toArray,.int .i64 lv] w (aH w (.bool true)):=
 j.elim (fun h=>KS w pv p e h lv) fun h=>Nd w pv p e h.1 h.2.1 lv h0 f h.2.2
theorem IZ(w:World)(lv:Int)(vs:Nat->Value)(ps:Nat->Pt)(h:dK w vs ps)(h1:1≤lv)(h3:lv≤3)(hf:∀k,k<4->B4 lv (ps k)):Calls prog 147 #[.agg (bS lv vs ps).toArray] w (aH w (.int .i64 0)):=by
 have qc:=cP lv vs h;obtain⟨nc,f⟩:=zX9 (bS lv vs ps)
 have qf:Hid (∀u∈nc,u.oneCell'=true):=O (by rw[←f];exact cQ lv h);have qa:=O f;rw[f] at qc ⊢;have s:=O h;have q:=lN w;have HF:=O hf;have G:Hid (∃r,nc=.int .i64 lv::r):=O ⟨_,f.symm⟩;have e1:¬lv<1:=by omega
 have e3:¬3<lv:=by omega
 clear h f hf;go_in
 go_wp2_with refine bxM q (nc.toArray) ?_
 intro b1 w1 A q;replace s:=O (dK.keep s.out A);clear A;have c1:w1.cell? ⟨b1,0,none⟩=some (.int .i64 lv):=(by obtain⟨r,e⟩:=G.out;exact aC (i:=0) (q.b 0) (by rw[e];rfl))
 have c2:w1.cell? ⟨b1,0,none⟩=some (.int .i64 lv):=(by obtain⟨r,e⟩:=G.out;exact aC (i:=0) (q.b 0) (by rw[e];rfl))
 go_wp2_with fail;clear c1 c2;go_wp2_with fail;have HB:=O (q.b 0);have W:=O q.keep;clear q
 go_loopw [3,12] (fun _ i wr=>∃k:Nat,k≤4/\i=.int .i64 k/\Hid (aA aB w1 wr)) (fun _ i _=>4-(intOf i).toNat)
 case atStart=>exact⟨0,by omega,rfl,O (aA.refl _ _)⟩
 case round =>
  obtain⟨k,A,rfl,V⟩:=hrel
  by_cases y:k<4
  ·have K:=O (V.blk HB.out id)
   have x:=O (dK.keep s.out V.out);have U:=aF (v:=vs k) (s k y).sum;obtain⟨pk,j⟩:=zX9 (aE (vs k) (ps k))
   have qe:Hid (∀u∈pk,u.oneCell'=true):=O (by rw[←j];exact aL (s k y));have I:Hid (World.rangeAt wr b1 (1+k*35) pk):=O (by rw[←j];exact kD s.out (by rw[qa.out];exact aD K.out) y);have J:Hid (World.cell? wr ⟨b1,0,none⟩=some (.int .i64 lv)):=O (by obtain⟨r,e⟩:=G.out;exact aC (i:=0) K.out (by rw[e];rfl));have qb:=O j;rw[j] at U;have q:=lN wr;have qg:(0:Int)≤(k:Int):=by omega
   have qh:(k:Int)<4:=by omega
   clear j;go_wp2_with fail;refine dwA aB (by kernel_rfl) ?_;intro w2 S E M F z;replace q:=kL q z;replace I:=O (z.rangeAt I.out);replace x:=O (dK.keep x.out z);replace J:=O (z.cell J.out id);clear z;have Y:=q;have N:=I;have L:=x;have R:=J;refine tna 0 (.int .i64 (k:Int)) rfl F ?_;refine tnb 1 (.pointer (some ⟨b1,1,none⟩)) rfl F ?_;refine tnd 2 (.pointer (some ⟨b1,1+k*35,none⟩)) rfl (.inl ⟨by rfl,fun _ _=>by go_simp<;>omega⟩) F ?_;refine tnd 3 (.agg pk.toArray) rfl (yieldsIf_load_mid (by rfl) 30 (.tmp 17) rfl b1 (1+k*35) rfl pk _ (fun w' h=>(E w' h).rangeAt N.out) aI rfl (szP9 U)) F ?_;refine tnb 4 (.pointer b1) rfl F ?_;refine tnd 5 (.int .i64 lv) rfl (.inl ⟨by rfl,fun w' qd=>by have c:World.cell? w' ⟨b1,0,none⟩=some (.int .i64 lv):=(E w' qd).cell R.out id;go_simp⟩) F ?_;refine wA9 6 ?_;go_wp2_with fail;refine((by rw[←qb.out];exact Nf w2 (vs k) (ps k) (x k y) lv (by omega) (by omega) (HF k y):Ka w2 (aH w2 (.bool true)))).mono ?_;rintro e w3 ⟨rfl,A⟩;have H:=M.out _ ((E _ F).trans A);replace q:=kL q A;replace I:=O (A.rangeAt I.out);replace x:=O (dK.keep x.out A);replace J:=O (A.cell J.out id);clear F A;go_wp2_with fail;refine⟨H,?_⟩;refine tnb 7 (.bool false) rfl H ?_;refine wpAnyH_done (by kernel_rfl) ?_ _;clear H E M Y N L R;go_wp2_with fail;have X:=O (V.trans q.keep);clear q I J;go_wp2
   go_roundw
   case rel=>exact⟨k+1,by omega,by go_num,X⟩
   case measure=>simp[intOf];omega
  ·obtain rfl:k=4:=by omega
   go_wp2;go_ret;exact aH.of (W.trans V.out)
theorem nmPt   {p:Pt} (h:PtV w v p):∃c,Hid (aE v p=c)/\c.length=35/\Hid (∀u∈c,u.oneCell'=true):=⟨_,O rfl,aF h.sum,O (aL h)⟩
theorem B5(e:List Value)(h:e.length=32):e=(List.range 32).map fun i=>e.getD i undef:=by
 apply List.ext_getElem?;intro i;rw[List.getElem?_map]
 by_cases f:i<32
 ·rw[List.getElem?_range f,List.getElem?_eq_getElem (by omega)]
  simp[List.getD,List.getElem?_eq_getElem (show i<e.length by omega)]
 ·rw[List.getElem?_eq_none (by omega),List.getElem?_eq_none (by simp;omega)];rfl
theorem I0(a m:Nat)(f:Nat->Value)(cp:Int):prog.built Ba [(0,.pointer a),(1,.pointer m),(2,.agg ((List.range 32).map f).toArray),(3,.int .i64 cp)]=some (Value.pointer a::.pointer m::((List.range 32).map f++(.int .i64 cp::.slice none 0 0::.pointer none::.slice none 0 0::.slice none 0 0::iJ pP))).toArray:=by kernel_rfl
theorem KU(a m cp:Nat)(pid:List UInt8)(h:pid.length=32)(w:World):(Instr.build Ba #[(0,.pointer a),(1,.pointer m),(2,.agg (pid.map vb).toArray),(3,.int .i64 (cp:Int))]).run prog w=.ok (.agg (fL a m pid cp (.slice none 0 0) (.pointer none) pP).toArray) w:=by
 refine run_build w Ba _ _ ?_;unfold fL;rw[B5 (pid.map vb) (by rw[List.length_map,h])];exact I0 a m _ _
def CS(w:World)(a:Nat)(pid:List UInt8)(cp:Nat)(e:Ending)(w':World):Prop:=∃c m,e=.returned (.pointer (some ⟨c,0,none⟩))/\bD w' c a m pid cp (.slice none 0 0) (.pointer none) pP/\eV w' m a/\w.heap.size≤c/\w.heap.size≤m/\m<c/\aA aB w w'
theorem Ng(G:bQ w a B D Z Mm nw)(pid:List UInt8)(f:pid.length=32)(cp:Nat):Calls prog 42 #[.pointer a,.agg (pid.map vb).toArray,.int .i64 (cp:Int)] w (CS w a pid cp):=by
 have E:(pid.map vb).length=32:=by rw[List.length_map];exact f
 have q:=O f;have r:=O G;have j:=lN w;clear G f;go_in
 go_wp2_with refine bxM j ((pid.map vb).toArray) ?_
 intro K S h j;replace r:=O (r.keep0 h);clear h;go_wp2_with fail;have z:=O j.keep.size;refine(MV r.out).mono ?_;rintro e N ⟨m,rfl,u,H,h⟩;replace j:=kL j h;replace r:=O (r.keep0 h);clear h;have F:=O H;have y:=O (Nat.le_trans z.out u);clear H u;have A:=KU a m cp pid q.out;have s:=O j.keep;have x:=O (j.b 0);have M:m<N.heap.size:=lt_of_block F.out;clear j r
 go_wp2_with ((with_reducible show WL _ _);first
  | refine ldM K 0 (pid.map vb) (aD x.out) underlying28 (by rw[E];exact xD) ?_
  | refine bld Ba #[(0,.tmp 14),(1,.tmp 15),(2,.tmp 16),(3,.tmp 17)] [(0,.pointer a),(1,.pointer m),(2,.agg (pid.map vb).toArray),(3,.int .i64 (cp:Int))] (.agg (fL a m pid cp (.slice none 0 0) (.pointer none) pP).toArray) A ?_
  | refine bxA (fL a m pid cp (.slice none 0 0) (.pointer none) pP).toArray ?_)
 intro c R L h I;have J:Hid (CS w a pid cp (.returned (.pointer c)) R):=O ⟨c,m,rfl,⟨I,q.out,mO.zero _⟩,h.blk F.out id,by have:=s.size;omega,y.out,by omega,s.trans h⟩;clear L h I;go_wp2;go_ret;exact J.out
theorem Gh(r:bQ w a B D Z Mm nw)(s:w.heap[bc]?=some (.cells #[.pointer a] 60 (0,0)))(d:Int)(h0:0≤d)(u:d<(D:Int)):Calls prog 45 #[.int .i64 d,.pointer bc] w (aH w (.bool false)):=by
 have f:=O (cell_of_one s);have x:Hid ((decide (0≤d) && decide (d<(D:Int)))=true):=O (by rw[decide_eq_true h0,decide_eq_true u];rfl);have j:=O r;have q:=lN w;clear r s h0 u;go_in;have c1:w.cell? ⟨bc,0,none⟩=some (.pointer a):=f.out;go_wp2_with fail;clear c1;refine(Q6 j.out d).mono ?_;rintro e y ⟨rfl,h⟩;replace q:=kL q h;replace j:=O (j.keep0 h);replace f:=O (h.cell f.out id);clear h;rw[x.out];go_wp2;go_ret;exact aH.of q.keep
theorem I1(w:World)(v:Value)(l:List Int)(j:Rd w 1 v l.length (l.map fun x=>.int .i64 x))(U:l.length≤65536)(y bc:Nat)(eg:∀args w,(callFunc y args).run prog w=.ok (.enter y args) w)(h:∀x∈l,∀w',aA aB w w'->Calls prog y #[.int .i64 x,.pointer bc] w' (aH w' (.bool false))) :
 Calls prog 85 #[v,.func (.func y) #[] #[.pointer bc]] w (aH w (.int .i64 (-1))):=by
 obtain⟨oa,J,rfl,-,-⟩:=j.form;obtain⟨n,G⟩:=zX9 l.length
 have M:=O G;rw[G] at j U ⊢;have Y:n≤J:=by obtain⟨_,a',c',R,S,h3,-⟩:=j;cases R;exact S
 have N:=O j;have E:=O h;clear j h G;go_in;go_wp2_with fail
 go_loopw [5,8] (fun _ i wr=>∃k:Nat,k≤n/\i=.int .i64 k/\Hid (aA aB w wr)) (fun _ i _=>n-(intOf i).toNat)
 case atStart=>exact⟨0,by omega,rfl,O (aA.refl _ _)⟩
 case round =>
  obtain⟨k,z,rfl,q⟩:=hrel
  by_cases F:k<n
  ·obtain⟨x,H⟩:∃x,l[k]?=some x:=⟨l[k]'(by rw[M.out];exact F),List.getElem?_eq_getElem _⟩
   obtain⟨g,o,K,L,f⟩:=oM N.out (k:=k) (u:=.int .i64 x) (by rw[List.getElem?_map,H];rfl);obtain rfl:oa=some ⟨g,o,none⟩:=by cases L;rfl
   have s:=O (q.cell f id);have I:=O (E x (List.mem_of_getElem? H) wr q.out);have r:=lN wr;have V:(0:Int)≤(k:Int):=by omega
   have W:(k:Int)<(n:Int):=by omega
   have X:(k:Int)≤(J:Int):=by omega
   clear H f L;have c1:wr.cell? ⟨g,o+k,none⟩=some (.int .i64 x):=s.out;go_wp2_with fail;clear c1;refine(I.out).mono ?_;rintro e w1 ⟨rfl,z⟩;replace r:=kL r z;replace s:=O (z.cell s.out id);clear z;go_wp2_with fail;have A:=O (q.trans r.keep);clear r I s
   go_roundw
   case rel=>exact⟨k+1,by omega,by go_num,A⟩
   case measure=>simp[intOf];omega
  ·obtain rfl:k=n:=by omega
   go_wp2;go_ret;exact aH.of q.out
theorem Gi(w:World)(v:Value)(l:List Int)(s:Rd w 1 v l.length (l.map fun x=>.int .i64 x))(q:l.length≤65536)(f bc:Nat)(y:∀args w,(callFunc f args).run prog w=.ok (.enter f args) w)(h:∀x∈l,∀w',aA aB w w'->Calls prog f #[.int .i64 x,.pointer bc] w' (aH w' (.bool false))) :
 Calls prog 43 #[v,.func (.func f) #[] #[.pointer bc]] w (aH w v):=by
 have u:=O (I1 w v l s q f bc y h);have j:=lN w;clear s h q;go_in;go_wp2_with fail;refine(u.out).mono ?_;rintro e z ⟨rfl,r⟩;replace j:=kL j r;clear r;go_wp2;go_ret;exact aH.of j.keep
end
end Go.Proofs.YtoeinblfcbpcmaaGreat
