import Derived.Test.YtiinnfhjpaeffaaGreatA1
import Derived.Test.YtiinnfhjpaeffaaGreatA24
import Derived.Test.YtiinnfhjpaeffaaGreatA26
namespace Go.Proofs.YtiinnfhjpaeffaaGreat
set_option maxHeartbeats 64000000
set_option maxRecDepth 100000
set_option linter.unusedVariables false
section
open Go.RowKit Go.Maps Go.ChangeMaps
variable{w:World}{i:Nat}
theorem bs1{P:Program}{ops:Array Oper}{rest:List Oper}{o:Oper}{a:Act}{Q:Exit->Act->World->Prop}(t e:TypeId)(x:Operand)(v:Value)(f:(P.info? e).map (·.size)=some 1)(s:((P.info? e).bind (·.zero)).isSome=true)(q:P.underlying t=some (.slice e))(A:v.cells=#[v])
 (h:∀b w',w.heap.size=b->aA aB w w'->w'.heap[b]?=some (.cells #[v] e (0,0))->wpList P ops Q rest (a.put o.dst (.slice (some ⟨b,0,none⟩) 1 1)) w') (G:a.eval x=v:=by rfl) (E:o.guard=none:=by rfl) (F:o.op=.buildSlice t 1 #[(0,x)]:=by rfl):wpList P ops Q (o::rest) a w:=by
 cases j:P.info? e with
 | none=>simp[j] at f
 | some H =>
   simp only[j,Option.map_some,Option.some.injEq,Option.bind_some] at f s;obtain⟨z,r⟩:=Option.isSome_iff_exists.1 s;refine wpList_buildSlice E t e 1 _ F #[v] H z q j r (by rw[f];omega) (by rw[f];omega) ?_ (h _ _ rfl ((aA.refl _ _).alloc _) (heap_alloc_new _ _));rw[f];have y:((#[((0:Nat),x)]:Array (Nat×Operand)).map fun(i,x)=>(i,a.eval x)).toList=([v].zipIdx 0).map fun x=>(x.2,x.1):=by simp[G]
   rw[y];exact Great.fill_flat [v] _ (fun u q=>by rcases List.mem_singleton.1 q with rfl;exact A) (by simp)
abbrev vU:TypeId:=47
structure Lst where
 rv:Value
 u:Ub
 ov:Value
 ol:List Ad
 vv:Value
 vl:List Ad
def oK:Lst:=⟨.slice none 0 0,⟨0,zPt,0,List.replicate 32 0⟩,.slice none 0 0,[],.slice none 0 0,[]⟩
def Lst.Own(t:Lst)(i:Nat):Prop:=t.rv.ownBlock=some i\/t.ov.ownBlock=some i\/t.vv.ownBlock=some i
theorem pV:¬oK.Own i:=fun h=>by rcases h with h|h|h<;>cases h
structure lU(w:World)(t:Lst):Prop where
 ub:UbV w t.rv t.u
 old:Rd w 2 t.ov t.ol.length (aF t.ol)
 live:Rd w 2 t.vv t.vl.length (aF t.vl)
 oads:iA t.ol
 lads:iA t.vl
 isc:∀i,t.Own i->∃cs T,w.heap[i]?=some (.cells cs T (0,0))
 few:t.u.root.addrs.length≤65536/\t.ol.length≤65536/\t.vl.length≤65536
theorem lU.keep{T:Nat->Prop}{w':World}{t:Lst}(h:lU w t)(k:aA T w w')(j:∀i,T i->¬t.Own i):lU w' t:=
 ⟨h.ub.keep k fun i f e=>j i e (.inl f),h.old.keep k fun i f e=>j i e (.inr (.inl f)),h.live.keep k fun i f e=>j i e (.inr (.inr f)),h.oads,h.lads,fun i f=>by
  obtain⟨q,T,r⟩:=h.isc i f;exact⟨q,T,k.blk r fun e=>j i e f⟩,h.few⟩
theorem lU.zero(w:World):lU w oK:=⟨⟨⟨Rd.nil w 2,fun x e=>(by cases e),rfl⟩,rfl⟩,Rd.nil w 2,Rd.nil w 2,fun x e=>(by cases e),fun x e=>(by cases e),fun i f=>by (rcases f with h|h|h<;>cases h),by decide⟩
theorem lU.lt{t:Lst}(h:lU w t)(f:t.Own i):i<w.heap.size:=by
 obtain⟨j,T,e⟩:=h.isc i f;exact lt_of_block e
def gX(t:Lst):List Value:=dW t.rv t.u++[.bool false]
theorem DD{t:Lst}(h:lU w t):(gX t).length=70:=by
 unfold gX;rw[List.length_append,kX h.ub.root.sum h.ub.pool];rfl
def eZ(a m:Nat)(pid:List UInt8)(cp:Nat)(lv gv:Value)(t:Lst):List Value:=
 .pointer a::.pointer m::(pid.map vb++(.int .i64 (cp:Int)::lv::gv::t.ov::t.vv::gX t))
structure bA(w:World)(c a m:Nat)(pid:List UInt8)(cp:Nat)(lv gv:Value)(t:Lst):Prop where
 top:w.heap[c]?=some (.cells (eZ a m pid cp lv gv t).toArray vU (0,0))
 idl:pid.length=32
 lst:lU w t
section
variable {w:World}{c a m:Nat}{pid:List UInt8}{cp:Nat}{lv gv:Value}{t:Lst}
variable{w':World}
theorem bA.keep{T:Nat->Prop}(h:bA w c a m pid cp lv gv t)(k:aA T w w')(f:¬T c)(e:∀i,T i->¬t.Own i):bA w' c a m pid cp lv gv t:=⟨k.blk h.top f,h.idl,h.lst.keep k e⟩
theorem bA.keep0(h:bA w c a m pid cp lv gv t)(k:aA aB w w'):bA w' c a m pid cp lv gv t:=h.keep k (fun h=>h) fun _ h=>h.elim
theorem sW(h:pid.length=32)(e:(gX t).length=70):(eZ a m pid cp lv gv t).length=109:=by
 unfold eZ;simp only[List.length_cons,List.length_append,List.length_map,h,e]
theorem bA.c0(h:bA w c a m pid cp lv gv t):w.cell? ⟨c,0,none⟩=some (.pointer a):=aC h.top rfl
theorem bA.c1(h:bA w c a m pid cp lv gv t):w.cell? ⟨c,1,none⟩=some (.pointer m):=aC h.top rfl
theorem bA.id_(h:bA w c a m pid cp lv gv t):w.rangeAt c 2 (pid.map vb):=fun j v f=>by
 refine aC h.top ?_;rw[List.getElem?_toArray];unfold eZ;have e:2+j=j+1+1:=by omega
 rw[e,List.getElem?_cons_succ,List.getElem?_cons_succ,List.getElem?_append_left (List.getElem?_eq_some_iff.1 f).1];exact f
theorem bA.at_(h:bA w c a m pid cp lv gv t){k:Nat}{v:Value}(j:(.int .i64 (cp:Int)::lv::gv::t.ov::t.vv::gX t)[k]?=some v):w.cell? ⟨c,34+k,none⟩=some v:=by
 refine aC h.top ?_;rw[List.getElem?_toArray];unfold eZ;have e:34+k=(32+k)+1+1:=by omega
 have q:(pid.map vb).length=32:=by rw[List.length_map,h.idl]
 rw[e,List.getElem?_cons_succ,List.getElem?_cons_succ,List.getElem?_append_right (by omega),q];have f:32+k-32=k:=by omega
 rw[f];exact j
theorem bA.cp_(h:bA w c a m pid cp lv gv t):w.cell? ⟨c,34,none⟩=some (.int .i64 (cp:Int)):=h.at_ (k:=0) rfl
theorem bA.lv_(h:bA w c a m pid cp lv gv t):w.cell? ⟨c,35,none⟩=some lv:=h.at_ (k:=1) rfl
theorem bA.gv_(h:bA w c a m pid cp lv gv t):w.cell? ⟨c,36,none⟩=some gv:=h.at_ (k:=2) rfl
theorem bA.old_(h:bA w c a m pid cp lv gv t):w.cell? ⟨c,37,none⟩=some t.ov:=h.at_ (k:=3) rfl
theorem bA.live_(h:bA w c a m pid cp lv gv t):w.cell? ⟨c,38,none⟩=some t.vv:=h.at_ (k:=4) rfl
theorem bA.txg_(h:bA w c a m pid cp lv gv t):w.cell? ⟨c,39,none⟩=some (.int .i64 t.u.txg):=h.at_ (k:=5) rfl
theorem bA.out_(h:bA w c a m pid cp lv gv t):w.cell? ⟨c,108,none⟩=some (.bool false):=h.at_ (k:=74) (by
 have e:=kX h.lst.ub.root.sum h.lst.ub.pool (v:=t.rv);simp only[List.getElem?_cons_succ];unfold gX;rw[List.getElem?_append_right (by omega),e];rfl)
end
variable{w w':World}{c a m cp D Z nw n d lb k bc id g b2 b o:Nat}{pid:List UInt8}{lv gv v:Value}{t:Lst}{B T:Nat->Prop}{Mm:Nat->Nat->List UInt8}{xs C:List Value}{Q:Exit->Act->World->Prop}{P:Program}{ops:Array Oper}{fn:Func}{p:Tmp}{lc:Nat->Option Nat}{Ls:List Ad}{l:List Nat}{vs:Nat->Value}{ps:Nat->Pt}
theorem vF(h:bA w c a m pid cp lv gv t):Calls Tryz.prog 56 #[.pointer c] w (aN w (.bool false)):=by
 have e:=O h;have f:=lN w;clear h;go_in;have c1:w.cell? ⟨c,0,none⟩=some (.pointer a):=(bA.c0 e.out)
 go_wp2_with fail;clear c1;go_ret;exact aN.of f.keep
theorem Bw(q:bR w a B D Z Mm nw):Calls Tryz.prog 77 #[.pointer a] w (aN w (.bool false)):=by
 have f:=O q;have h:=lN w;clear q;go_in;go_wp2_with fail;refine(MI f.out).mono ?_;rintro e r ⟨rfl,j⟩;replace h:=kL h j;replace f:=O (f.keep0 j);clear j;go_wp2;go_ret;exact aN.of h.keep
theorem qN(h:bA w c a m pid cp lv gv t)(s:bR w a B D Z Mm nw):Calls Tryz.prog 49 #[.pointer c] w (aN w (.int .i64 0)):=by
 have j:=O h;have q:=O s;have r:=lN w;clear h s;go_in;go_wp2_with fail;refine(vF j.out).mono ?_;rintro e u ⟨rfl,f⟩;replace r:=kL r f;replace j:=O (j.keep0 f);replace q:=O (q.keep0 f);clear f;have c1:u.cell? ⟨c,108,none⟩=some (.bool false):=(bA.out_ j.out)
 have c2:u.cell? ⟨c,0,none⟩=some (.pointer a):=(bA.c0 j.out)
 go_wp2_with fail;clear c1 c2;refine(Bw q.out).mono ?_;rintro e x ⟨rfl,f⟩;replace r:=kL r f;replace j:=O (j.keep0 f);replace q:=O (q.keep0 f);clear f;go_wp2;go_ret;exact aN.of r.keep
theorem ED(h:bA w c a m pid cp lv gv t):Calls Tryz.prog 70 #[.pointer c] w (aN w (.int .i64 (cp:Int))):=by
 have f:=O h;have j:=lN w;clear h;go_in;go_wp2_with fail;refine(vF f.out).mono ?_;rintro e r ⟨rfl,q⟩;replace j:=kL j q;replace f:=O (f.keep0 q);clear q;have c1:r.cell? ⟨c,34,none⟩=some (.int .i64 (cp:Int)):=(bA.cp_ f.out)
 go_wp2_with fail;clear c1;go_ret;exact aN.of j.keep
theorem DE:(Tryz.prog.info? 3).map (fun i=>(i.zero,i.size,i.bytes))=some (some (.int .i64 0),1,8):=by kernel_rfl
theorem Jb:(Tryz.prog.info? 4).map (fun i=>(i.zero,i.size,i.bytes))=some (some (.bool false),1,1):=by kernel_rfl
def qO(k:Nat):List Value:=(List.range k).map fun(i:Nat)=>Value.int .i64 (i:Int)
theorem GF(k:Nat):qO (k+1)=qO k++[.int .i64 (k:Int)]:=by unfold qO;rw[List.range_succ,List.map_append];rfl
theorem xW{wr f j:World}{T:TypeId}(h:aA aB w wr)(q:f.ownsRow w.heap.size T 1 v n xs)(k:aA aB wr f)(r:aA (fun k=>v.ownBlock=some k) f j):aA aB w j:=
 (h.trans k).trans' r (fun _ _ h=>h) (fun i s e=>by have:=aU q e;omega)
def La(w:World)(D:Nat)(e:Ending)(w':World):Prop:=∃v,e=.returned v/\w'.ownsRow w.heap.size 3 1 v D (qO D)/\aA aB w w'
theorem qP(h:bA w c a m pid cp lv gv t)(R:bR w a B D Z Mm nw):Calls Tryz.prog 80 #[.pointer c] w (La w D):=by
 have Y:=R.bd;have G:=O h;have F:=O R;have f:=lN w;clear h R;go_in;have c1:w.cell? ⟨c,0,none⟩=some (.pointer a):=(bA.c0 G.out)
 go_wp2_with fail;clear c1;refine(kQ F.out).mono ?_;rintro e w1 ⟨rfl,j⟩;replace f:=kL f j;replace G:=O (G.keep0 j);replace F:=O (F.keep0 j);clear j;go_wp2_with fail;have J:=O f.keep;clear f G F
 go_loopw [3,10] (fun v i wr=>∃(k:Nat) (p:Option Addr) (H:Nat),k≤D/\i=.int .i64 k/\v=.slice p k H/\Hid (aA aB w wr)/\Hid (wr.ownsRow w.heap.size 3 1 (.slice p k H) k (qO k))) (fun _ i _=>D-(intOf i).toNat)
 case atStart=>exact⟨0,none,0,by omega,rfl,rfl,J,O (World.ownsRow_nil _ _ _ _)⟩
 case round =>
  obtain⟨k,p,H,j,rfl,rfl,I,x⟩:=hrel
  by_cases hk8:k<D
  ·have f:=lN wr
   have W:=O I.size;have hk1:(k:Int)<(D:Int):=by omega
   go_wp2_with ((with_reducible show WL _ _);refine bs1 42 3 (.tmp 14) (.int .i64 (k:Int)) (by kernel_rfl) (by kernel_rfl) Tryz.underlying42 rfl ?_)
   intro z w2 A j V;replace f:=lW f A j V;replace x:=O (j.owns x.out fun _ _=>id);clear A j V;have r:Rd w2 1 (.slice z 1 1) 1 [.int .i64 (k:Int)]:=dE (n:=1) (size:=1) (f.b 0) rfl (by unfold maxLen;omega);have q:=O r;have N:=x;have y:=O f.keep;clear r
   go_wp2_with (first
    | (at_builtin;refine aL rfl (.tmp 13) (.tmp 15) 42 rfl w.heap.size 3 (.int .i64 0) 1 8 Tryz.underlying42 DE rfl (by decide) (.slice p k H) k (qO k) rfl x.out (.slice z 1 1) 1 [.int .i64 (k:Int)] rfl q.out (by intro u hu;rcases List.mem_singleton.1 hu with rfl;rfl) (by unfold maxLen;omega) (by omega) (Nat.le_trans W.out y.size) ?_))
   intro v2 w8 s E U S;obtain⟨X,c2,rfl⟩:=ownsRow_succ s;have M:=O s;have K:=O E;clear s E U S q f x;go_wp2_with fail;have L:=O (xW I.out N.out y.out K.out)
   go_roundw
   case rel=>exact⟨k+1,some ⟨X,0,none⟩,c2,by omega,by go_num,rfl,L,by rw[GF];exact M⟩
   case measure=>simp[intOf];omega
  ·obtain rfl:k=D:=by omega
   go_wp2;go_ret;exact⟨_,rfl,x.out,I.out⟩
def dJ(pid:List UInt8)(d D cp Z:Nat):Lab:=⟨pid,(d:Int),(D:Int),(cp:Int),(Z:Int),0⟩
theorem sX(q:d<D)(h:2≤D/\D≤8/\8≤Z/\Z≤4096)(e:1≤cp)(f:cp≤3)(j:cp≤D):(dJ pid d D cp Z).may=true:=by
 unfold Lab.may dJ;simp only[decide_eq_true_eq];omega
def Fl(w:World)(L:Lab)(e:Ending)(w':World):Prop:=e=.returned (.tuple #[.agg L.cells.toArray,.bool true])/\aA aB w w'
theorem DF(ha:bR w a B D Z Mm nw)(E:pid.length=32)(hd:d<D)(X:1≤cp/\cp≤3/\cp≤D)(M:Mm d 0=eC (dJ pid d D cp Z)) :
 Calls Tryz.prog 128 #[.pointer a,.int .i64 (d:Int)] w (Fl w (dJ pid d D cp Z)):=by
 have hbd:=ha.bd;have H:=sX (pid:=pid) hd hbd X.1 X.2.1 X.2.2;have HUR:=O (DC (dJ pid d D cp Z) E H);have HLB:=O M;have HPID:=O E;have HMAY:=O H;have HML:=O (ha.len hd (show 0<Z by omega));have HD0:=O hd;have HZ0:=O (show 0<Z by omega);obtain⟨lc,s⟩:∃l,(dJ pid d D cp Z).cells=l:=⟨_,rfl⟩
 have j:lc.length=37:=by rw[←s];exact Lab.cells_length _ E
 have HOC:Hid (∀u∈lc,u.oneCell'=true):=O (by rw[←s];exact nG _);have x:∀i,lc.toArray[32+i]?=(dJ pid d D cp Z).nums[i]?:=fun i=>by rw[List.getElem?_toArray,←s];exact Lab.cells_num _ E i
 have N:Hid (lc.toArray[32]?=some (.int .i64 (d:Int))):=O (x 0);have R:Hid (lc.toArray[33]?=some (.int .i64 (D:Int))):=O (x 1);have HLF34:Hid (lc.toArray[34]?=some (.int .i64 (cp:Int))):=O (x 2);have U:Hid (lc.toArray[35]?=some (.int .i64 (Z:Int))):=O (x 3);have HLF36:Hid (lc.toArray[36]?=some (.int .i64 0)):=O (x 4);have HLC:=O s;have r:=O ha;have q:=lN w;unfold Fl;rw[s];clear ha H M s x E;have HA0:=r;go_in
 go_wp2_with ((with_reducible show WL _ _);refine alL q 192 (.agg fP.cells.toArray) (fP.cells.toArray) (O oX) ?_)
 intro b4 w1 f q;replace r:=O (r.keep0 f);clear f;go_wp2_with fail;refine(Oq r.out HD0.out HZ0.out).mono ?_;rintro e w2 ⟨v0,rfl,ho,f⟩;obtain⟨pv,cv,rfl,-,-⟩:=(Rd.of_owns ho).form;have HO:=O ho;clear ho;replace q:=kL q f;replace r:=O (r.keep0 f);clear f;go_wp2_with fail;refine(Cb w2 (.slice pv 256 cv) (dJ pid d D cp Z) HPID.out HMAY.out (Mm d 0) HLB.out (by rw[HML.out];exact Rd.of_owns HO.out)).mono ?_;rintro e w3 ⟨rfl,f⟩;replace q:=kL q f;replace r:=O (r.keep0 f);replace HO:=O (f.owns HO.out fun _ _=>id);clear f;rw[HLB.out,HUR.out];dsimp only;rw[HLC.out]
 go_wp2_with ((with_reducible show WL _ _);refine al 192 (.agg fP.cells.toArray) (fP.cells.toArray) (O oX) ?_)
 intro K w4 hbs hk0 L
 go_wp2_with ((with_reducible show WL _ _);refine sta 192 (.tmp 8) (.tmp 22) K 0 lc L (by first|decide|(rw[List.size_toArray,j];exact Nat.le_refl _)|simp[j,iY]) (by rw[j];exact gC) HOC.out ?_)
 intro w5 f W;rw[aK _ _ (by first|rfl|(rw[List.size_toArray,j];rfl)|simp[j,iY])] at W;replace f:=tX hk0 f (fun i hi e=>by omega);replace q:=lW q hbs f W;replace r:=O (r.keep0 f);replace HO:=O (f.owns HO.out fun _ _=>id);clear hbs f W hk0 L;clear HO;go_wp2_with fail;refine dwA (fun k=>k=b4) (by kernel_rfl) ?_;intro w6 S A J F Y;replace q:=kL q Y;replace r:=O (r.keep0 Y);clear Y;have y:=q;have HAs:=r;refine tnd 0 (.agg lc.toArray) rfl (yieldsIf_load_mid (by rfl) 192 (.tmp 8) rfl K 0 rfl lc _ (fun w' h=>aD ((A.out w' h).blk (y.b 0) (fun e=>by exact bJ (i:=1) y.nd rfl 0 (by decide) rfl e))) Tryz.underlying192 rfl (by rw[j];exact gC)) F ?_;refine tna 1 (.int .i64 0) rfl F ?_;refine tnb 2 (.bool true) rfl F ?_;refine tna 3 (.bool true) rfl F ?_;refine tnb 4 (.pointer (some ⟨K,32,none⟩)) rfl F ?_;refine tnd 5 (.int .i64 (d:Int)) rfl (.inl ⟨by rfl,fun w' I=>by have c:World.cell? w' ⟨K,32,none⟩=some (.int .i64 (d:Int)):=(aC (i:=32) ((A.out w' I).blk (y.b 0) (fun e=>by exact bJ (i:=1) y.nd rfl 0 (by decide) rfl e)) (N.out));go_simp⟩) F ?_;refine tna 6 (.int .i64 (d:Int)) rfl F ?_;refine tnb 7 (.bool true) rfl F ?_;refine tna 8 (.bool true) rfl F ?_;refine tna 9 (.bool true) rfl F ?_;refine tnb 10 (.pointer (some ⟨K,33,none⟩)) rfl F ?_;refine tnd 11 (.int .i64 (D:Int)) rfl (.inl ⟨by rfl,fun w' I=>by have c:World.cell? w' ⟨K,33,none⟩=some (.int .i64 (D:Int)):=(aC (i:=33) ((A.out w' I).blk (y.b 0) (fun e=>by exact bJ (i:=1) y.nd rfl 0 (by decide) rfl e)) (R.out));go_simp⟩) F ?_;refine tna 12 (.pointer a) rfl F ?_;refine wA9 13 ?_;go_wp2_with fail;refine(kQ r.out).mono ?_;rintro e w7 ⟨rfl,f⟩;have z:=J.out _ ((A.out _ F).trans f.any);replace q:=kL q f;replace r:=O (r.keep0 f);clear F f;go_wp2_with fail;refine⟨z,?_⟩;refine tnb 14 (.bool true) rfl z ?_;refine tna 15 (.bool true) rfl z ?_;refine tna 16 (.bool true) rfl z ?_;refine tnb 17 (.pointer (some ⟨K,35,none⟩)) rfl z ?_;refine tnd 18 (.int .i64 (Z:Int)) rfl (.inl ⟨by rfl,fun w' I=>by have c:World.cell? w' ⟨K,35,none⟩=some (.int .i64 (Z:Int)):=(aC (i:=35) ((A.out w' I).blk (y.b 0) (fun e=>by exact bJ (i:=1) y.nd rfl 0 (by decide) rfl e)) (U.out));go_simp⟩) z ?_;refine tna 19 (.pointer a) rfl z ?_;refine wA9 20 ?_;go_wp2_with fail;refine(uZ r.out).mono ?_;rintro e w8 ⟨rfl,f⟩;have G:=J.out _ ((A.out _ z).trans f.any);replace q:=kL q f;replace r:=O (r.keep0 f);clear z f;go_wp2_with fail;refine⟨G,?_⟩;refine tnb 21 (.bool true) rfl G ?_;refine tna 22 (.bool true) rfl G ?_;refine wA9 23 ?_;refine sta 192 (.tmp 4) (.tmp 24) b4 0 lc (q.b 1) (by first|decide|(rw[j];exact Nat.le_refl _)|simp[j,iY]) (by rw[j];exact gC) HOC.out ?_;intro w9 f W;rw[aK _ _ (by first|rfl|simp[j,iY])] at W;have V:=J.out _ ((A.out _ G).trans' f (fun _ _ h=>h) (fun i hi e=>(e)));clear G;replace q:=O (q.set 1 f W);replace r:=O (HA0.keep0 q.keep);clear f W;refine wpList_nil ?_;refine⟨V,?_⟩;refine tna 24 (.bool true) rfl V ?_;refine wpAnyH_done (by kernel_rfl) ?_ _;clear V A J y HAs;have HR:Hid (aA aB w w9):=O q.keep;have HB:=O (q.b 1);clear q r HA0;go_wp2_with fail;refine bodyPost_ret (bN rfl _ _ b4 _ _ _ _ rfl HB.out Tryz.underlying192 rfl (by rw[List.size_toArray,j];exact gC)) rfl ?_;exact⟨rfl,HR.out⟩
theorem oY(ha:bR w a B D Z Mm nw)(h:bA w c a m pid cp (.slice lb D D) gv t)(hlv:w.heap[lb]?=some (.cells (Array.replicate D (.int .i64 0)) 3 (0,0)))(hd:d<D)(K:1≤cp/\cp≤3/\cp≤D)(N:Mm d 0=eC (dJ pid d D cp Z)) :
 Calls Tryz.prog 97 #[.pointer c,.int .i64 (d:Int)] w (aN w (.bool true)):=by
 have hbd:=ha.bd;have A:=h.idl;have R:=sX (pid:=pid) hd hbd K.1 K.2.1 K.2.2;have hd0:(0:Int)≤(d:Int):=by omega
 have hd1:(d:Int)<(D:Int):=by omega
 have HTB:Hid (pU (dJ pid d D cp Z) pid (d:Int) 0=true):=O (by unfold pU;rw[R];simp[dJ]);obtain⟨lc,z⟩:∃l,(dJ pid d D cp Z).cells=l:=⟨_,rfl⟩
 have G:lc.length=37:=by rw[←z];exact Lab.cells_length _ A
 have HOC:Hid (∀u∈lc,u.oneCell'=true):=O (by rw[←z];exact nG _);have r:∀i,lc.toArray[32+i]?=(dJ pid d D cp Z).nums[i]?:=fun i=>by rw[List.getElem?_toArray,←z];exact Lab.cells_num _ A i
 have HLF32:Hid (lc.toArray[32]?=some (.int .i64 (d:Int))):=O (r 0);have HLF33:Hid (lc.toArray[33]?=some (.int .i64 (D:Int))):=O (r 1);have V:Hid (lc.toArray[34]?=some (.int .i64 (cp:Int))):=O (r 2);have HLF35:Hid (lc.toArray[35]?=some (.int .i64 (Z:Int))):=O (r 3);have W:Hid (lc.toArray[36]?=some (.int .i64 0)):=O (r 4);have HLC:=O z;have HLB:=O N;have HCP:=O K;have HD:=O hd;have hpl:(pid.map vb).length=32:=by rw[List.length_map];exact A
 have J:=O A;have F:Hid (w.cell? ⟨lb,d,none⟩=some (.int .i64 0)):=O (by rw[cell_of_row _ _ _ _ _ _ hlv];simp[hd]);have s:=O h;have E:=O ha;have x:=lN w;clear ha h R N z r A K hlv;go_in;go_wp2_with fail;refine(vF s.out).mono ?_;rintro e w1 ⟨rfl,f⟩;replace x:=kL x f;replace s:=O (s.keep0 f);replace E:=O (E.keep0 f);replace F:=O (f.cell F.out id);clear f;have c1:w1.cell? ⟨c,0,none⟩=some (.pointer a):=(bA.c0 s.out)
 go_wp2_with fail;clear c1;refine(DF E.out J.out HD.out HCP.out HLB.out).mono ?_;rintro e w2 ⟨rfl,f⟩;replace x:=kL x f;replace s:=O (s.keep0 f);replace E:=O (E.keep0 f);replace F:=O (f.cell F.out id);clear f;rw[HLC.out]
 go_wp2_with ((with_reducible show WL _ _);refine al 192 (.agg fP.cells.toArray) (fP.cells.toArray) (O oX) ?_)
 intro b5 w3 hbs hk0 M
 go_wp2_with ((with_reducible show WL _ _);refine sta 192 (.tmp 5) (.tmp 17) b5 0 lc M (by first|decide|(rw[List.size_toArray,G];exact Nat.le_refl _)|simp[G,iY]) (by rw[G];exact gC) HOC.out ?_)
 intro w4 f hb;rw[aK _ _ (by first|rfl|(rw[List.size_toArray,G];rfl)|simp[G,iY])] at hb;replace f:=tX hk0 f (fun i hi e=>by omega);replace x:=lW x hbs f hb;replace s:=O (s.keep0 f);replace E:=O (E.keep0 f);replace F:=O (f.cell F.out id);clear hbs f hb hk0 M;go_wp2_with fail;refine dwA aB (by kernel_rfl) ?_;intro w5 S y L q j;replace x:=kL x j;replace s:=O (s.keep0 j);replace E:=O (E.keep0 j);replace F:=O (j.cell F.out id);clear j;have I:=x;have H:=s;have U:=E;have X:=F;refine tna 0 (.bool true) rfl q ?_;refine tnb 1 (.bool false) rfl q ?_;refine tna 2 (.bool false) rfl q ?_;refine tnb 3 (.pointer (some ⟨b5,34,none⟩)) rfl q ?_;refine tnd 4 (.int .i64 (cp:Int)) rfl (.inl ⟨by rfl,fun w' hw'=>by have c:World.cell? w' ⟨b5,34,none⟩=some (.int .i64 (cp:Int)):=(aC (i:=34) ((y.out w' hw').blk (I.b 0) id) (V.out));go_simp⟩) q ?_;refine tna 5 (.pointer c) rfl q ?_;refine tnb 6 (.pointer c) rfl q ?_;refine tnb 7 (.pointer (some ⟨c,34,none⟩)) rfl q ?_;refine tnd 8 (.int .i64 (cp:Int)) rfl (.inl ⟨by rfl,fun w' hw'=>by have c:World.cell? w' ⟨c,34,none⟩=some (.int .i64 (cp:Int)):=(y.out w' hw').cell (bA.cp_ H.out) id;go_simp⟩) q ?_;refine tnb 9 (.bool false) rfl q ?_;refine tna 10 (.bool false) rfl q ?_;refine wpAnyH_done (by kernel_rfl) ?_ _;clear q y L I H U X;have c1:w5.cell? ⟨b5,36,none⟩=some (.int .i64 0):=(aC (i:=36) (x.b 0) (W.out))
 have c2:w5.cell? ⟨c,35,none⟩=some (.slice lb D D):=(bA.lv_ s.out)
 have c3:w5.cell? ⟨c,35,none⟩=some (.slice lb D D):=(bA.lv_ s.out)
 have c4:w5.cell? ⟨lb,d,none⟩=some (.int .i64 0):=F.out;go_wp2_with fail;clear c1 c2 c3 c4;refine dwA aB (by kernel_rfl) ?_;intro w6 S y L q j;replace x:=kL x j;replace s:=O (s.keep0 j);replace E:=O (E.keep0 j);replace F:=O (j.cell F.out id);clear j;have I:=x;have H:=s;have U:=E;have X:=F;refine tnd 0 (.agg lc.toArray) rfl (yieldsIf_load_mid (by rfl) 192 (.tmp 5) rfl b5 0 rfl lc _ (fun w' h=>aD ((y.out w' h).blk (I.b 0) id)) Tryz.underlying192 rfl (by rw[G];exact gC)) q ?_;refine tna 1 (.pointer c) rfl q ?_;refine tnb 2 (.pointer c) rfl q ?_;refine tnb 3 (.pointer (some ⟨c,2,none⟩)) rfl q ?_;refine tnd 4 (.agg (pid.map vb).toArray) rfl (yieldsIf_load_mid (by rfl) 25 (.tmp 47) rfl c 2 rfl (pid.map vb) _ (fun w' h=>(y.out w' h).rangeAt (bA.id_ H.out)) Tryz.underlying25 rfl (by rw[hpl];exact uU)) q ?_;refine tna 5 (.int .i64 (d:Int)) rfl q ?_;refine tna 6 (.int .i64 0) rfl q ?_;refine wA9 7 ?_;go_wp2_with fail;refine((by rw[←HLC.out];exact Ja w6 (dJ pid d D cp Z) pid (d:Int) 0 J.out J.out:Calls _ _ _ w6 (aX w6 (pU (dJ pid d D cp Z) pid (d:Int) 0)))).mono ?_;rintro e w7 ⟨rfl,f⟩;have Y:=L.out _ ((y.out _ q).trans f);replace x:=kL x f;replace s:=O (s.keep0 f);replace E:=O (E.keep0 f);replace F:=O (f.cell F.out id);clear q f;rw[HTB.out];go_wp2_with fail;refine⟨Y,?_⟩;refine tna 8 (.bool true) rfl Y ?_;refine wpAnyH_done (by kernel_rfl) ?_ _;clear Y y L I H U X;have HR:Hid (aA aB w w7):=O x.keep;clear x E s;go_wp2;go_ret;exact aN.of HR.out
structure gK(w:World)(c a m lb:Nat)(pid:List UInt8)(cp:Nat)(gv:Value)(t:Lst)(B:Nat->Prop)(D Z:Nat)(Mm:Nat->Nat->List UInt8)(nw:Nat):Prop where
 cor:bA w c a m pid cp (.slice (some ⟨lb,0,none⟩) D D) gv t
 arr:bR w a B D Z Mm nw
 mir:eQ w m a
 liv:w.heap[lb]?=some (.cells (Array.replicate D (.int .i64 0)) 3 (0,0))
 cpb:1≤cp/\cp≤3/\cp≤D
 lab:∀d,d<D->Mm d 0=eC (dJ pid d D cp Z)
theorem gK.keep(h:gK w c a m lb pid cp gv t B D Z Mm nw)(k:aA T w w')(f:∀i,T i->i≠c/\i≠m/\i≠lb/\¬B i/\¬t.Own i):gK w' c a m lb pid cp gv t B D Z Mm nw:=
 ⟨h.cor.keep k (fun e=>(f _ e).1 rfl) fun i e=>(f i e).2.2.2.2,h.arr.keep k fun i e=>(f i e).2.2.2.1,k.blk h.mir fun e=>(f _ e).2.1 rfl,k.blk h.liv fun e=>(f _ e).2.2.1 rfl,h.cpb,h.lab⟩
theorem gK.keep0(h:gK w c a m lb pid cp gv t B D Z Mm nw)(k:aA aB w w'):gK w' c a m lb pid cp gv t B D Z Mm nw:=h.keep k fun _ h=>h.elim
theorem oZ{u:Value}(h:Rd w 1 v n xs)(f:xs[k]?=some u):∃g o e,v=.slice (some ⟨g,o,none⟩) n e/\w.cell? ⟨g,o+k,none⟩=some u:=by
 obtain⟨h0,a,e,rfl,r,s,x,j⟩:=h;obtain⟨g,o,rfl,q⟩:=j (by have:=(List.getElem?_eq_some_iff.1 f).1;omega);exact⟨g,o,e,rfl,q k u f⟩
theorem lD(h:k<n):(qO n)[k]?=some (.int .i64 (k:Int)):=by
 unfold qO;rw[List.getElem?_map,List.getElem?_range h];rfl
def kH(k:Nat):List Value:=List.replicate k (.bool true)
theorem GG(k:Nat):kH (k+1)=kH k++[.bool true]:=by unfold kH;rw[List.replicate_succ']
def MO(w:World)(D:Nat)(e:Ending)(w':World):Prop:=∃v,e=.returned v/\w'.ownsRow w.heap.size 4 1 v D (kH D)/\aA aB w w'
theorem AK(h:gK w c a m lb pid cp gv t B D Z Mm nw):Calls Tryz.prog 53 #[.pointer c] w (MO w D):=by
 have hbd:=h.arr.bd;have G:=O h;have q:=lN w;clear h;go_in;go_wp2_with fail;refine(qP G.cor G.arr).mono ?_;rintro e N ⟨v0,rfl,ho,j⟩;obtain⟨g,o,dc,rfl,-⟩:=oZ (Rd.of_owns ho) (lD (show 0<D by omega))
 have R:=O (fun(k:Nat) (j:k<D)=>show ∃y,Value.slice (some ⟨g,o,none⟩) D dc=.slice (some ⟨g,o,none⟩) D y/\World.cell? N ⟨g,o+k,none⟩=some (.int .i64 (k:Int)) from by
  obtain⟨g',o',y,he,Y⟩:=oZ (Rd.of_owns ho) (lD j);cases he
  exact⟨_,rfl,Y⟩)
 clear ho;replace q:=kL q j;replace G:=O (G.keep0 j);clear j;go_wp2_with fail;have H:=O q.keep;clear q
 go_loopw [3,5,9] (fun v _ i wr=>∃(k:Nat) (p:Option Addr) (M:Nat),k≤D/\i=.int .i64 k/\v=.slice p k M/\Hid (aA aB N wr)/\Hid (wr.ownsRow N.heap.size 4 1 (.slice p k M) k (kH k))) (fun _ _ i _=>D-(intOf i).toNat)
 case atStart=>exact⟨0,none,0,by omega,rfl,rfl,O (aA.refl _ _),O (World.ownsRow_nil _ _ _ _)⟩
 case round =>
  obtain⟨k,p,M,j,rfl,rfl,r,s⟩:=hrel
  by_cases A:k<D
  ·have q:=lN wr
   have HW:=O r.size;have hk0:(0:Int)≤(k:Int):=by omega
   have hk1:(k:Int)<(D:Int):=by omega
   have F:Hid (World.cell? wr ⟨g,o+k,none⟩=some (.int .i64 (k:Int))):=O (by obtain⟨_,_,Y⟩:=R.out k A;exact r.cell Y id);have f:=O (G.keep0 r.out);have c1:wr.cell? ⟨g,o+k,none⟩=some (.int .i64 (k:Int)):=F.out;go_wp2_with fail;clear c1;refine(oY f.arr f.cor f.liv A f.cpb (f.lab _ A)).mono ?_;rintro e w2 ⟨rfl,j⟩;replace q:=kL q j;replace s:=O (j.owns s.out fun _ _=>id);replace f:=O (f.keep0 j);replace F:=O (j.cell F.out id);clear j
   go_wp2_with ((with_reducible show WL _ _);refine bs1 116 4 (.tmp 16) (.bool true) (by kernel_rfl) (by kernel_rfl) Tryz.underlying116 rfl ?_)
   intro J w3 K j hb;replace q:=lW q K j hb;replace s:=O (j.owns s.out fun _ _=>id);replace f:=O (f.keep0 j);replace F:=O (j.cell F.out id);clear K j hb;have z:Rd w3 1 (.slice J 1 1) 1 [.bool true]:=dE (n:=1) (size:=1) (q.b 0) rfl (by unfold maxLen;omega);have x:=O z;have W:=s;have I:=O q.keep;clear z
   go_wp2_with (first
    | (at_builtin;refine aL rfl (.tmp 13) (.tmp 17) 116 rfl N.heap.size 4 (.bool false) 1 1 Tryz.underlying116 Jb rfl (by decide) (.slice p k M) k (kH k) rfl s.out (.slice J 1 1) 1 [.bool true] rfl x.out (by intro u hu;rcases List.mem_singleton.1 hu with rfl;rfl) (by unfold maxLen;omega) (by omega) (Nat.le_trans HW.out I.size) ?_))
   intro v2 w8 E L hn5 X;obtain⟨g2,c2,rfl⟩:=ownsRow_succ E;have V:=O E;have S:=O L;clear E L hn5 X x q s f F;go_wp2_with fail;have U:=O (xW r.out W.out I.out S.out)
   go_roundw
   case rel=>exact⟨k+1,some ⟨g2,0,none⟩,c2,by omega,by go_num,rfl,U,by rw[GG];exact V⟩
   case measure=>simp[intOf];omega
  ·obtain rfl:k=D:=by omega
   go_wp2;go_ret;exact⟨_,rfl,aQ s.out H.size,H.trans r.out⟩
theorem MP:(Tryz.prog.info? 82).map (fun i=>(i.zero,i.size,i.bytes))=some (some (.agg #[.int .i64 0,.int .i64 0]),2,16):=by kernel_rfl
def zP(w:World)(l:List Ad)(e:Ending)(w':World):Prop:=∃f,e=.returned f/\w'.ownsRow w.heap.size 82 2 f l.length (aF l)/\aA aB w w'
theorem Ot(w:World):Sem.run Tryz.prog (binOp .eql 23 (.slice none 0 0) (.slice none 0 0)) w=.ok (.bool true) w:=by kernel_rfl
theorem NS(w:World)(a:Addr)(n c:Nat):Sem.run Tryz.prog (binOp .eql 23 (.slice (some a) n c) (.slice none 0 0)) w=.ok (.bool false) w:=by kernel_rfl
theorem nH(w:World)(v:Value)(l:List Ad)(z:Rd w 2 v l.length (aF l))(hl:l.length≤65536):Calls Tryz.prog 50 #[v] w (zP w l):=by
 obtain⟨h0,A,F,hv,R,S,H,V⟩:=z;have z:Rd w 2 v l.length (aF l):=⟨h0,A,F,hv,R,S,H,V⟩
 subst hv;cases A with
 | none =>
   obtain rfl:F=0:=H rfl;have y:l.length=0:=by omega
   have hx:l=[]:=List.eq_nil_of_length_eq_zero y;subst hx;clear h0 R S H V z hl y;have hns:=Ot w;go_in;go_wp2;go_ret;exact⟨_,rfl,World.ownsRow_nil _ _ _ _,aA.refl _ _⟩
 | some A =>
   obtain⟨w3,hw3,I,W,s3⟩:=aS w #[] 82;have J:=O I;have HS3:=O s3;have M:Hid (w3.ownsRow w.heap.size 82 2 (.slice (w.heap.size) 0 0) 0 []):=O (by rw[←hw3];exact World.ownsRow_made w #[] 0 (Nat.le_refl _) (by unfold maxLen;omega) rfl);have r:=O (z.keep I fun _ _=>id);have q:Hid (∀E w',w'.ownsRow w.heap.size 82 2 E l.length (aF l)->aA aB w w'->zP w l (.returned E) w'):=O (fun E w' a b=>⟨E,rfl,a,b⟩);obtain⟨n,X⟩:∃n,l.length=n:=⟨_,rfl⟩
   obtain⟨G,f⟩:∃G,aF l=G:=⟨_,rfl⟩
   have L:Hid (∀u∈G,u.oneCell'=true):=O (by rw[←f];exact cQ _);rw[X,f] at r q;rw[X] at hl ⊢;have hsz:w.heap.size≤w3.heap.size:=I.size;clear h0 R S H V z I W s3 X f;have hns:=NS w A n F;go_in
   go_wp2_with (first
    | (at_builtin;refine aL rfl (.tmp 5) (.tmp 6) 23 rfl w.heap.size 82 (.agg #[.int .i64 0,.int .i64 0]) 2 16 Tryz.underlying23 MP rfl (by decide) (.slice (w.heap.size) 0 0) 0 ([]) rfl M.out (.slice (some A) n F) n G rfl r.out L.out (by unfold maxLen;omega) (by omega) (by omega) ?_
       intro E w4 j x Y s;rw[Nat.zero_add,List.nil_append] at j;have N:=O j;have K:=O (J.trans' x (fun _ _ h=>h) (U:=aB) (fun i hi e=>by have e':w.heap.size=i:=Option.some.inj e;omega));clear j x Y s))
   go_ret;exact q.out _ _ N.out K.out
theorem GH(h:gK w c a m lb pid cp gv t B D Z Mm nw)(x:Ad)(I:eF x D Z):Calls Tryz.prog 157 #[.pointer c,.agg (aM x).toArray] w (aN w (.bool true)):=by
 have J:Hid (fA x D Z=true):=O ((Ax h.arr.bd).2 I);have q:=O h;have r:=lN w;clear h I;go_in
 go_wp2_with ((with_reducible show WL _ _);refine bxL r 82 (.tmp 1) ((aM x).toArray) ?_)
 intro K M f r;replace q:=O (q.keep0 f);clear f;go_wp2_with fail;refine dwA aB (by kernel_rfl) ?_;intro N S j u s F;replace r:=kL r F;replace q:=O (q.keep0 F);clear F;have H:=r;have y:=q;refine tnd 0 (.agg (aM x).toArray) rfl (yieldsIf_load_mid (by rfl) 82 (.tmp 3) rfl K 0 rfl (aM x) _ (fun w' h=>aD ((j.out w' h).blk (H.b 0) id)) bB rfl (by rw[bE];exact iU)) s ?_;refine tna 1 (.pointer c) rfl s ?_;refine tnb 2 (.pointer c) rfl s ?_;refine tnb 3 (.pointer c) rfl s ?_;refine tnd 4 (.pointer a) rfl (.inl ⟨by rfl,fun w' G=>by have c:World.cell? w' ⟨c,0,none⟩=some (.pointer a):=(j.out w' G).cell (bA.c0 y.cor) id;go_simp⟩) s ?_;refine tna 6 (.pointer c) rfl s ?_;refine tnb 7 (.pointer c) rfl s ?_;refine tnb 8 (.pointer c) rfl s ?_;refine tnd 9 (.pointer a) rfl (.inl ⟨by rfl,fun w' G=>by have c:World.cell? w' ⟨c,0,none⟩=some (.pointer a):=(j.out w' G).cell (bA.c0 y.cor) id;go_simp⟩) s ?_;refine wA9 5 ?_;go_wp2_with fail;refine(kQ q.arr).mono ?_;rintro e R ⟨rfl,f⟩;have z:=u.out _ ((j.out _ s).trans f);replace r:=kL r f;replace q:=O (q.keep0 f);clear s f;go_wp2_with fail;refine⟨z,?_⟩;refine wA9 10 ?_;go_wp2_with fail;refine(uZ q.arr).mono ?_;rintro e L ⟨rfl,f⟩;have A:=u.out _ ((j.out _ z).trans f);replace r:=kL r f;replace q:=O (q.keep0 f);clear z f;go_wp2_with fail;refine⟨A,?_⟩;refine wA9 11 ?_;go_wp2_with fail;refine(E4 x (D:Int) (Z:Int) L).mono ?_;rintro e U ⟨rfl,f⟩;have E:=u.out _ ((j.out _ A).trans f);replace r:=kL r f;replace q:=O (q.keep0 f);clear A f;rw[J.out];go_wp2_with fail;refine⟨E,?_⟩;refine tna 12 (.bool true) rfl E ?_;refine wpAnyH_done (by kernel_rfl) ?_ _;clear E j u H y;go_wp2;go_ret;exact aN.of r.keep
theorem Jc(h:gK w c a m lb pid cp gv t B D Z Mm nw)(s:w.heap[bc]?=some (.cells #[.pointer c] 39 (0,0)))(x:Ad)(u:eF x D Z):Calls Tryz.prog 156 #[.agg (aM x).toArray,.pointer bc] w (aN w (.bool false)):=by
 have f:=O (cell_of_one s);have y:=O u;have r:=O h;have q:=lN w;clear h u s;go_in
 go_wp2_with ((with_reducible show WL _ _);refine bxL q 82 (.tmp 0) ((aM x).toArray) ?_)
 intro b2 z j q;replace r:=O (r.keep0 j);replace f:=O (j.cell f.out id);clear j;have c1:z.cell? ⟨bc,0,none⟩=some (.pointer c):=f.out
 go_wp2_with ((with_reducible show WL _ _);refine wpList_load_mid rfl 82 (.tmp 2) rfl b2 0 rfl (aM x) _ (aD (q.b 0)) bB rfl (by rw[bE];exact iU) ?_)
 clear c1;refine(GH r.out x y.out).mono ?_;rintro e A ⟨rfl,j⟩;replace q:=kL q j;replace r:=O (r.keep0 j);replace f:=O (j.cell f.out id);clear j;go_wp2;go_ret;exact aN.of q.keep
theorem Jd(h:gK w c a m lb pid cp gv t B D Z Mm nw)(y:w.heap[bc]?=some (.cells #[.pointer c] 39 (0,0)))(x:Ad)(z:eF x D Z):Calls Tryz.prog 159 #[.agg (aM x).toArray,.pointer bc] w (aN w (.bool false)):=by
 have f:=O (cell_of_one y);obtain⟨d,s,rfl,E,F,G⟩:=lS z;have j:=O h;have r:=lN w;have u:=O E;clear h z y;go_in
 go_wp2_with ((with_reducible show WL _ _);refine bxL r 82 (.tmp 0) ((aM ⟨(d:Int),(s:Int)⟩).toArray) ?_)
 intro b2 A q r;replace j:=O (j.keep0 q);replace f:=O (q.cell f.out id);clear q;have c1:A.cell? ⟨bc,0,none⟩=some (.pointer c):=f.out;have c2:A.cell? ⟨b2,0,none⟩=some (.int .i64 (d:Int)):=(aC (i:=0) (r.b 0) rfl)
 go_wp2_with fail;clear c1 c2;refine(oY j.arr j.cor j.liv u.out j.cpb (j.lab _ u.out)).mono ?_;rintro e H ⟨rfl,q⟩;replace r:=kL r q;replace j:=O (j.keep0 q);replace f:=O (q.cell f.out id);clear q;go_wp2;go_ret;exact aN.of r.keep
theorem zQ(w:World)(v:Value)(l:List Ad)(q:Rd w 2 v l.length (aF l))(S:l.length≤65536)(gf bc:Nat)(eg:∀args w,(callFunc gf args).run Tryz.prog w=.ok (.enter gf args) w)(j:∀x∈l,∀w',aA aB w w'->Calls Tryz.prog gf #[.agg (aM x).toArray,.pointer bc] w' (aN w' (.bool false))) :
 Calls Tryz.prog 206 #[v,.func (.func gf) #[] #[.pointer bc]] w (aN w (.int .i64 (-1))):=by
 obtain⟨Y,J,rfl,-,-⟩:=q.form;obtain⟨n,F⟩:∃n,l.length=n:=⟨_,rfl⟩
 have I:=O F;rw[F] at q S ⊢;have X:n≤J:=by obtain⟨_,a',c',N,R,h3,-⟩:=q;cases N;exact R
 have M:=O q;have A:=O j;clear q j F;go_in;go_wp2_with fail
 go_loopw [5,8] (fun _ i wr=>∃k:Nat,k≤n/\i=.int .i64 k/\Hid (aA aB w wr)) (fun _ i _=>n-(intOf i).toNat)
 case atStart=>exact⟨0,by omega,rfl,O (aA.refl _ _)⟩
 case round =>
  obtain⟨k,y,rfl,r⟩:=hrel
  by_cases E:k<n
  ·obtain⟨x,G⟩:∃x,l[k]?=some x:=⟨l[k]'(by rw[I.out];exact E),List.getElem?_eq_getElem _⟩
   have f:=M.out;rw[←I.out] at f;obtain⟨g,o,K,L,h⟩:=fO f G;obtain rfl:Y=some ⟨g,o,none⟩:=by cases L;rfl
   have u:=O (r.rangeAt h);have H:=O (A.out x (List.mem_of_getElem? G) wr r.out);have s:=lN wr;have U:(0:Int)≤(k:Int):=by omega
   have V:(k:Int)<(n:Int):=by omega
   have W:(k:Int)≤(J:Int):=by omega
   clear G f h L
   go_wp2_with ((with_reducible show WL _ _);refine wpList_load_mid rfl 82 (.tmp 14) rfl g (o+k*2) rfl (aM x) _ u.out bB rfl (by rw[bE];exact iU) ?_)
   refine(H.out).mono ?_;rintro e w1 ⟨rfl,y⟩;replace s:=kL s y;replace u:=O (y.rangeAt u.out);clear y;go_wp2_with fail;have z:=O (r.trans s.keep);clear s H u
   go_roundw
   case rel=>exact⟨k+1,by omega,by go_num,z⟩
   case measure=>simp[intOf];omega
  ·obtain rfl:k=n:=by omega
   go_wp2;go_ret;exact aN.of r.out
def vV(Q:Exit->Act->World->Prop):Exit->Act->World->Prop
 | .panic _,_,_=>False
 | e,a,w=>Q e a w
theorem noP{a:Act}(h:Q .normal a w):vV Q .normal a w:=h
theorem lV{S:World->Prop}{a:Act}(j:P.follows .mixedOrders=true)
 (h:wpAnyH P .any ops (vV Q) S ops.size (Array.replicate ops.size false) a { w with drawn:=w.drawn+1 }):(Code.region id ops true).wp P Q a w:=
 wp_mono (wp_region_held j h) fun e a w h=>by
  cases e<;>first|exact h|exact h.elim
theorem dwB{a:Act}(U:Nat->Prop)(f:P.follows .mixedOrders=true)(h:∀wd (S:World->Prop),Hid (∀w',S w'->aA U wd w')->Hid (∀w',aA U wd w'->S w')->S wd->aA aB w wd->wpAnyH P .any ops (vV Q) S ops.size (Array.replicate ops.size false) a wd):(Code.region id ops true).wp P Q a w:=
 have e:=(aA.refl aB w).drew
 lV (S:=fun w'=>aA U w.drew w') f (h w.drew (fun w'=>aA U w.drew w') (O fun _ h=>h) (O fun _ h=>h) (aA.refl _ _) e)
theorem Cc(w:World)(v:Value)(l:List Ad)(r:Rd w 2 v l.length (aF l))(j:l.length≤65536)(gf bc:Nat)(u:∀args w,(callFunc gf args).run Tryz.prog w=.ok (.enter gf args) w)(f:∀x∈l,∀w',aA aB w w'->Calls Tryz.prog gf #[.agg (aM x).toArray,.pointer bc] w' (aN w' (.bool false))) :
 Calls Tryz.prog 155 #[v,.func (.func gf) #[] #[.pointer bc]] w (aN w (.bool false)):=by
 have s:=O (zQ w v l r j gf bc u f);have h:=lN w;clear r f j;go_in;go_wp2_with fail;refine(s.out).mono ?_;rintro e y ⟨rfl,q⟩;replace h:=kL h q;clear q;go_wp2;go_ret;exact aN.of h.keep
theorem EE(w:World)(v:Value)(l:List Ad)(r:Rd w 2 v l.length (aF l))(j:l.length≤65536)(gf bc:Nat)(u:∀args w,(callFunc gf args).run Tryz.prog w=.ok (.enter gf args) w)(f:∀x∈l,∀w',aA aB w w'->Calls Tryz.prog gf #[.agg (aM x).toArray,.pointer bc] w' (aN w' (.bool false))) :
 Calls Tryz.prog 158 #[v,.func (.func gf) #[] #[.pointer bc]] w (aN w v):=by
 have s:=O (zQ w v l r j gf bc u f);have h:=lN w;clear r f j;go_in;go_wp2_with fail;refine(s.out).mono ?_;rintro e y ⟨rfl,q⟩;replace h:=kL h q;clear q;go_wp2;go_ret;exact aN.of h.keep
theorem DG(v v':Value)(p:Pt):spl (aE v p).toArray 0 [v']=(aE v' p).toArray:=by
 unfold aE spl spl;simp
def xX(w:World)(p:Pt)(e:Ending)(w':World):Prop:=∃v,e=.returned (.tuple #[.agg (aE v p).toArray,.int .i64 0])/\w'.ownsRow w.heap.size 82 2 v p.addrs.length (aF p.addrs)/\aA aB w w'
theorem Lb(h:gK w c a m lb pid cp gv t B D Z Mm nw)(pv:Value)(p:Pt)(hp:PtV w pv p)(L:p.may=true)(hh:p.hole=false)(hpl:∀x∈p.addrs,eF x D Z)(K:p.addrs.length≤65536):Calls Tryz.prog 110 #[.pointer c,.agg (aE pv p).toArray] w (xX w p):=by
 have I:=aJ (v:=pv) hp.sum;obtain⟨oa,ca,hpv,-,-⟩:=hp.rd.form;obtain⟨pc,y⟩:∃l,aE pv p=l:=⟨_,rfl⟩
 have HOP:Hid (∀u∈pc,u.oneCell'=true):=O (by rw[←y,hpv];exact cP p);have R:=O y;have X:Hid (∃r,pc=pv::r):=O ⟨_,y.symm⟩;rw[y] at I ⊢;have s:=O h;have f:=O hp;have HMA:=O L;have HH:=O hh;have Y:=O hpl;have N:=O K;have q:=lN w;clear h hp y L hh hpl K hpv;have M:=s;have E:=f;go_in
 go_wp2_with ((with_reducible show WL _ _);refine bxL q 39 (.tmp 0) (#[.pointer c]) ?_)
 intro b2 w1 j q;replace s:=O (s.keep0 j);replace f:=O (f.keep j fun _ _=>id);clear j
 go_wp2_with ((with_reducible show WL _ _);refine bxL q 27 (.tmp 1) (pc.toArray) ?_)
 intro S w2 j q;replace s:=O (s.keep0 j);replace f:=O (f.keep j fun _ _=>id);clear j
 go_wp2_with ((with_reducible show WL _ _);refine alL q 27 (.agg aI.toArray) (aI.toArray) bK ?_)
 intro b4 w3 j q;replace s:=O (s.keep0 j);replace f:=O (f.keep j fun _ _=>id);clear j;have c1:w3.cell? ⟨b2,0,none⟩=some (.pointer c):=(aC (i:=0) (q.b 2) rfl)
 go_wp2_with fail;clear c1;refine(qN s.cor s.arr).mono ?_;rintro e w4 ⟨rfl,j⟩;replace q:=kL q j;replace s:=O (s.keep0 j);replace f:=O (f.keep j fun _ _=>id);clear j
 go_wp2_with ((with_reducible show WL _ _);refine wpList_load_mid rfl 27 (.tmp 3) rfl S 0 rfl pc _ (aD (q.b 1)) aH rfl (szP9 I) ?_)
 refine((by rw[←R.out];exact kC w4 pv p f.out:Calls _ _ _ w4 (lQ w4 p.may))).mono ?_;rintro e w5 ⟨rfl,j⟩;replace q:=kL q j;replace s:=O (s.keep0 j);replace f:=O (f.keep j fun _ _=>id);clear j;rw[HMA.out]
 go_wp2_with ((with_reducible show WL _ _);refine aP (by rfl) 27 (.tmp 3) rfl S 0 rfl pc _ (aD (q.b 1)) aH rfl (szP9 I) ?_)
 refine((by rw[←R.out];exact cL w5 pv p f.out:Calls _ _ _ w5 (aX w5 p.hole))).mono ?_;rintro e w6 ⟨rfl,j⟩;replace q:=kL q j;replace s:=O (s.keep0 j);replace f:=O (f.keep j fun _ _=>id);clear j;rw[HH.out];have c1:w6.cell? ⟨S,0,none⟩=some (pv):=(by obtain⟨r,e⟩:=X.out;exact aC (i:=0) (q.b 1) (by rw[e];rfl))
 go_wp2_with fail;clear c1;refine(Cc w6 pv p.addrs f.rd N.out 156 b2 (enters_of Tryz.func156 (by kernel_rfl) rfl) (fun x hx w' k=>Jc (s.keep0 k) (k.blk (q.b 2) id) x (Y.out x hx))).mono ?_;rintro e w7 ⟨rfl,j⟩;replace q:=kL q j;replace s:=O (s.keep0 j);replace f:=O (f.keep j fun _ _=>id);clear j;have c1:w7.cell? ⟨S,0,none⟩=some (pv):=(by obtain⟨r,e⟩:=X.out;exact aC (i:=0) (q.b 1) (by rw[e];rfl))
 go_wp2_with fail;clear c1;have HSZ:=O q.keep.size;have U:=O (q.lt 1).2;have V:=O (q.lt 0).2;refine(nH w7 pv p.addrs f.rd N.out).mono ?_;rintro e w8 ⟨v1,rfl,ho,j⟩;obtain⟨F,G,rfl,-,-⟩:=(Rd.of_owns ho).form;replace q:=kL q j;replace s:=O (s.keep0 j);replace f:=O (f.keep j fun _ _=>id);clear j;have W:=O (fun(i:Nat) (hi:(Value.slice F p.addrs.length G).ownBlock=some i)=>show w7.heap.size≤i from aU ho hi);have H:=O (aQ ho HSZ.out);clear ho;go_wp2_with fail;refine(EE w8 (.slice F p.addrs.length G) p.addrs (Rd.of_owns H.out) N.out 159 b2 (enters_of Tryz.func159 (by kernel_rfl) rfl) (fun x hx w' k=>Jd (s.keep0 k) (k.blk (q.b 2) id) x (Y.out x hx))).mono ?_;rintro e w9 ⟨rfl,j⟩;replace q:=kL q j;replace s:=O (s.keep0 j);replace f:=O (f.keep j fun _ _=>id);replace H:=O (j.owns H.out fun _ _=>id);clear j
 go_wp2_with ((with_reducible show WL _ _);refine sta 23 (.tmp 32) (.tmp 31) S 0 ([.slice F p.addrs.length G]) (q.b 1) (by first|decide|(rw[rfl];exact Nat.le_refl _)|simp[I]) (by kernel_rfl) (one9) ?_)
 intro wa j J;have A:(aE (.slice F p.addrs.length G) p).length=35:=aJ E.sum;obtain⟨pd,z⟩:∃l,aE (.slice F p.addrs.length G) p=l:=⟨_,rfl⟩
 have HPD:=O z;have HOD:Hid (∀u∈pd,u.oneCell'=true):=O (by rw[←z];exact cP p);rw[z] at A;replace J:wa.heap[S]?=some (.cells pd.toArray 27 (0,0)):=by rw[J,←R.out,DG,z]
 clear z;replace q:=O (q.set 1 j J);replace s:=O (M.keep0 q.keep);replace f:=O (E.keep q.keep fun _ _=>id);replace H:=O (j.owns H.out fun i hi e=>by have:=W.out i hi;have:=U.out;have:=V.out;omega);clear j J
 go_wp2_with ((with_reducible show WL _ _);first
  | refine wpList_load_mid rfl 27 (.tmp 3) rfl S 0 rfl pd _ (aD (q.b 1)) aH rfl (szP9 A) ?_
  | refine sta 27 (.tmp 4) (.tmp 33) b4 0 pd (q.b 0) (by first|decide|(rw[A];exact Nat.le_refl _)|simp[A,aG]) (szP9 A) HOD.out ?_)
 intro wb j J;rw[aK _ _ (by first|rfl|simp[A,aG])] at J;replace q:=O (q.set 0 j J);replace s:=O (M.keep0 q.keep);replace f:=O (E.keep q.keep fun _ _=>id);replace H:=O (j.owns H.out fun i hi e=>by have:=W.out i hi;have:=U.out;have:=V.out;omega);clear j J;have HR:Hid (xX w p (.returned (.tuple #[.agg pd.toArray,.int .i64 0])) wb):=O ⟨_,by rw[HPD.out],H.out,q.keep⟩;have HBK:=O (q.b 0);clear q s f H M E;go_wp2_with fail;refine bodyPost_ret (bN rfl _ _ b4 _ _ _ _ rfl HBK.out aH rfl (by rw[List.size_toArray,A];exact dM)) rfl ?_;exact HR.out
theorem nI(w:World)(c e:Nat)(f:Int)(x:TypeId)(j:w.heap[e]?=some (.cells #[.int .i64 f] x (0,0)))(h:f≠10):CallsD Tryz.prog 48 #[.pointer c,.pointer e] .returning w fun s u w'=>u=.returning/\aN w (.tuple #[]) s w':=by
 have q:=O (cell_of_one j);have y:(f == 10)=false:=by rw[beq_eq_false_iff_ne];exact h
 have r:=lN w;clear j
 go_enter_d Tryz.func48,Tryz.ntmps48
 have c1:w.cell? ⟨e,0,none⟩=some (.int .i64 f):=q.out;go_wp2_with fail;clear c1;refine bodyPost_ret (results_none rfl _ _ _) rfl ?_;exact aN.of r.keep
theorem xY{u:Tmp}{f:TypeId}(h:fn.results=#[.tmp u,.cell p f])(tmps:Array Value)(P:Program)(w:World)(a:Addr)(x:Value)(e:tmps.getD p undef=.pointer (some a))(j:(loadVar f a).run P w=.ok x w) :
 (results fn tmps).run P w=.ok (.tuple #[tmps.getD u undef,x]) w:=by
 simp only[results,h];simp only[Array.getD_eq_getD_getElem?] at e;simp[Result.andThen,asAddr,e,j]
theorem Lc(h:gK w c a m lb pid cp gv t B D Z Mm nw)(pv:Value)(p:Pt)(hp:PtV w pv p)(hmay:p.may=true)(hh:p.hole=false)(hpl:∀x∈p.addrs,eF x D Z)(Y:p.addrs.length≤65536){s:Nat}{rest:List Ad}(hpa:p.addrs=⟨(d:Int),(s:Int)⟩::rest)(hsum:p.sum=cZ (Mm d s)):Calls Tryz.prog 74 #[.pointer c,.agg (aE pv p).toArray] w (fQ w (Mm d s)):=by
 have hpc:=aJ (v:=pv) hp.sum;obtain⟨oa,ca,hpv,-,-⟩:=hp.rd.form;obtain⟨pc,J⟩:∃l,aE pv p=l:=⟨_,rfl⟩
 have HOP:Hid (∀u∈pc,u.oneCell'=true):=O (by rw[←J,hpv];exact cP p);have HPS:=O J;have hn0:(((p.addrs.length:Nat):Int) == 0)=false:=by rw[beq_eq_false_iff_ne,hpa];simp;omega
 rw[J] at hpc ⊢;obtain⟨n,hn⟩:∃n,p.addrs.length=n:=⟨_,rfl⟩
 rw[hn] at hn0;have HN:=O hn;have A:=O h;have q:=O hp;have HMA:=O hmay;have HH:=O hh;have HPL:=O hpl;have HLN:=O Y;have HPA:=O hpa;have HSM:=O hsum;have y:=lN w;clear h hp J hmay hh hpl Y hpv hpa hsum hn
 go_enter_defers Tryz.func74,Tryz.ntmps74
 have V:=A;have E:=q
 go_wp2_with ((with_reducible show WL _ _);refine bxL y 27 (.tmp 1) (pc.toArray) ?_)
 intro b3 w1 j y;replace A:=O (A.keep0 j);replace q:=O (q.keep j fun _ _=>id);clear j
 go_wp2_with ((with_reducible show WL _ _);refine alL y 49 (.int .i64 0) (#[.int .i64 0]) kF ?_)
 intro K w2 j y;replace A:=O (A.keep0 j);replace q:=O (q.keep j fun _ _=>id);clear j
 go_wp2_with ((with_reducible show WL _ _);refine wpList_load_mid rfl 27 (.tmp 3) rfl b3 0 rfl pc _ (aD (y.b 1)) aH rfl (szP9 hpc) ?_)
 have HB5:=O (y.lt 0).2;refine((by rw[←HPS.out];exact Lb A.out pv p q.out HMA.out HH.out HPL.out HLN.out:Calls _ _ _ w2 (xX w2 p))).mono ?_;rintro e w3 ⟨v1,rfl,W,j⟩;obtain⟨G,H,rfl,-,-⟩:=(Rd.of_owns W).form;have HLA:=O (fun(i:Nat) (R:(Value.slice G p.addrs.length H).ownBlock=some i) (e:i=K)=>show False from by have:=aU W R;have:=HB5.out;omega);have HO:=O W;clear W;replace y:=kL y j;replace A:=O (A.keep0 j);replace q:=O (q.keep j fun _ _=>id);clear j;have I:(aE (.slice G p.addrs.length H) p).length=35:=aJ E.sum;have z:=O (show PtV w3 (.slice G p.addrs.length H) p from⟨Rd.of_owns HO.out,E.ads,E.sum⟩);obtain⟨pd,F⟩:∃l,aE (.slice G p.addrs.length H) p=l:=⟨_,rfl⟩
 have HPD:=O F;have HOD:Hid (∀u∈pd,u.oneCell'=true):=O (by rw[←F];exact cP p);have HPD0:Hid (∃r,pd=.slice G n H::r):=O ⟨_,by rw[←HN.out];exact F.symm⟩;rw[F] at I;rw[F];clear F
 go_wp2_with ((with_reducible show WL _ _);refine al 27 (.agg aI.toArray) (aI.toArray) bK ?_)
 intro b6 w4 hbs hk0 X
 go_wp2_with ((with_reducible show WL _ _);refine sta 27 (.tmp 6) (.tmp 12) b6 0 pd X (by first|decide|(rw[List.size_toArray,I];exact Nat.le_refl _)|simp[I,aG]) (szP9 I) HOD.out ?_)
 intro w5 j M;rw[aK _ _ (by first|rfl|(rw[List.size_toArray,I];rfl)|simp[I,aG])] at M;replace j:=tX hk0 j (fun i R e=>by omega);replace y:=lW y hbs j M;replace A:=O (A.keep0 j);replace q:=O (q.keep j fun _ _=>id);replace z:=O (z.keep j fun _ _=>id);clear hbs j M hk0 X
 go_wp2_with ((with_reducible show WL _ _);refine sta 49 (.tmp 5) (.tmp 13) K 0 ([.int .i64 0]) (y.b 1) (by simp) (by kernel_rfl) (one9) ?_)
 intro w6 j M;replace M:w6.heap[K]?=some (.cells #[.int .i64 0] 49 (0,0)):=M;replace y:=O (y.set 1 j M);replace A:=O (V.keep0 y.keep);replace q:=O (E.keep y.keep fun _ _=>id);replace z:=O (z.keep j fun i R e=>HLA.out i R e);clear j M;have c1:w6.cell? ⟨K,0,none⟩=some (.int .i64 0):=(aC (i:=0) (y.b 1) rfl)
 have c2:w6.cell? ⟨b6,0,none⟩=some (.slice G n H):=(by obtain⟨r,e⟩:=HPD0.out;exact aC (i:=0) (y.b 0) (by rw[e];rfl))
 go_wp2_with fail;clear c1 c2;have HCB:Hid (¬c=K):=O (fun e=>by have:=lt_of_block V.cor.top;have:=(y.lt 1).1;omega);go_wp2_with fail;refine dwB (fun k=>k=K) (by kernel_rfl) ?_;intro w7 S N HSI hS U;replace y:=kL y U;replace A:=O (A.keep0 U);replace q:=O (q.keep U fun _ _=>id);replace z:=O (z.keep U fun _ _=>id);clear U;have HLs:=y;have HBs:=A;have HPTs:=q;have HPVs:=z;refine tna 0 (.pointer c) rfl hS ?_;refine tnb 1 (.pointer c) rfl hS ?_;refine tnb 2 (.pointer (some ⟨c,1,none⟩)) rfl hS ?_;refine tnd 3 (.pointer m) rfl (.inl ⟨by rfl,fun w' hw'=>by have c:World.cell? w' ⟨c,1,none⟩=some (.pointer m):=(N.out w' hw').cell (bA.c1 HBs.cor) HCB.out;go_simp⟩) hS ?_;refine tnd 4 (.agg pd.toArray) rfl (yieldsIf_load_mid (by rfl) 27 (.tmp 6) rfl b6 0 rfl pd _ (fun w' h=>aD ((N.out w' h).blk (HLs.b 0) (fun e=>by exact bJ (i:=1) HLs.nd rfl 0 (by decide) rfl e))) aH rfl (szP9 I)) hS ?_;refine wA9 5 ?_;go_wp2_with fail;have HSZ:=O y.keep.size;have HB5:=O (y.lt 1).2;refine((by rw[←HPD.out];exact KZ A.arr A.mir (.slice G p.addrs.length H) p z.out HMA.out HH.out HPL.out HPA.out HSM.out:Calls _ _ _ w7 (fQ w7 (Mm d s)))).mono ?_;rintro e w8 ⟨v2,rfl,W,j⟩;obtain⟨ga,gc,rfl,-,-⟩:=(Rd.of_owns W).form;have L:=HSI.out _ ((N.out _ hS).trans j.any);replace y:=kL y j;replace A:=O (A.keep0 j);replace q:=O (q.keep j fun _ _=>id);replace z:=O (z.keep j fun _ _=>id);clear hS j;have HLB:=O (fun(i:Nat) (R:(Value.slice ga 256 gc).ownBlock=some i) (e:i=K)=>show False from by have:=aU W R;have:=HB5.out;omega);have HG:=O (aQ W HSZ.out);clear W;go_wp2_with fail;refine⟨L,?_⟩;refine tnb 6 (.slice ga 256 gc) rfl L ?_;refine tnb 7 (.int .i64 0) rfl L ?_;refine tna 8 (.slice ga 256 gc) rfl L ?_;refine wA9 9 ?_;refine sta 49 (.tmp 5) (.tmp 30) K 0 ([.int .i64 0]) (y.b 1) (by simp) (by kernel_rfl) (one9) ?_;intro w9 j M;replace M:w9.heap[K]?=some (.cells #[.int .i64 0] 49 (0,0)):=M;have hS2:=HSI.out _ ((N.out _ L).trans' j (fun _ _ h=>h) (fun i R e=>(e)));clear L;replace y:=O (y.set 1 j M);replace A:=O (V.keep0 y.keep);replace q:=O (E.keep y.keep fun _ _=>id);replace z:=O (z.keep j fun i R e=>HLA.out i R e);replace HG:=O (j.owns HG.out fun i R e=>HLB.out i R e);clear j M;refine wpList_nil ?_;refine⟨hS2,?_⟩;refine wpAnyH_done (by kernel_rfl) ?_ _;clear hS2 N HSI HLs HBs HPTs HPVs;refine noP ?_;have HR:=O y.keep;have HBK:=O (y.b 1);clear y A q V E z;go_wp2_with fail;refine leaves_cons (f:=48) (args:=#[.pointer c,.pointer K]) (by simp) (by simp[go_sem]) ?_;refine(nI w9 c K 0 _ HBK.out (by decide)).mono ?_;rintro e u' w'' ⟨rfl,rfl,j⟩;have c5:w''.cell? ⟨K,0,none⟩=some (.int .i64 0):=aC (i:=0) (j.blk HBK.out id) rfl;refine⟨_,xY rfl _ _ _ ⟨K,0,none⟩ (.int .i64 0) rfl (by go_simp),?_⟩;exact⟨_,rfl,j.owns HG.out fun _ _=>id,HR.trans j⟩
structure gS(w:World)(c a m lb g b2:Nat)(lc:Nat->Option Nat)(pid:List UInt8)(cp:Nat)(t:Lst)(B:Nat->Prop)(D Z:Nat)(Mm:Nat->Nat->List UInt8)(nw:Nat)(Ls:List Ad):Prop where
 cor:gK w c a m lb pid cp (.pointer (some ⟨g,0,none⟩)) t B D Z Mm nw
 led:dU w 0 g b2 lc D Z Ls
 far:∀k,Own g b2 lc D k->¬B k/\k≠c/\k≠m/\k≠lb/\¬t.Own k
 top:¬B c/\¬B m/\¬B lb/\∀i,t.Own i->¬B i/\i≠c/\i≠m/\i≠lb
 many:nw+sB (cE Ls D Z)≤40000+8*t.u.txg.toNat
theorem gS.keep0(h:gS w c a m lb g b2 lc pid cp t B D Z Mm nw Ls)(k:aA aB w w'):gS w' c a m lb g b2 lc pid cp t B D Z Mm nw Ls:=⟨h.cor.keep0 k,h.led.keep0 k,h.far,h.top,h.many⟩
theorem Je(D:Nat):(List.replicate D true).map Value.bool=kH D:=by unfold kH;rw[List.map_replicate]
theorem Jf{base:Nat}(h:w.ownsRow base 4 1 v D (kH D)):Rd w 1 v (List.replicate D true).length ((List.replicate D true).map Value.bool):=by
 rw[Je,List.length_replicate];exact Rd.of_owns h
theorem GI{M:List Ad}{th:List Bool}(f:cC (cE M D Z) th cp=some l):sB (cE (M++bD M Z l) D Z)+l.length=sB (cE M D Z):=by
 rw[wQ f];have e:=fE f;refine L7 l _ e.2.2.2.1 fun i h=>⟨(e.2.2.2.2 i h).1,?_⟩
 have:=(e.2.2.2.2 i h).2;unfold eN at this;simp only[Bool.and_eq_true,decide_eq_true_eq] at this;omega
theorem Ld(b:List UInt8)(l:List Ad)(Mm:Nat->Nat->List UInt8)(f:∀x∈l,eF x D Z)(d:Nat):lC b l Mm d 0=Mm d 0:=
 xR b l Mm d 0 fun x h e=>by
  have:=(f x h).2.2;have:=e.2;omega
theorem gS.lt(h:gS w c a m lb g b2 lc pid cp t B D Z Mm nw Ls)(f:B k\/Own g b2 lc D k):k<w.heap.size:=
 f.elim (fun e=>h.cor.arr.lt e) fun e=>(h.led.own_lt e).2
theorem MQ(v:Value)(p:Pt)(h:p.sum.length=32):spl (spl (spl (spl aI.toArray 0 [v]) 1 [.int .i64 p.birth]) 2 [.int .i64 p.level]) 3 (p.sum.map vb)=(aE v p).toArray:=by
 have e:spl (spl (spl aI.toArray 0 [v]) 1 [.int .i64 p.birth]) 2 [.int .i64 p.level]=(v::.int .i64 p.birth::.int .i64 p.level::(List.replicate 32 (Value.int .u8 0))).toArray:=by rfl
 rw[e];have f:(p.sum.map vb).length=32:=by rw[List.length_map,h]
 apply Array.ext_getElem?;intro j;rw[mC _ _ _ _ (by rw[f];simp),f];unfold aE;rw[List.getElem?_toArray,List.getElem?_toArray]
 match j with
 | 0=>rfl
 | 1=>rfl
 | 2=>rfl
 | j+3 =>
   by_cases q:j<32
   ·rw[if_pos ⟨by omega,by omega⟩,Nat.add_sub_cancel];rfl
   ·rw[if_neg (by omega),List.getElem?_eq_none (by simp;omega),List.getElem?_eq_none (by simp[h];omega)]
theorem gS.keepT(h:gS w c a m lb g b2 lc pid cp t B D Z Mm nw Ls)(k:aA T w w')(f:∀i,T i->i≠c/\i≠m/\i≠lb/\¬B i/\¬Own g b2 lc D i/\¬t.Own i):gS w' c a m lb g b2 lc pid cp t B D Z Mm nw Ls:=
 ⟨h.cor.keep k fun i e=>⟨(f i e).1,(f i e).2.1,(f i e).2.2.1,(f i e).2.2.2.1,(f i e).2.2.2.2.2⟩,h.led.keep k fun i e=>(f i e).2.2.2.2.1,h.far,h.top,h.many⟩
theorem gS.fresh(h:gS w c a m lb g b2 lc pid cp t B D Z Mm nw Ls)(r:w.heap.size≤b):∀i,i=b->i≠c/\i≠m/\i≠lb/\¬B i/\¬Own g b2 lc D i/\¬t.Own i:=by
 rintro i rfl;have f:=lt_of_block h.cor.cor.top;have j:=lt_of_block h.cor.mir;have q:=lt_of_block h.cor.liv;exact⟨by omega,by omega,by omega,fun e=>by have:=h.lt (.inl e);omega,fun e=>by have:=h.lt (.inr e);omega,fun e=>by have:=h.cor.cor.lst.lt e;omega⟩
theorem fD{q:Tmp}{e s:TypeId}(h:fn.results=#[.cell p e,.cell q s])(tmps:Array Value)(w:World)(g:Nat)(t:TypeId)(cs:Array Value)(f:Nat×Nat)(d:TypeDesc)
 (j:tmps.getD p undef=.pointer g) (y:w.heap[g]?=some (.cells cs t f)) (A:P.underlying e=some d) (u:(match d with|.struct _|.array _ _=>true|_=>false)=true) (z:(P.info? e).map (·.size)=some cs.size)
 (a:Addr) (x:Value) (r:tmps.getD q undef=.pointer (some a)) (E:(loadVar s a).run P w=.ok x w):(results fn tmps).run P w=.ok (.tuple #[.agg cs,x]) w:=by
 simp only[Array.getD_eq_getD_getElem?] at j r;simp[results,h,j,r,asAddr,Sem.run_bind,Result.andThen,run_loadVar_row w g t e cs f d y A u z,E]
def DH(w:World)(c a m lb g b2:Nat)(lc:Nat->Option Nat)(pid:List UInt8)(cp:Nat)(t:Lst)(B:Nat->Prop)(D Z:Nat)(Mm:Nat->Nat->List UInt8)(nw:Nat)(Ls:List Ad)(lv:Nat)(bs:List UInt8)(f:List Ad)(e:Ending)(w':World):Prop:=
 ∃v h,e=.returned (.tuple #[.agg (aE v ⟨f,t.u.txg+1,(lv:Int),cZ bs⟩).toArray,.int .i64 0])/\w'.ownsRow w.heap.size 82 2 v f.length (aF f)/\gS w' c a m lb g b2 lc pid cp t h D Z (lC bs f Mm) (nw+f.length) (Ls++f)/\(∀k,h k->B k\/w.heap.size≤k)/\(∀k,v.ownBlock=some k->¬h k/\¬Own g b2 lc D k)/\aA (fun k=>B k\/Own g b2 lc D k) w w'
theorem MR(h:gS w c a m lb g b2 lc pid cp t B D Z Mm nw Ls)(ht:0≤t.u.txg/\t.u.txg<2147483648)(lv:Nat)(hlv:lv≤3)(vv:Value)(bs:List UInt8)(R:bs.length=256)(E:Rd w 1 vv 256 (bs.map vb))(hvb:∀i,vv.ownBlock=some i->¬B i/\¬Own g b2 lc D i)(hc:cC (cE Ls D Z) (List.replicate D true) cp=none):Calls Tryz.prog 124 #[.pointer c,.int .i64 (lv:Int),vv] w (aN w (.tuple #[.agg aI.toArray,.int .i64 15])):=by
 obtain⟨vp,vc,rfl,-,-⟩:=E.form;have hbd:=h.led.bd;have U:=h.cor.cpb;have HCK:=O (CQ (L:=Ls) hbd (List.length_replicate (n:=D) (a:=true)) U.1 U.2.1);have HCH:=O hc;have hlv0:¬((lv:Int)<0):=by omega
 have hlv1:¬((3:Int)<(lv:Int)):=by omega
 have ht1:¬((2147483648:Int)≤t.u.txg):=by omega
 have HT:=O ht;have HBL:=O R;have HVB:=O hvb;have HCP:=O U
 have HVL:Hid (∀i,(Value.slice vp 256 vc).ownBlock=some i->i<w.heap.size):=O (fun i H=>by
  obtain⟨k,W,X⟩:=E.lt (by rw[List.length_map,R];decide);rw[W] at H;cases H;exact X)
 have u:=O h;have r:=O E;have HIW:=O h;have s:=lN w;clear h E hvb ht R hc
 go_enter_defers Tryz.func124,Tryz.ntmps124
 go_wp2_with ((with_reducible show WL _ _);refine alL s 27 (.agg aI.toArray) (aI.toArray) bK ?_)
 intro V w1 j s;replace u:=O (u.keep0 j);replace r:=O (r.keep j fun _ _=>id);clear j
 go_wp2_with ((with_reducible show WL _ _);refine alL s 49 (.int .i64 0) (#[.int .i64 0]) kF ?_)
 intro F w2 j s;replace u:=O (u.keep0 j);replace r:=O (r.keep j fun _ _=>id);clear j;go_wp2_with fail;refine(qN u.cor.cor u.cor.arr).mono ?_;rintro e w3 ⟨rfl,j⟩;replace s:=kL s j;replace u:=O (u.keep0 j);replace r:=O (r.keep j fun _ _=>id);clear j;have c1:w3.cell? ⟨c,36,none⟩=some (.pointer g):=(bA.gv_ u.cor.cor)
 have c2:w3.cell? ⟨c,39,none⟩=some (.int .i64 t.u.txg):=(bA.txg_ u.cor.cor)
 go_wp2_with fail;clear c1 c2
 have HN7:Hid (¬(c=F\/B c\/Own g b2 lc D c)):=O (by
  rintro (e|e|e)
  ·have:=lt_of_block HIW.cor.cor.top;have:=(s.lt 0).1;omega
  ·exact u.top.1 e
  ·exact(u.far c e).2.1 rfl)
 have H7B:=O (s.lt 0);have HF7:=O (HIW.fresh H7B.1);go_wp2_with fail;refine dwB (fun k=>k=F\/B k\/Own g b2 lc D k) (by kernel_rfl) ?_;intro w4 S q A z I;replace s:=kL s I;replace u:=O (u.keep0 I);replace r:=O (r.keep I fun _ _=>id);clear I;have HLs:=s;have K:=u;have HVVs:=r;refine tna 0 (.pointer c) rfl z ?_;refine tnb 1 (.pointer c) rfl z ?_;refine tnb 2 (.pointer (some ⟨c,36,none⟩)) rfl z ?_;refine tnd 3 (.pointer g) rfl (.inl ⟨by rfl,fun w' G=>by have c:World.cell? w' ⟨c,36,none⟩=some (.pointer g):=(q.out w' G).cell (bA.gv_ K.cor.cor) HN7.out;go_simp⟩) z ?_;refine tna 4 (.pointer c) rfl z ?_;refine tna 6 (.pointer c) rfl z ?_;refine tnb 7 (.pointer c) rfl z ?_;refine tnb 8 (.pointer (some ⟨c,34,none⟩)) rfl z ?_;refine tnd 9 (.int .i64 (cp:Int)) rfl (.inl ⟨by rfl,fun w' G=>by have c:World.cell? w' ⟨c,34,none⟩=some (.int .i64 (cp:Int)):=(q.out w' G).cell (bA.cp_ K.cor.cor) HN7.out;go_simp⟩) z ?_;refine wA9 5 ?_;go_wp2_with fail;refine(AK u.cor).mono ?_;rintro e w5 ⟨v1,rfl,ho,j⟩;obtain⟨wa,wc,rfl,-,-⟩:=(Rd.of_owns ho).form;have M:=O ho;clear ho;have x:=A.out _ ((q.out _ z).trans j.any);replace s:=kL s j;replace u:=O (u.keep0 j);replace r:=O (r.keep j fun _ _=>id);clear z j;go_wp2_with fail;refine⟨x,?_⟩;refine wA9 10 ?_;go_wp2_with fail;refine(CN w5 0 g b2 D Z lc Ls u.led (.slice wa D wc) (List.replicate D true) (cp:Int) (Jf M.out)).mono ?_;rintro e w6 hm;unfold iM at hm;rw[if_pos HCK.out,Int.toNat_natCast,HCH.out] at hm;obtain⟨rfl,j⟩:=hm;have y:=A.out _ ((q.out _ x).trans j.any);replace s:=kL s j;replace u:=O (u.keep0 j);replace r:=O (r.keep j fun _ _=>id);replace M:=O (j.owns M.out fun _ _=>id);clear x j;go_wp2_with fail;refine⟨y,?_⟩;refine tna 11 (.tuple #[.slice none 0 0,.int .i64 15]) rfl y ?_;refine tnb 12 (.slice none 0 0) rfl y ?_;refine tnb 13 (.int .i64 15) rfl y ?_;refine tna 14 (.slice none 0 0) rfl y ?_;refine wA9 15 ?_;refine sta 49 (.tmp 7) (.tmp 60) F 0 ([.int .i64 15]) (s.b 0) (by simp) (by kernel_rfl) (one9) ?_;intro Y j E;replace E:Y.heap[F]?=some (.cells #[.int .i64 15] 49 (0,0)):=E;have hS3:=A.out _ ((q.out _ y).trans' j (fun _ _ h=>h) (fun i H e=>.inl e));clear y;replace s:=O (s.set 0 j E);replace u:=O (u.keepT j HF7.out);replace r:=O (r.keep j (fun i H e=>by have:=HVL.out i H;have:=H7B.1;omega));replace M:=O (j.owns M.out fun i H e=>by have:=aU M.out H;have:=(HLs.lt 0).2;omega);clear j E;refine wpList_nil ?_;refine⟨hS3,?_⟩;refine wpAnyH_done (by kernel_rfl) ?_ _;clear hS3 q A HLs K HVVs;refine noP ?_;have c1:Y.cell? ⟨F,0,none⟩=some (.int .i64 15):=(aC (i:=0) (s.b 0) rfl)
 go_wp2_with fail;clear c1;have HB6:=O (s.b 1);have HB7:=O (s.b 0);have J:=O (And.intro (s.lt 1).1 (s.lt 0).1);have HK0:Hid (aA aB w Y):=O s.keep;clear s u r M;obtain⟨S,N⟩:∃S:World->Prop,S=fun w'=>aA aB w w'/\w'.heap[V]?=some (.cells aI.toArray 27 (0,0))/\w'.heap[F]?=some (.cells #[.int .i64 15] 49 (0,0)):=⟨_,rfl⟩
 have q:=O (show ∀w',S w'->_ from fun w' h=>by rw[N] at h;exact h);have A:=O (show ∀w',_->S w' from fun w' h=>by rw[N];exact h);have z:S Y.drew:=A.out _ ⟨HK0.drew,HB6.out,HB7.out⟩;clear N HB6 HB7 HK0;refine lV (S:=S) (by kernel_rfl) ?_;change wpAnyH _ _ _ _ _ _ _ _ Y.drew;generalize Y.drew=wy at z ⊢;refine tnd 0 (.agg aI.toArray) rfl (yieldsIf_load_mid (by rfl) 27 (.tmp 6) rfl V 0 rfl aI _ (fun w' h=>aD (q.out w' h).2.1) aH rfl (szP9 aG)) z ?_;refine tnd 1 (.int .i64 15) rfl (.inl ⟨by rfl,fun w' G=>by have c:World.cell? w' ⟨F,0,none⟩=some (.int .i64 15):=aC (i:=0) (q.out w' G).2.2 rfl;go_simp⟩) z ?_;have HNE:=J;refine wA9 2 ?_;refine sta 27 (.tmp 6) (.tmp 63) V 0 aI (q.out _ z).2.1 (by rw[List.size_toArray,Nat.zero_add];exact Nat.le_refl _) (szP9 aG) (cP zPt) ?_;intro wz j E;rw[aK _ _ (by rw[List.size_toArray])] at E
 have x:S wz:=A.out _ ⟨(q.out _ z).1.trans' j (fun _ _ h=>h) (fun i H e=>by have:=J.1;omega),E,by
  by_cases e:F=V
  ·have W:=(q.out _ z).2.1;have X:=(q.out _ z).2.2
   rw[e,W] at X;cases X
  ·exact j.blk (q.out _ z).2.2 e⟩
 clear z j E;refine wpList_nil ?_;refine⟨x,?_⟩;refine wA9 3 ?_;refine sta 49 (.tmp 7) (.tmp 64) F 0 [.int .i64 15] (q.out _ x).2.2 (by simp) (by kernel_rfl) (one9) ?_;intro wu j E;replace E:wu.heap[F]?=some (.cells #[.int .i64 15] 49 (0,0)):=E
 have y:S wu:=A.out _ ⟨(q.out _ x).1.trans' j (fun _ _ h=>h) (fun i H e=>by have:=J.2;omega),by
  by_cases e:V=F
  ·have W:=(q.out _ x).2.1;have X:=(q.out _ x).2.2
   rw[e,X] at W;cases W
  ·exact j.blk (q.out _ x).2.1 e,E⟩
 clear x j E;refine wpList_nil ?_;refine⟨y,?_⟩;refine wpAnyH_done (by kernel_rfl) ?_ _;refine noP ?_;have HR:=O (q.out _ y);clear q A y;have HBK:=O HR.2.2;have HBP:=O HR.2.1;go_wp2_with fail;refine leaves_cons (f:=48) (args:=#[.pointer c,.pointer F]) (by simp) (by simp[go_sem]) ?_;refine(nI wu c F 15 _ HBK.out (by decide)).mono ?_;rintro e u' w'' ⟨rfl,rfl,j⟩;have c7:w''.cell? ⟨F,0,none⟩=some (.int .i64 15):=aC (i:=0) (j.blk HBK.out id) rfl;refine⟨_,fD rfl _ _ V _ _ _ _ rfl (j.blk HBP.out id) aH rfl (by rw[List.size_toArray,aG];exact dM) ⟨F,0,none⟩ (.int .i64 15) rfl (by go_simp),?_⟩;exact⟨rfl,HR.1.trans j⟩
theorem GJ{L:List Ad}(h:l.Nodup):((bD L Z l).map (·.dev)).Nodup:=by
 unfold bD;rw[List.map_map];have:((fun(x:Ad)=>x.dev) ∘ fun(d:Nat)=>(⟨(d:Int),(aZ L d Z).headD 0⟩:Ad))=fun(d:Nat)=>(d:Int):=rfl
 rw[this];show List.Pairwise _ _;rw[List.pairwise_map];exact h.imp fun h e=>h (by exact_mod_cast e)
theorem Jg(e:cC (cE Ls D Z) (List.replicate D true) cp=some l)(h:1≤cp)(j:cp≤3)(q:cp≤D):1≤(bD Ls Z l).length/\(bD Ls Z l).length≤3:=by
 have:=(fE e).2.1;have f:upN (List.replicate D true)=D:=by unfold upN;rw[List.countP_replicate];rfl
 rw[lP,this];unfold kS;rw[f];omega
theorem Jh(h:gS w c a m lb g b2 lc pid cp t B D Z Mm nw Ls)(ht:0≤t.u.txg/\t.u.txg<2147483648)(lv:Nat)(hlv:lv≤3)(vv:Value)(bs:List UInt8)(hbl:bs.length=256)(E:Rd w 1 vv 256 (bs.map vb))(hvb:∀i,vv.ownBlock=some i->¬B i/\¬Own g b2 lc D i)(hao:∀x,eF x D Z->eL x)(hc:cC (cE Ls D Z) (List.replicate D true) cp=some l):Calls Tryz.prog 124 #[.pointer c,.int .i64 (lv:Int),vv] w (DH w c a m lb g b2 lc pid cp t B D Z Mm nw Ls lv bs (bD Ls Z l)):=by
 have hgl:=Jg hc h.cor.cpb.1 h.cor.cpb.2.1 h.cor.cpb.2.2;have HPL:Hid (∀x∈bD Ls Z l,eF x D Z):=O fun x hx=>(Ax h.led.bd).1 (Bf h.led.bd hc hx).1
 have HDV:=O (GJ (L:=Ls) (Z:=Z) (fE hc).2.2.2.1);have HSN:=O (GI hc);have HLN:Hid (l.length=(bD Ls Z l).length):=O (lP _ _ _).symm;have HMN:=O h.many;have G:=O h.top;have HFAR:=O h.far;obtain⟨R,hgg⟩:∃R,bD Ls Z l=R:=⟨_,rfl⟩
 have HGG:=O hgg;rw[hgg] at hgl HPL HDV HSN HLN ⊢;have HGL:=O hgl;have HAO:Hid (iA R):=O fun x hx=>hao x (HPL.out x hx)
 clear hgl hgg hao;obtain⟨vp,vc,rfl,-,-⟩:=E.form;have hbd:=h.led.bd;have hcp:=h.cor.cpb;have HCK:=O (CQ (L:=Ls) hbd (List.length_replicate (n:=D) (a:=true)) hcp.1 hcp.2.1);have HCH:=O hc;have hlv0:¬((lv:Int)<0):=by omega
 have hlv1:¬((3:Int)<(lv:Int)):=by omega
 have ht1:¬((2147483648:Int)≤t.u.txg):=by omega
 have HT:=O ht;have HBL:=O hbl;have HVB:=O hvb;have HCP:=O hcp
 have HVL:Hid (∀i,(Value.slice vp 256 vc).ownBlock=some i->i<w.heap.size):=O (fun i s=>by
  obtain⟨k,h1,h2⟩:=E.lt (by rw[List.length_map,hbl];decide);rw[h1] at s;cases s;exact h2)
 have H:=O h;have q:=O E;have J:=O h;have y:=O (Loc.nil (fun k=>B k\/Own g b2 lc D k) (fun k=>B k\/Own g b2 lc D k) w);clear h E hvb ht hbl hc
 go_enter_defers Tryz.func124,Tryz.ntmps124
 go_wp2_with ((with_reducible show WL _ _);refine al 27 (.agg aI.toArray) (aI.toArray) bK ?_)
 intro b6 w1 hbs j E;replace y:=O (y.new (fun k h=>H.lt h) hbs j E);replace H:=O (H.keep0 j);replace q:=O (q.keep j fun _ _=>id);clear hbs j E
 go_wp2_with ((with_reducible show WL _ _);refine al 49 (.int .i64 0) (#[.int .i64 0]) kF ?_)
 intro b7 w2 hbs j E;replace y:=O (y.new (fun k h=>H.lt h) hbs j E);replace H:=O (H.keep0 j);replace q:=O (q.keep j fun _ _=>id);clear hbs j E;go_wp2_with fail;refine(qN H.cor.cor H.cor.arr).mono ?_;rintro e w3 ⟨rfl,j⟩;replace y:=kL y j;replace H:=O (H.keep0 j);replace q:=O (q.keep j fun _ _=>id);clear j;have c1:w3.cell? ⟨c,36,none⟩=some (.pointer g):=(bA.gv_ H.cor.cor)
 have c2:w3.cell? ⟨c,39,none⟩=some (.int .i64 t.u.txg):=(bA.txg_ H.cor.cor)
 go_wp2_with fail;clear c1 c2
 have HN7:Hid (¬(c=b7\/B c\/Own g b2 lc D c)):=O (by
  rintro (e|e|e)
  ·have:=lt_of_block J.cor.cor.top;have:=(y.lt 0).1;omega
  ·exact H.top.1 e
  ·exact(H.far c e).2.1 rfl)
 have H7B:=O (y.lt 0);have X:=O (J.fresh H7B.1);go_wp2_with fail;refine dwB (fun k=>k=b7\/B k\/Own g b2 lc D k) (by kernel_rfl) ?_;intro w4 S F K U V;replace y:=kL y V;replace H:=O (H.keep0 V);replace q:=O (q.keep V fun _ _=>id);clear V;have HLs:=y;have HIs:=H;have HVVs:=q;refine tna 0 (.pointer c) rfl U ?_;refine tnb 1 (.pointer c) rfl U ?_;refine tnb 2 (.pointer (some ⟨c,36,none⟩)) rfl U ?_;refine tnd 3 (.pointer g) rfl (.inl ⟨by rfl,fun w' hw'=>by have c:World.cell? w' ⟨c,36,none⟩=some (.pointer g):=(F.out w' hw').cell (bA.gv_ HIs.cor.cor) HN7.out;go_simp⟩) U ?_;refine tna 4 (.pointer c) rfl U ?_;refine tna 6 (.pointer c) rfl U ?_;refine tnb 7 (.pointer c) rfl U ?_;refine tnb 8 (.pointer (some ⟨c,34,none⟩)) rfl U ?_;refine tnd 9 (.int .i64 (cp:Int)) rfl (.inl ⟨by rfl,fun w' hw'=>by have c:World.cell? w' ⟨c,34,none⟩=some (.int .i64 (cp:Int)):=(F.out w' hw').cell (bA.cp_ HIs.cor.cor) HN7.out;go_simp⟩) U ?_;refine wA9 5 ?_;go_wp2_with fail;refine(AK H.cor).mono ?_;rintro e w5 ⟨v1,rfl,ho,j⟩;obtain⟨wa,wc,rfl,-,-⟩:=(Rd.of_owns ho).form;have HO:=O ho;clear ho;have hS1:=K.out _ ((F.out _ U).trans j.any);replace y:=kL y j;replace H:=O (H.keep0 j);replace q:=O (q.keep j fun _ _=>id);clear U j;go_wp2_with fail;refine⟨hS1,?_⟩;refine wA9 10 ?_;go_wp2_with fail;have H7L:=O (y.lt 0).2;have H6L:=O (y.lt 1).2;have HWS:=O y.keep.size;refine(CN w5 0 g b2 D Z lc Ls H.led (.slice wa D wc) (List.replicate D true) (cp:Int) (Jf HO.out)).mono ?_;rintro e w6 hm;unfold iM at hm;rw[if_pos HCK.out,Int.toNat_natCast,HCH.out] at hm;dsimp only at hm;obtain⟨v1,rfl,hled,ho,j⟩:=hm;rw[HGG.out] at hled ho;rw[HLN.out] at ho;obtain⟨ta,tc,rfl,-,-⟩:=(Rd.of_owns ho).form;have M:=K.out _ ((F.out _ hS1).trans (j.mono fun k _ e=>.inr (.inr e)));have N:=O (H.cor.keep j (fun i e=>⟨(H.far i e).2.1,(H.far i e).2.2.1,(H.far i e).2.2.2.1,(H.far i e).1,(H.far i e).2.2.2.2⟩));have A:=O hled;have HTN:=O (fun(i:Nat) (s:(Value.slice ta R.length tc).ownBlock=some i)=>show w.heap.size≤i from by have:=aU ho s;have:=HWS.out;omega);have Y:=O (fun(i:Nat) (s:(Value.slice ta R.length tc).ownBlock=some i)=>show b7<i from by have:=aU ho s;have:=H7L.out;omega);have HT6:=O (fun(i:Nat) (s:(Value.slice ta R.length tc).ownBlock=some i)=>show b6<i from by have:=aU ho s;have:=H6L.out;omega);have z:=O (aQ ho HWS.out);replace q:=O (q.keep j fun i s e=>(HVB.out i s).2 e);replace y:=O (y.turn (B':=(fun k=>B k\/Own g b2 lc D k)) (j.mono fun k _ e=>.inr e) (fun _ _ h=>h) (fun _ _ h=>h));clear H HO j hled ho hS1;go_wp2_with fail;refine⟨M,?_⟩;refine tna 11 (.tuple #[.slice ta R.length tc,.int .i64 0]) rfl M ?_;refine tnb 12 (.slice ta R.length tc) rfl M ?_;refine tnb 13 (.int .i64 0) rfl M ?_;refine tna 14 (.slice ta R.length tc) rfl M ?_;refine wA9 15 ?_;refine sta 49 (.tmp 7) (.tmp 60) b7 0 ([.int .i64 0]) (y.b 0) (by simp) (by kernel_rfl) (one9) ?_;intro w7 j E;replace E:w7.heap[b7]?=some (.cells #[.int .i64 0] 49 (0,0)):=E;have hS3:=K.out _ ((F.out _ M).trans' j (fun _ _ h=>h) (fun i s e=>.inl e));clear M;replace y:=O (y.set 0 j E);replace q:=O (q.keep j (fun i s e=>by have:=HVL.out i s;have:=H7B.1;omega));replace N:=O (N.keep j (fun i e=>⟨(X.out i e).1,(X.out i e).2.1,(X.out i e).2.2.1,(X.out i e).2.2.2.1,(X.out i e).2.2.2.2.2⟩));replace A:=O (A.keep j (fun i e=>(X.out i e).2.2.2.2.1));replace z:=O (j.owns z.out fun i s e=>by have:=Y.out i s;omega);clear j E;refine wpList_nil ?_;refine⟨hS3,?_⟩;refine wpAnyH_done (by kernel_rfl) ?_ _;clear hS3 F K HLs HIs HVVs;refine noP ?_;have c1:w7.cell? ⟨b7,0,none⟩=some (.int .i64 0):=(aC (i:=0) (y.b 0) rfl)
 have c2:w7.cell? ⟨c,1,none⟩=some (.pointer m):=(bA.c1 N.cor)
 go_wp2_with fail;clear c1 c2;have HWT:=O y.keep.size;have HT7L:=O (fun(i:Nat) (s:(Value.slice ta R.length tc).ownBlock=some i)=>show i<w7.heap.size from by obtain⟨k,h1,h2⟩:=(Rd.of_owns z.out).lt (by rw[fF];have:=HGL.1;omega);rw[s] at h1;cases h1;exact h2);refine(KV N.arr N.mir G.2.1 (.slice ta R.length tc) R (Rd.of_owns z.out) HPL.out HDV.out HAO.out HGL.1 HGL.2 (fun i s e=>by have:=HTN.out i s;have:=J.lt (.inl e);omega) (.slice vp 256 vc) bs HBL.out q.out (fun i s=>(HVB.out i s).1) (by have:=HMN.out;have:=HT.out;omega)).mono ?_;rintro e w8 ⟨rfl,B2,ha2,hg2,W⟩;have r:Hid (gK w8 c a m lb pid cp (.pointer g) t B2 D Z (lC bs R Mm) (nw+R.length)):=O ⟨N.cor.keep W G.1 (fun i e h=>(G.2.2.2 i h).1 e),ha2,W.blk N.mir G.2.1,W.blk N.liv G.2.2.1,N.cpb,fun d hd=>by rw[Ld bs R Mm HPL.out d];exact N.lab d hd⟩;replace A:=O (A.keep W (fun i e h=>(HFAR.out i h).1 e));replace z:=O (W.owns z.out (fun i s e=>by have:=HTN.out i s;have:=J.lt (.inl e);omega));replace q:=O (q.keep W (fun i s e=>(HVB.out i s).1 e));have HTB:=O (fun(i:Nat) (s:(Value.slice ta R.length tc).ownBlock=some i)=>show ¬B2 i/\¬Own g b2 lc D i from⟨fun e=>by have h1:=HTN.out i s;have h2:=HT7L.out i s;rcases hg2 i e with h|h;(have:=J.lt (.inl h);omega);omega,fun e=>by have h1:=HTN.out i s;have:=J.lt (.inr e);omega⟩);have HG2:=O (fun(k:Nat) (e:B2 k)=>show B k\/w.heap.size≤k from(hg2 k e).imp (fun h=>h) (fun h=>Nat.le_trans HWT.out h));replace y:=O (y.turn (B':=fun k=>B2 k\/Own g b2 lc D k) (W.mono fun k _ e=>.inl e) (fun _ _ h=>h) (fun k j e=>e.elim (fun e=>(hg2 k e).elim (fun h=>.inl h) (fun h=>absurd j (by omega))) (fun h=>.inr h)));clear N ha2 hg2 W;go_wp2_with fail
 have I:Hid (∀i,(i=b6\/i=b7)->i≠c/\i≠m/\i≠lb/\¬B2 i/\¬Own g b2 lc D i/\¬t.Own i):=O (by
  rintro i (rfl|rfl)
  ·have h:=J.fresh (y.lt 1).1 _ rfl
   exact⟨h.1,h.2.1,h.2.2.1,fun e=>((y.aq 1)) (.inl e),h.2.2.2.2⟩
  ·have h:=J.fresh (y.lt 0).1 _ rfl
   exact⟨h.1,h.2.1,h.2.2.1,fun e=>((y.aq 0)) (.inl e),h.2.2.2.2⟩)
 have HNC:Hid (¬(c=b6\/c=b7)):=O (fun e=>(I.out c e).1 rfl);have H6W:=O (y.lt 1).1;have H7W:=O (y.lt 0).1;obtain⟨dg,hdge⟩:∃l,(cZ bs).map vb=l:=⟨_,rfl⟩
 have hdg:dg.length=32:=by rw[←hdge,List.length_map,cV]
 have HDO:Hid (∀u∈dg,u.oneCell'=true):=O (by rw[←hdge];exact bS _);have HDG:=O hdge;have ht0:0≤t.u.txg:=HT.1;clear hdge X;go_wp2_with fail;refine dwB (fun k=>k=b6\/k=b7) (by kernel_rfl) ?_;intro w9 S F K U V;replace y:=kL y V;replace q:=O (q.keep V fun _ _=>id);replace A:=O (A.keep0 V);replace z:=O (V.owns z.out fun _ _=>id);replace r:=O (r.keep0 V);clear V;have HLs:=y;have HVVs:=q;have HLEs:=A;have HTRs:=z;have HCB2s:=r;refine tna 0 (.slice ta R.length tc) rfl U ?_;refine tna 1 (.pointer c) rfl U ?_;refine tnb 2 (.pointer c) rfl U ?_;refine tnb 3 (.pointer (some ⟨c,39,none⟩)) rfl U ?_;refine tnb 4 (.pointer (some ⟨c,39,none⟩)) rfl U ?_;refine tnd 5 (.int .i64 t.u.txg) rfl (.inl ⟨by rfl,fun w' hw'=>by have c:World.cell? w' ⟨c,39,none⟩=some (.int .i64 t.u.txg):=(F.out w' hw').cell (bA.txg_ HCB2s.cor) HNC.out;go_simp⟩) U ?_;refine tnd 6 (.int .i64 (t.u.txg+1)) rfl (.inl ⟨by rfl,fun _ _=>by go_simp;exact IntWalk.i64_in _ (by omega)⟩) U ?_;refine tna 7 (.int .i64 (lv:Int)) rfl U ?_;refine tna 8 (.slice vp 256 vc) rfl U ?_;refine wA9 9 ?_;go_wp2_with fail;refine(vR _ bs w9 (by rw[HBL.out];exact q.out) (by rw[HBL.out];decide)).mono ?_;rintro e wa ⟨rfl,j⟩;have hS1:=K.out _ ((F.out _ U).trans j.any);replace y:=kL y j;replace q:=O (q.keep j fun _ _=>id);replace A:=O (A.keep0 j);replace z:=O (j.owns z.out fun _ _=>id);replace r:=O (r.keep0 j);clear U j;rw[HDG.out];go_wp2_with fail;refine⟨hS1,?_⟩;refine wA9 10 ?_;refine sta 27 (.tmp 6) (.const (.agg #[.slice none 0 0,.int .i64 0,.int .i64 0,.int .u8 0,.int .u8 0,.int .u8 0,.int .u8 0,.int .u8 0,.int .u8 0,.int .u8 0,.int .u8 0,.int .u8 0,.int .u8 0,.int .u8 0,.int .u8 0,.int .u8 0,.int .u8 0,.int .u8 0,.int .u8 0,.int .u8 0,.int .u8 0,.int .u8 0,.int .u8 0,.int .u8 0,.int .u8 0,.int .u8 0,.int .u8 0,.int .u8 0,.int .u8 0,.int .u8 0,.int .u8 0,.int .u8 0,.int .u8 0,.int .u8 0,.int .u8 0])) b6 0 (aI) (y.b 1) (by simp[aG]) (szP9 aG) (cP zPt) ?_;intro wb j E;rw[aK _ _ (by rw[List.size_toArray])] at E;have M:=K.out _ ((F.out _ hS1).trans (j.mono fun k _ e=>.inl e));clear hS1;replace y:=O (y.set 1 j E);replace q:=O (q.keep j (fun i s e=>by have:=HVL.out i s;have:=H6W.out;have:=H7W.out;omega));replace A:=O (A.keep j (fun i e=>(I.out i (.inl e)).2.2.2.2.1));replace z:=O (j.owns z.out fun i s e=>by have:=Y.out i s;have:=HT6.out i s;omega);replace r:=O (r.keep j (fun i e=>have h:=I.out i (.inl e);⟨h.1,h.2.1,h.2.2.1,h.2.2.2.1,h.2.2.2.2.2⟩));clear j E;refine wpList_nil ?_;refine⟨M,?_⟩;refine tnb 11 (.pointer b6) rfl M ?_;refine wA9 12 ?_;refine sta 23 (.tmp 89) (.tmp 79) b6 0 ([.slice ta R.length tc]) (y.b 1) (by simp[aG]) (by kernel_rfl) (one9) ?_;intro wc j E;have hS3:=K.out _ ((F.out _ M).trans (j.mono fun k _ e=>.inl e));clear M;replace y:=O (y.set 1 j E);replace q:=O (q.keep j (fun i s e=>by have:=HVL.out i s;have:=H6W.out;have:=H7W.out;omega));replace A:=O (A.keep j (fun i e=>(I.out i (.inl e)).2.2.2.2.1));replace z:=O (j.owns z.out fun i s e=>by have:=Y.out i s;have:=HT6.out i s;omega);replace r:=O (r.keep j (fun i e=>have h:=I.out i (.inl e);⟨h.1,h.2.1,h.2.2.1,h.2.2.2.1,h.2.2.2.2.2⟩));clear j E;refine wpList_nil ?_;refine⟨hS3,?_⟩;refine tnb 13 (.pointer (some ⟨b6,1,none⟩)) rfl hS3 ?_;refine wA9 14 ?_;refine sta 3 (.tmp 90) (.tmp 85) b6 1 ([.int .i64 (t.u.txg+1)]) (y.b 1) (by simp[eU,aG]) (by kernel_rfl) (one9) ?_;intro wd j E;have hS4:=K.out _ ((F.out _ hS3).trans (j.mono fun k _ e=>.inl e));clear hS3;replace y:=O (y.set 1 j E);replace q:=O (q.keep j (fun i s e=>by have:=HVL.out i s;have:=H6W.out;have:=H7W.out;omega));replace A:=O (A.keep j (fun i e=>(I.out i (.inl e)).2.2.2.2.1));replace z:=O (j.owns z.out fun i s e=>by have:=Y.out i s;have:=HT6.out i s;omega);replace r:=O (r.keep j (fun i e=>have h:=I.out i (.inl e);⟨h.1,h.2.1,h.2.2.1,h.2.2.2.1,h.2.2.2.2.2⟩));clear j E;refine wpList_nil ?_;refine⟨hS4,?_⟩;refine tnb 15 (.pointer (some ⟨b6,2,none⟩)) rfl hS4 ?_;refine wA9 16 ?_;refine sta 3 (.tmp 91) (.tmp 86) b6 2 ([.int .i64 (lv:Int)]) (y.b 1) (by simp[eU,aG]) (by kernel_rfl) (one9) ?_;intro we j E;have hS5:=K.out _ ((F.out _ hS4).trans (j.mono fun k _ e=>.inl e));clear hS4;replace y:=O (y.set 1 j E);replace q:=O (q.keep j (fun i s e=>by have:=HVL.out i s;have:=H6W.out;have:=H7W.out;omega));replace A:=O (A.keep j (fun i e=>(I.out i (.inl e)).2.2.2.2.1));replace z:=O (j.owns z.out fun i s e=>by have:=Y.out i s;have:=HT6.out i s;omega);replace r:=O (r.keep j (fun i e=>have h:=I.out i (.inl e);⟨h.1,h.2.1,h.2.2.1,h.2.2.2.1,h.2.2.2.2.2⟩));clear j E;refine wpList_nil ?_;refine⟨hS5,?_⟩;refine tnb 17 (.pointer (some ⟨b6,3,none⟩)) rfl hS5 ?_;refine wA9 18 ?_;refine sta 25 (.tmp 92) (.tmp 88) b6 3 (dg) (y.b 1) (by simp[eU,aG,hdg]) (by rw[hdg];exact uU) HDO.out ?_;intro wf j E;have hS6:=K.out _ ((F.out _ hS5).trans (j.mono fun k _ e=>.inl e));clear hS5;replace y:=O (y.set 1 j E);replace q:=O (q.keep j (fun i s e=>by have:=HVL.out i s;have:=H6W.out;have:=H7W.out;omega));replace A:=O (A.keep j (fun i e=>(I.out i (.inl e)).2.2.2.2.1));replace z:=O (j.owns z.out fun i s e=>by have:=Y.out i s;have:=HT6.out i s;omega);replace r:=O (r.keep j (fun i e=>have h:=I.out i (.inl e);⟨h.1,h.2.1,h.2.2.1,h.2.2.2.1,h.2.2.2.2.2⟩));clear j E;refine wpList_nil ?_;refine⟨hS6,?_⟩;refine wA9 19 ?_;refine sta 49 (.tmp 7) (.const (.int .i64 0)) b7 0 ([.int .i64 0]) (y.b 0) (by simp) (by kernel_rfl) (one9) ?_;intro wg j E;replace E:wg.heap[b7]?=some (.cells #[.int .i64 0] 49 (0,0)):=E;have hS7:=K.out _ ((F.out _ hS6).trans (j.mono fun k _ e=>.inr e));clear hS6;replace y:=O (y.set 0 j E);replace q:=O (q.keep j (fun i s e=>by have:=HVL.out i s;have:=H6W.out;have:=H7W.out;omega));replace A:=O (A.keep j (fun i e=>(I.out i (.inr e)).2.2.2.2.1));replace z:=O (j.owns z.out fun i s e=>by have:=Y.out i s;have:=HT6.out i s;omega);replace r:=O (r.keep j (fun i e=>have h:=I.out i (.inr e);⟨h.1,h.2.1,h.2.2.1,h.2.2.2.1,h.2.2.2.2.2⟩));clear j E;refine wpList_nil ?_;refine⟨hS7,?_⟩;refine wpAnyH_done (by kernel_rfl) ?_ _;clear hS7 F K HLs HVVs HLEs HTRs HCB2s;refine noP ?_;have HBK:=O (y.b 0);have HBP:Hid (wg.heap[b6]?=some (.cells (aE (.slice ta R.length tc) ⟨R,t.u.txg+1,(lv:Int),cZ bs⟩).toArray 27 (0,0))):=O (by rw[y.b 1,←MQ _ _ (by rw[cV]),←HDG.out])
 have HPO:Hid (DH w c a m lb g b2 lc pid cp t B D Z Mm nw Ls lv bs R (.returned (.tuple #[.agg (aE (.slice ta R.length tc) ⟨R,t.u.txg+1,(lv:Int),cZ bs⟩).toArray,.int .i64 0])) wg):=O ⟨_,B2,rfl,z.out,⟨r.out,A.out,fun k j=>by
  have h:=HFAR.out k j;exact⟨fun e=>(HG2.out k e).elim h.1 (fun e=>by have:=J.lt (.inr j);omega),h.2⟩,by
  have h1:=lt_of_block J.cor.cor.top;have h2:=lt_of_block J.cor.mir;have h3:=lt_of_block J.cor.liv;exact⟨fun e=>(HG2.out c e).elim G.1 (by omega),fun e=>(HG2.out m e).elim G.2.1 (by omega),fun e=>(HG2.out lb e).elim G.2.2.1 (by omega),fun i h=>⟨fun e=>(HG2.out i e).elim (G.2.2.2 i h).1 fun e=>by have:=J.cor.cor.lst.lt h;omega,(G.2.2.2 i h).2⟩⟩,by
  have:=HSN.out;have:=HLN.out;have:=HMN.out;omega⟩,HG2.out,HTB.out,y.keep⟩
 clear y r A q z;go_wp2_with fail;refine leaves_cons (f:=48) (args:=#[.pointer c,.pointer b7]) (by simp) (by simp[go_sem]) ?_;refine(nI wg c b7 0 _ HBK.out (by decide)).mono ?_;rintro e u' w'' ⟨rfl,rfl,j⟩;have c7:w''.cell? ⟨b7,0,none⟩=some (.int .i64 0):=aC (i:=0) (j.blk HBK.out id) rfl;refine⟨_,fD rfl _ _ b6 _ _ _ _ rfl (j.blk HBP.out id) aH rfl (by rw[List.size_toArray,aJ (by rw[cV])];exact dM) ⟨b7,0,none⟩ (.int .i64 0) rfl (by go_simp),?_⟩;obtain⟨v,B3,h1,h2,h3,h4,h6,h5⟩:=HPO.out;exact⟨v,B3,h1,j.owns h2 fun _ _=>id,h3.keep0 j,h4,h6,h5.trans j.any⟩
theorem Ji(w:World)(pv:Value)(p:Pt)(x:PtV w pv p)(E:p.hole=true)(lv:Int):Calls Tryz.prog 215 #[.agg (aE pv p).toArray,.int .i64 lv] w (aN w (.bool true)):=by
 have r:=aJ (v:=pv) x.sum;obtain⟨I,H,s,-,-⟩:=x.rd.form;obtain⟨z,f⟩:∃l,aE pv p=l:=⟨_,rfl⟩
 have G:Hid (∀u∈z,u.oneCell'=true):=O (by rw[←f,s];exact cP p);have y:=O f;rw[f] at r ⊢;have h:=O x;have j:=lN w;have F:=O E;clear x f s E;go_in
 go_wp2_with ((with_reducible show WL _ _);refine bxL j 27 (.tmp 0) (z.toArray) ?_)
 intro b2 A q j;replace h:=O (h.keep q fun _ _=>id);clear q
 go_wp2_with ((with_reducible show WL _ _);refine wpList_load_mid rfl 27 (.tmp 2) rfl b2 0 rfl z _ (aD (j.b 0)) aH rfl (szP9 r) ?_)
 refine((by rw[←y.out];exact cL A pv p h.out:Calls _ _ _ A (aX A p.hole))).mono ?_;rintro e J ⟨rfl,q⟩;replace j:=kL j q;replace h:=O (h.keep q fun _ _=>id);clear q;rw[F.out];go_wp2;go_ret;exact aN.of j.keep
theorem Le(w:World)(pv:Value)(p:Pt)(y:PtV w pv p)(H:p.hole=false)(J:p.may=true)(lv:Int)(h0:0≤lv)(S:lv≤4)(I:p.level=lv-1):Calls Tryz.prog 215 #[.agg (aE pv p).toArray,.int .i64 lv] w (aN w (.bool true)):=by
 have s:=aJ (v:=pv) y.sum;obtain⟨U,R,x,-,-⟩:=y.rd.form;obtain⟨z,h⟩:∃l,aE pv p=l:=⟨_,rfl⟩
 have L:Hid (∀u∈z,u.oneCell'=true):=O (by rw[←h,x];exact cP p);have r:=O h;rw[h] at s ⊢;have f:=O y;have j:=lN w;have K:=O H;have E:=O J;have A:=O I;have M:IntKind.i64.wrap (lv-1)=lv-1:=IntWalk.i64_in _ (by omega);clear y h x H J I;go_in
 go_wp2_with ((with_reducible show WL _ _);refine bxL j 27 (.tmp 0) (z.toArray) ?_)
 intro b2 F q j;replace f:=O (f.keep q fun _ _=>id);clear q
 go_wp2_with ((with_reducible show WL _ _);refine wpList_load_mid rfl 27 (.tmp 2) rfl b2 0 rfl z _ (aD (j.b 0)) aH rfl (szP9 s) ?_)
 refine((by rw[←r.out];exact cL F pv p f.out:Calls _ _ _ F (aX F p.hole))).mono ?_;rintro e G ⟨rfl,q⟩;replace j:=kL j q;replace f:=O (f.keep q fun _ _=>id);clear q;rw[K.out]
 go_wp2_with ((with_reducible show WL _ _);refine aP (by rfl) 27 (.tmp 2) rfl b2 0 rfl z _ (aD (j.b 0)) aH rfl (szP9 s) ?_)
 refine((by rw[←r.out];exact kC G pv p f.out:Calls _ _ _ G (lQ G p.may))).mono ?_;rintro e N ⟨rfl,q⟩;replace j:=kL j q;replace f:=O (f.keep q fun _ _=>id);clear q;rw[E.out];have c1:N.cell? ⟨b2,2,none⟩=some (.int .i64 (lv-1)):=(by rw[←A.out];exact(bQ (aD (by rw[r.out];exact(j.b 0)))).2.2.1)
 go_wp2_with fail;clear c1;go_ret;exact aN.of j.keep
def cH(lv:Int)(vs:Nat->Value)(ps:Nat->Pt):List Value:=.int .i64 lv::(aE (vs 0) (ps 0)++(aE (vs 1) (ps 1)++(aE (vs 2) (ps 2)++aE (vs 3) (ps 3))))
def dK(w:World)(vs:Nat->Value)(ps:Nat->Pt):Prop:=∀k,k<4->PtV w (vs k) (ps k)
theorem dK.keep(h:dK w vs ps)(k:aA aB w w'):dK w' vs ps:=fun i e=>(h i e).keep k fun _ _=>id
theorem eE(lv:Int)(vs:Nat->Value)(h:dK w vs ps):(cH lv vs ps).length=141:=by
 simp[cH,aJ (h 0 (by omega)).sum,aJ (h 1 (by omega)).sum,aJ (h 2 (by omega)).sum,aJ (h 3 (by omega)).sum]
theorem aT{p:Pt}(h:PtV w v p):∀u∈aE v p,u.oneCell'=true:=by
 obtain⟨f,e,rfl,-,-⟩:=h.rd.form;exact cP p
theorem dQ(lv:Int)(h:dK w vs ps):∀u∈cH lv vs ps,u.oneCell'=true:=by
 intro u e;unfold cH at e;rcases List.mem_cons.1 e with rfl|e
 ·rfl
 rcases List.mem_append.1 e with e|e
 ·exact aT (h 0 (by omega)) u e
 rcases List.mem_append.1 e with e|e
 ·exact aT (h 1 (by omega)) u e
 rcases List.mem_append.1 e with e|e
 ·exact aT (h 2 (by omega)) u e
 ·exact aT (h 3 (by omega)) u e
theorem zR(h:w.rangeAt b o (v::C)):w.rangeAt b (o+1) C:=fun j u e=>by
 have:=h (j+1) u (by rw[List.getElem?_cons_succ];exact e);rw[show o+1+j=o+(j+1) by omega];exact this
theorem vG{A:List Value}(h:w.rangeAt b o (A++C))(f:A.length=n):w.rangeAt b o A/\w.rangeAt b (o+n) C:=by
 subst f;refine⟨fun j u e=>h j u (by rw[List.getElem?_append_left (List.getElem?_eq_some_iff.1 e).1];exact e),fun j u e=>?_⟩;have:=h (A.length+j) u (by rw[List.getElem?_append_right (by omega),Nat.add_sub_cancel_left];exact e);rw[show o+A.length+j=o+(A.length+j) by omega];exact this
theorem pW{w0:World}{lv:Int}(e:dK w0 vs ps)(h:w.rangeAt b 0 (cH lv vs ps))(y:k<4):w.rangeAt b (1+k*35) (aE (vs k) (ps k)):=by
 have s:=zR h;obtain⟨f,u⟩:=vG s (aJ (e 0 (by omega)).sum);obtain⟨j,x⟩:=vG u (aJ (e 1 (by omega)).sum);obtain⟨q,r⟩:=vG x (aJ (e 2 (by omega)).sum);rcases k with _|_|_|_|k
 ·exact f
 ·exact j
 ·exact q
 ·exact r
 ·omega
def jR(ps:Nat->Pt):Bool:=(ps 0).hole && (ps 1).hole && (ps 2).hole && (ps 3).hole
theorem GK(h:∀k,k<4->(ps k).hole=true):jR ps=true:=by
 unfold jR;rw[h 0 (by omega),h 1 (by omega),h 2 (by omega),h 3 (by omega)];rfl
theorem Jj(e:k<4)(h:(ps k).hole=false):jR ps=false:=by
 unfold jR;rcases k with _|_|_|_|k
 ·rw[h];rfl
 ·rw[h];simp
 ·rw[h];simp
 ·rw[h];simp
 ·omega
theorem Bx(w:World)(lv:Int)(vs:Nat->Value)(ps:Nat->Pt)(h:dK w vs ps):Calls Tryz.prog 123 #[.agg (cH lv vs ps).toArray] w (aN w (.bool (jR ps))):=by
 have R:=eE lv vs h;obtain⟨U,r⟩:∃l,cH lv vs ps=l:=⟨_,rfl⟩
 have X:Hid (∀u∈U,u.oneCell'=true):=O (by rw[←r];exact dQ lv h);have N:=O r;rw[r] at R ⊢;have s:=O h;have q:=lN w;clear h r;go_in
 go_wp2_with ((with_reducible show WL _ _);refine bxL q 98 (.tmp 0) (U.toArray) ?_)
 intro b1 w1 y q;replace s:=O (dK.keep s.out y);clear y;go_wp2_with fail;have V:=O (q.b 0);have H:=O q.keep;clear q
 go_loopw [3,4] (fun _ i wr=>∃k:Nat,k≤4/\i=.int .i64 k/\Hid (aA aB w1 wr)/\Hid (∀j,j<k->(ps j).hole=true)) (fun _ i _=>4-(intOf i).toNat)
 case atStart=>exact⟨0,by omega,rfl,O (aA.refl _ _),O (fun j hj=>by omega)⟩
 case round =>
  obtain⟨k,y,rfl,G,S⟩:=hrel
  by_cases z:k<4
  ·have K:=O (G.blk V.out id)
   have x:=O (dK.keep s.out G.out);have F:=aJ (v:=vs k) (s.out k z).sum;obtain⟨pk,f⟩:∃l,aE (vs k) (ps k)=l:=⟨_,rfl⟩
   have W:Hid (∀u∈pk,u.oneCell'=true):=O (by rw[←f];exact aT (s.out k z));have E:Hid (World.rangeAt wr b1 (1+k*35) pk):=O (by rw[←f];exact pW s.out (by rw[N.out];exact aD K.out) z);have I:=O f;rw[f] at F;have q:=lN wr;have hk0:(0:Int)≤(k:Int):=by omega
   have hk1:(k:Int)<4:=by omega
   clear f;cases J:(ps k).hole
   ·have A:=O J
    clear J
    go_wp2_with ((with_reducible show WL _ _);refine wpList_load_mid rfl 27 (.tmp 9) rfl b1 (1+k*35) rfl pk _ E.out aH rfl (szP9 F) ?_)
    refine((by rw[←I.out];exact cL wr (vs k) (ps k) (x.out k z):Calls _ _ _ wr (aX wr (ps k).hole))).mono ?_;rintro e w2 ⟨rfl,y⟩;replace q:=kL q y;replace E:=O (y.rangeAt E.out);replace x:=O (dK.keep x.out y);clear y;rw[A.out];go_wp2_with fail;have Y:=O (H.trans (G.trans q.keep));clear q E;go_wp2;go_ret;rw[Jj z A.out];exact aN.of Y.out
   ·have A:=O J
    clear J
    go_wp2_with ((with_reducible show WL _ _);refine wpList_load_mid rfl 27 (.tmp 9) rfl b1 (1+k*35) rfl pk _ E.out aH rfl (szP9 F) ?_)
    refine((by rw[←I.out];exact cL wr (vs k) (ps k) (x.out k z):Calls _ _ _ wr (aX wr (ps k).hole))).mono ?_;rintro e w2 ⟨rfl,y⟩;replace q:=kL q y;replace E:=O (y.rangeAt E.out);replace x:=O (dK.keep x.out y);clear y;rw[A.out];go_wp2_with fail;have M:=O (G.trans q.keep)
    have L:Hid (∀j,j<k+1->(ps j).hole=true):=O (fun j hj=>by
     by_cases e:j=k
     ·subst e;exact A.out
     ·exact S.out j (by omega))
    clear q E
    go_roundw
    case rel=>exact⟨k+1,by omega,by go_num,M,L⟩
    case measure=>simp[intOf];omega
  ·obtain rfl:k=4:=by omega
   go_wp2;go_ret;rw[GK S.out];exact aN.of (H.trans G.out)
def AL(lv:Int)(p:Pt):Prop:=p.hole=true\/(p.hole=false/\p.may=true/\p.level=lv-1)
theorem Lf(w:World)(pv:Value)(p:Pt)(e:PtV w pv p)(lv:Int)(h0:0≤lv)(f:lv≤4)(j:AL lv p):Calls Tryz.prog 215 #[.agg (aE pv p).toArray,.int .i64 lv] w (aN w (.bool true)):=
 j.elim (fun h=>Ji w pv p e h lv) fun h=>Le w pv p e h.1 h.2.1 lv h0 f h.2.2
theorem GL(w:World)(lv:Int)(vs:Nat->Value)(ps:Nat->Pt)(h:dK w vs ps)(h1:1≤lv)(h3:lv≤3)(hf:∀k,k<4->AL lv (ps k)):Calls Tryz.prog 165 #[.agg (cH lv vs ps).toArray] w (aN w (.int .i64 0)):=by
 have hnc:=eE lv vs h;obtain⟨nc,f⟩:∃l,cH lv vs ps=l:=⟨_,rfl⟩
 have HON:Hid (∀u∈nc,u.oneCell'=true):=O (by rw[←f];exact dQ lv h);have HNS:=O f;rw[f] at hnc ⊢;have s:=O h;have q:=lN w;have HF:=O hf;have G:Hid (∃r,nc=.int .i64 lv::r):=O ⟨_,f.symm⟩;have e1:¬lv<1:=by omega
 have e3:¬3<lv:=by omega
 clear h f hf;go_in
 go_wp2_with ((with_reducible show WL _ _);refine bxL q 98 (.tmp 0) (nc.toArray) ?_)
 intro b1 w1 A q;replace s:=O (dK.keep s.out A);clear A;have c1:w1.cell? ⟨b1,0,none⟩=some (.int .i64 lv):=(by obtain⟨r,e⟩:=G.out;exact aC (i:=0) (q.b 0) (by rw[e];rfl))
 have c2:w1.cell? ⟨b1,0,none⟩=some (.int .i64 lv):=(by obtain⟨r,e⟩:=G.out;exact aC (i:=0) (q.b 0) (by rw[e];rfl))
 go_wp2_with fail;clear c1 c2;go_wp2_with fail;have HB:=O (q.b 0);have W:=O q.keep;clear q
 go_loopw [3,12] (fun _ i wr=>∃k:Nat,k≤4/\i=.int .i64 k/\Hid (aA aB w1 wr)) (fun _ i _=>4-(intOf i).toNat)
 case atStart=>exact⟨0,by omega,rfl,O (aA.refl _ _)⟩
 case round =>
  obtain⟨k,A,rfl,V⟩:=hrel
  by_cases y:k<4
  ·have K:=O (V.blk HB.out id)
   have x:=O (dK.keep s.out V.out);have U:=aJ (v:=vs k) (s.out k y).sum;obtain⟨pk,j⟩:∃l,aE (vs k) (ps k)=l:=⟨_,rfl⟩
   have HOK:Hid (∀u∈pk,u.oneCell'=true):=O (by rw[←j];exact aT (s.out k y));have I:Hid (World.rangeAt wr b1 (1+k*35) pk):=O (by rw[←j];exact pW s.out (by rw[HNS.out];exact aD K.out) y);have J:Hid (World.cell? wr ⟨b1,0,none⟩=some (.int .i64 lv)):=O (by obtain⟨r,e⟩:=G.out;exact aC (i:=0) K.out (by rw[e];rfl));have HPK:=O j;rw[j] at U;have q:=lN wr;have hk0:(0:Int)≤(k:Int):=by omega
   have hk1:(k:Int)<4:=by omega
   clear j;go_wp2_with fail;refine dwA aB (by kernel_rfl) ?_;intro w2 S E M F z;replace q:=kL q z;replace I:=O (z.rangeAt I.out);replace x:=O (dK.keep x.out z);replace J:=O (z.cell J.out id);clear z;have Y:=q;have N:=I;have L:=x;have R:=J;refine tna 0 (.int .i64 (k:Int)) rfl F ?_;refine tnb 1 (.pointer (some ⟨b1,1,none⟩)) rfl F ?_;refine tnd 2 (.pointer (some ⟨b1,1+k*35,none⟩)) rfl (.inl ⟨by rfl,fun _ _=>by go_simp<;>omega⟩) F ?_;refine tnd 3 (.agg pk.toArray) rfl (yieldsIf_load_mid (by rfl) 27 (.tmp 17) rfl b1 (1+k*35) rfl pk _ (fun w' h=>(E.out w' h).rangeAt N.out) aH rfl (szP9 U)) F ?_;refine tnb 4 (.pointer b1) rfl F ?_;refine tnd 5 (.int .i64 lv) rfl (.inl ⟨by rfl,fun w' hw'=>by have c:World.cell? w' ⟨b1,0,none⟩=some (.int .i64 lv):=(E.out w' hw').cell R.out id;go_simp⟩) F ?_;refine wA9 6 ?_;go_wp2_with fail;refine((by rw[←HPK.out];exact Lf w2 (vs k) (ps k) (x.out k y) lv (by omega) (by omega) (HF.out k y):Calls _ _ _ w2 (aN w2 (.bool true)))).mono ?_;rintro e w3 ⟨rfl,A⟩;have H:=M.out _ ((E.out _ F).trans A);replace q:=kL q A;replace I:=O (A.rangeAt I.out);replace x:=O (dK.keep x.out A);replace J:=O (A.cell J.out id);clear F A;go_wp2_with fail;refine⟨H,?_⟩;refine tnb 7 (.bool false) rfl H ?_;refine wpAnyH_done (by kernel_rfl) ?_ _;clear H E M Y N L R;go_wp2_with fail;have X:=O (V.trans q.keep);clear q I J;go_wp2
   go_roundw
   case rel=>exact⟨k+1,by omega,by go_num,X⟩
   case measure=>simp[intOf];omega
  ·obtain rfl:k=4:=by omega
   go_wp2;go_ret;exact aN.of (W.trans V.out)
theorem nmPt   {p:Pt} (h:PtV w v p):∃c,Hid (aE v p=c)/\c.length=35/\Hid (∀u∈c,u.oneCell'=true):=⟨_,O rfl,aJ h.sum,O (aT h)⟩
theorem AM(e:List Value)(h:e.length=32):e=(List.range 32).map fun i=>e.getD i undef:=by
 apply List.ext_getElem?;intro i;rw[List.getElem?_map]
 by_cases f:i<32
 ·rw[List.getElem?_range f,List.getElem?_eq_getElem (by omega)]
  simp[List.getD,List.getElem?_eq_getElem (show i<e.length by omega)]
 ·rw[List.getElem?_eq_none (by omega),List.getElem?_eq_none (by simp;omega)];rfl
theorem GM(a m:Nat)(f:Nat->Value)(cp:Int):Tryz.prog.built vU [(0,.pointer a),(1,.pointer m),(2,.agg ((List.range 32).map f).toArray),(3,.int .i64 cp)]=some (Value.pointer a::.pointer m::((List.range 32).map f++(.int .i64 cp::.slice none 0 0::.pointer none::.slice none 0 0::.slice none 0 0::gX oK))).toArray:=by kernel_rfl
theorem Jk(a m cp:Nat)(pid:List UInt8)(h:pid.length=32)(w:World):(Instr.build vU #[(0,.pointer a),(1,.pointer m),(2,.agg (pid.map vb).toArray),(3,.int .i64 (cp:Int))]).run Tryz.prog w=.ok (.agg (eZ a m pid cp (.slice none 0 0) (.pointer none) oK).toArray) w:=by
 refine run_build w vU _ _ ?_;unfold eZ;rw[AM (pid.map vb) (by rw[List.length_map,h])];exact GM a m _ _
def By(w:World)(a:Nat)(pid:List UInt8)(cp:Nat)(e:Ending)(w':World):Prop:=∃c m,e=.returned (.pointer (some ⟨c,0,none⟩))/\bA w' c a m pid cp (.slice none 0 0) (.pointer none) oK/\eQ w' m a/\w.heap.size≤c/\w.heap.size≤m/\m<c/\aA aB w w'
theorem Lg(G:bR w a B D Z Mm nw)(pid:List UInt8)(f:pid.length=32)(cp:Nat):Calls Tryz.prog 78 #[.pointer a,.agg (pid.map vb).toArray,.int .i64 (cp:Int)] w (By w a pid cp):=by
 have E:(pid.map vb).length=32:=by rw[List.length_map];exact f
 have q:=O f;have r:=O G;have j:=lN w;clear G f;go_in
 go_wp2_with ((with_reducible show WL _ _);refine bxL j 25 (.tmp 1) ((pid.map vb).toArray) ?_)
 intro K S h j;replace r:=O (r.keep0 h);clear h;go_wp2_with fail;have z:=O j.keep.size;refine(KU r.out).mono ?_;rintro e N ⟨m,rfl,u,H,h⟩;replace j:=kL j h;replace r:=O (r.keep0 h);clear h;have F:=O H;have y:=O (Nat.le_trans z.out u);clear H u;have A:=Jk a m cp pid q.out;have s:=O j.keep;have x:=O (j.b 0);have M:m<N.heap.size:=lt_of_block F.out;clear j r
 go_wp2_with ((with_reducible show WL _ _);first
  | refine wpList_load_mid rfl 25 (.tmp 4) rfl K 0 rfl (pid.map vb) _ (aD x.out) Tryz.underlying25 rfl (by rw[E];exact uU) ?_
  | refine bld vU #[(0,.tmp 14),(1,.tmp 15),(2,.tmp 16),(3,.tmp 17)] [(0,.pointer a),(1,.pointer m),(2,.agg (pid.map vb).toArray),(3,.int .i64 (cp:Int))] (.agg (eZ a m pid cp (.slice none 0 0) (.pointer none) oK).toArray) A ?_
  | refine bx vU (.tmp 18) (eZ a m pid cp (.slice none 0 0) (.pointer none) oK).toArray ?_)
 intro c R L h I;have J:Hid (By w a pid cp (.returned (.pointer c)) R):=O ⟨c,m,rfl,⟨I,q.out,lU.zero _⟩,h.blk F.out id,by have:=s.size;omega,y.out,by omega,s.trans h⟩;clear L h I;go_wp2;go_ret;exact J.out
theorem EF(r:bR w a B D Z Mm nw)(s:w.heap[bc]?=some (.cells #[.pointer a] 40 (0,0)))(d:Int)(h0:0≤d)(u:d<(D:Int)):Calls Tryz.prog 81 #[.int .i64 d,.pointer bc] w (aN w (.bool false)):=by
 have f:=O (cell_of_one s);have x:Hid ((decide (0≤d) && decide (d<(D:Int)))=true):=O (by rw[decide_eq_true h0,decide_eq_true u];rfl);have j:=O r;have q:=lN w;clear r s h0 u;go_in;have c1:w.cell? ⟨bc,0,none⟩=some (.pointer a):=f.out;go_wp2_with fail;clear c1;refine(OE j.out d).mono ?_;rintro e y ⟨rfl,h⟩;replace q:=kL q h;replace j:=O (j.keep0 h);replace f:=O (h.cell f.out id);clear h;rw[x.out];go_wp2;go_ret;exact aN.of q.keep
theorem GN(w:World)(v:Value)(l:List Int)(j:Rd w 1 v l.length (l.map fun x=>.int .i64 x))(S:l.length≤65536)(gf bc:Nat)(eg:∀args w,(callFunc gf args).run Tryz.prog w=.ok (.enter gf args) w)(h:∀x∈l,∀w',aA aB w w'->Calls Tryz.prog gf #[.int .i64 x,.pointer bc] w' (aN w' (.bool false))) :
 Calls Tryz.prog 117 #[v,.func (.func gf) #[] #[.pointer bc]] w (aN w (.int .i64 (-1))):=by
 obtain⟨Y,I,rfl,-,-⟩:=j.form;obtain⟨n,F⟩:∃n,l.length=n:=⟨_,rfl⟩
 have L:=O F;rw[F] at j S ⊢;have X:n≤I:=by obtain⟨_,a',c',N,R,h3,-⟩:=j;cases N;exact R
 have M:=O j;have A:=O h;clear j h F;go_in;go_wp2_with fail
 go_loopw [5,8] (fun _ i wr=>∃k:Nat,k≤n/\i=.int .i64 k/\Hid (aA aB w wr)) (fun _ i _=>n-(intOf i).toNat)
 case atStart=>exact⟨0,by omega,rfl,O (aA.refl _ _)⟩
 case round =>
  obtain⟨k,y,rfl,q⟩:=hrel
  by_cases E:k<n
  ·obtain⟨x,G⟩:∃x,l[k]?=some x:=⟨l[k]'(by rw[L.out];exact E),List.getElem?_eq_getElem _⟩
   obtain⟨g,o,J,K,f⟩:=oZ M.out (k:=k) (u:=.int .i64 x) (by rw[List.getElem?_map,G];rfl);obtain rfl:Y=some ⟨g,o,none⟩:=by cases K;rfl
   have s:=O (q.cell f id);have H:=O (A.out x (List.mem_of_getElem? G) wr q.out);have r:=lN wr;have U:(0:Int)≤(k:Int):=by omega
   have V:(k:Int)<(n:Int):=by omega
   have W:(k:Int)≤(I:Int):=by omega
   clear G f K;have c1:wr.cell? ⟨g,o+k,none⟩=some (.int .i64 x):=s.out;go_wp2_with fail;clear c1;refine(H.out).mono ?_;rintro e w1 ⟨rfl,y⟩;replace r:=kL r y;replace s:=O (y.cell s.out id);clear y;go_wp2_with fail;have z:=O (q.trans r.keep);clear r H s
   go_roundw
   case rel=>exact⟨k+1,by omega,by go_num,z⟩
   case measure=>simp[intOf];omega
  ·obtain rfl:k=n:=by omega
   go_wp2;go_ret;exact aN.of q.out
theorem EG(w:World)(v:Value)(l:List Int)(r:Rd w 1 v l.length (l.map fun x=>.int .i64 x))(j:l.length≤65536)(gf bc:Nat)(u:∀args w,(callFunc gf args).run Tryz.prog w=.ok (.enter gf args) w)(f:∀x∈l,∀w',aA aB w w'->Calls Tryz.prog gf #[.int .i64 x,.pointer bc] w' (aN w' (.bool false))) :
 Calls Tryz.prog 79 #[v,.func (.func gf) #[] #[.pointer bc]] w (aN w v):=by
 have s:=O (GN w v l r j gf bc u f);have h:=lN w;clear r f j;go_in;go_wp2_with fail;refine(s.out).mono ?_;rintro e y ⟨rfl,q⟩;replace h:=kL h q;clear q;go_wp2;go_ret;exact aN.of h.keep
end
end Go.Proofs.YtiinnfhjpaeffaaGreat
