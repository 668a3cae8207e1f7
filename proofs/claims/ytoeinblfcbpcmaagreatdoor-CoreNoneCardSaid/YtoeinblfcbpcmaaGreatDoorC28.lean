import Derived.Test.YtoeinblfcbpcmaaGreatDoorC25
import Derived.Test.YtoeinblfcbpcmaaGreatDoorC27
namespace Go.Proofs.YtoeinblfcbpcmaaGreatDoor
open Tryz
set_option maxHeartbeats 0
set_option maxRecDepth 100000
set_option linter.unusedVariables false
section
open Go.RowKit Go.Maps Go.ChangeMaps
variable{w:World}{i:Nat}
theorem bs1{P:Program}{ops:Array Oper}{rest:List Oper}{o:Oper}{a:Act}{Q:Exit->Act->World->Prop}(t e:TypeId)(x:Operand)(v:Value)(f:(P.info? e).map (·.size)=some 1)(s:((P.info? e).bind (·.zero)).isSome=true)(q:P.underlying t=some (.slice e))(A:v.cells=#[v])
 (h:∀b w',w.heap.size=b->aA aB w w'->w'.heap[b]?=some (.cells #[v] e (0,0))->wpList P ops Q rest (a.put o.dst (.slice (some ⟨b,0,none⟩) 1 1)) w') (F:a.eval x=v:=by rfl) (C:o.guard=none:=by rfl) (E:o.op=.buildSlice t 1 #[(0,x)]:=by rfl):wpList P ops Q (o::rest) a w:=by
 cases j:P.info? e with
 | none=>simp[j] at f
 | some G =>
   simp only[j,Option.map_some,Option.some.injEq,Option.bind_some] at f s;obtain⟨z,r⟩:=Option.isSome_iff_exists.1 s;refine wpList_buildSlice C t e 1 _ E #[v] G z q j r (by rw[f];omega) (by rw[f];omega) ?_ (h _ _ rfl ((aA.refl _ _).alloc _) (heap_alloc_new _ _));rw[f];have y:((#[((0:Nat),x)]:Array (Nat×Operand)).map fun(i,x)=>(i,a.eval x)).toList=([v].zipIdx 0).map fun x=>(x.2,x.1):=by simp[F]
   rw[y];exact Great.fill_flat [v] _ (fun u q=>by rcases List.mem_singleton.1 q with rfl;exact A) (by simp)
abbrev vI:TypeId:=73
structure Lst where
 rv:Value
 u:Ub
 ov:Value
 ol:List Ad
 vv:Value
 vl:List Ad
def lJ:Lst:=⟨.slice none 0 0,⟨0,zPt,0,List.replicate 32 0⟩,.slice none 0 0,[],.slice none 0 0,[]⟩
def Lst.Own(t:Lst)(i:Nat):Prop:=t.rv.ownBlock=some i\/t.ov.ownBlock=some i\/t.vv.ownBlock=some i
theorem rL:¬lJ.Own i:=fun h=>by rcases h with h|h|h<;>cases h
structure kN(w:World)(t:Lst):Prop where
 ub:UbV w t.rv t.u
 old:Rd w 2 t.ov t.ol.length (aJ t.ol)
 live:Rd w 2 t.vv t.vl.length (aJ t.vl)
 oads:jF t.ol
 lads:jF t.vl
 isc:∀i,t.Own i->∃cs T,w.heap[i]?=some (.cells cs T (0,0))
 few:t.u.root.addrs.length≤65536/\t.ol.length≤65536/\t.vl.length≤65536
theorem kN.keep{T:Nat->Prop}{w':World}{t:Lst}(h:kN w t)(k:aA T w w')(f:∀i,T i->¬t.Own i):kN w' t:=
 ⟨h.ub.keep k fun i b e=>f i e (.inl b),h.old.keep k fun i b e=>f i e (.inr (.inl b)),h.live.keep k fun i b e=>f i e (.inr (.inr b)),h.oads,h.lads,fun i b=>by
  obtain⟨j,T,o⟩:=h.isc i b;exact⟨j,T,k.blk o fun e=>f i e b⟩,h.few⟩
theorem kN.zero(w:World):kN w lJ:=⟨⟨⟨Rd.nil w 2,fun x b=>(by cases b),rfl⟩,rfl⟩,Rd.nil w 2,Rd.nil w 2,fun x b=>(by cases b),fun x b=>(by cases b),fun i e=>by (rcases e with h|h|h<;>cases h),by decide⟩
theorem kN.lt{t:Lst}(h:kN w t)(e:t.Own i):i<w.heap.size:=by
 obtain⟨f,T,b⟩:=h.isc i e;exact lt_of_block b
def eF(t:Lst):List Value:=aV t.rv t.u++[.bool false]
theorem gT{t:Lst}(h:kN w t):(eF t).length=70:=by
 unfold eF;rw[List.length_append,bZ h.ub.root.sum h.ub.pool];rfl
def dZ(a m:Nat)(pid:List UInt8)(cp:Nat)(lv gv:Value)(t:Lst):List Value:=
 .pointer a::.pointer m::(pid.map vb++(.int .i64 (cp:Int)::lv::gv::t.ov::t.vv::eF t))
structure aT(w:World)(c a m:Nat)(pid:List UInt8)(cp:Nat)(lv gv:Value)(t:Lst):Prop where
 top:w.heap[c]?=some (.cells (dZ a m pid cp lv gv t).toArray vI (0,0))
 idl:pid.length=32
 lst:kN w t
section
variable {w:World}{c a m:Nat}{pid:List UInt8}{cp:Nat}{lv gv:Value}{t:Lst}
variable{w':World}
theorem aT.keep{T:Nat->Prop}(h:aT w c a m pid cp lv gv t)(k:aA T w w')(e:¬T c)(b:∀i,T i->¬t.Own i):aT w' c a m pid cp lv gv t:=⟨k.blk h.top e,h.idl,h.lst.keep k b⟩
theorem aT.keep0(h:aT w c a m pid cp lv gv t)(k:aA aB w w'):aT w' c a m pid cp lv gv t:=h.keep k (fun h=>h) fun _ h=>h.elim
theorem gL(h:pid.length=32)(b:(eF t).length=70):(dZ a m pid cp lv gv t).length=109:=by
 unfold dZ;simp only[List.length_cons,List.length_append,List.length_map,h,b]
theorem aT.c0(h:aT w c a m pid cp lv gv t):w.cell? ⟨c,0,none⟩=some (.pointer a):=aC h.top rfl
theorem aT.c1(h:aT w c a m pid cp lv gv t):w.cell? ⟨c,1,none⟩=some (.pointer m):=aC h.top rfl
theorem aT.id_(h:aT w c a m pid cp lv gv t):w.rangeAt c 2 (pid.map vb):=fun j v b=>by
 refine aC h.top ?_;rw[List.getElem?_toArray];unfold dZ;have e:2+j=j+1+1:=by omega
 rw[e,List.getElem?_cons_succ,List.getElem?_cons_succ,List.getElem?_append_left (List.getElem?_eq_some_iff.1 b).1];exact b
theorem aT.at_(h:aT w c a m pid cp lv gv t){k:Nat}{v:Value}(f:(.int .i64 (cp:Int)::lv::gv::t.ov::t.vv::eF t)[k]?=some v):w.cell? ⟨c,34+k,none⟩=some v:=by
 refine aC h.top ?_;rw[List.getElem?_toArray];unfold dZ;have e:34+k=(32+k)+1+1:=by omega
 have j:(pid.map vb).length=32:=by rw[List.length_map,h.idl]
 rw[e,List.getElem?_cons_succ,List.getElem?_cons_succ,List.getElem?_append_right (by omega),j];have b:32+k-32=k:=by omega
 rw[b];exact f
theorem aT.cp_(h:aT w c a m pid cp lv gv t):w.cell? ⟨c,34,none⟩=some (.int .i64 (cp:Int)):=h.at_ (k:=0) rfl
theorem aT.lv_(h:aT w c a m pid cp lv gv t):w.cell? ⟨c,35,none⟩=some lv:=h.at_ (k:=1) rfl
theorem aT.gv_(h:aT w c a m pid cp lv gv t):w.cell? ⟨c,36,none⟩=some gv:=h.at_ (k:=2) rfl
theorem aT.old_(h:aT w c a m pid cp lv gv t):w.cell? ⟨c,37,none⟩=some t.ov:=h.at_ (k:=3) rfl
theorem aT.live_(h:aT w c a m pid cp lv gv t):w.cell? ⟨c,38,none⟩=some t.vv:=h.at_ (k:=4) rfl
theorem aT.txg_(h:aT w c a m pid cp lv gv t):w.cell? ⟨c,39,none⟩=some (.int .i64 t.u.txg):=h.at_ (k:=5) rfl
theorem aT.ub_(h:aT w c a m pid cp lv gv t):w.rangeAt c 39 (aV t.rv t.u):=fun j v b=>by
 have e:39+j=34+(j+5):=by omega
 rw[e];refine h.at_ ?_;simp only[List.getElem?_cons_succ];unfold eF;rw[List.getElem?_append_left (List.getElem?_eq_some_iff.1 b).1];exact b
theorem aT.out_(h:aT w c a m pid cp lv gv t):w.cell? ⟨c,108,none⟩=some (.bool false):=h.at_ (k:=74) (by
 have b:=bZ h.lst.ub.root.sum h.lst.ub.pool (v:=t.rv);simp only[List.getElem?_cons_succ];unfold eF;rw[List.getElem?_append_right (by omega),b];rfl)
end
variable{w w':World}{c a m cp D Z nw n d lb k bc g b2:Nat}{pid:List UInt8}{lv gv v yv:Value}{t:Lst}{B T:Nat->Prop}{Mm:Nat->Nat->List UInt8}{xs:List Value}{Q:Exit->Act->World->Prop}{P:Program}{ops:Array Oper}{fn:Func}{p:Tmp}{lc:Nat->Option Nat}{Ls:List Ad}{th:List Bool}{l:List Nat}
theorem xS(h:aT w c a m pid cp lv gv t):Calls prog 49 #[.pointer c] w (aN w (.bool false)):=by
 have b:=O h;have e:=lN w;clear h;go_in;have c1:w.cell? ⟨c,0,none⟩=some (.pointer a):=(aT.c0 b.out)
 go_wp2_with fail;clear c1;go_ret;exact aN.of e.keep
theorem xU(j:bE w a B D Z Mm nw):Calls prog 68 #[.pointer a] w (aN w (.bool false)):=by
 have b:=O j;have f:=lN w;clear j;go_in;go_wp2_with fail;refine(Pg b.out).mono ?_;rintro e o ⟨rfl,h⟩;replace f:=kL f h;replace b:=O (b.keep0 h);clear h;go_wp2;go_ret;exact aN.of f.keep
theorem kO(h:aT w c a m pid cp lv gv t)(q:bE w a B D Z Mm nw):Calls prog 40 #[.pointer c] w (aN w (.int .i64 0)):=by
 have f:=O h;have j:=O q;have o:=lN w;clear h q;go_in;go_wp2_with fail;refine(xS f.out).mono ?_;rintro e r ⟨rfl,b⟩;replace o:=kL o b;replace f:=O (f.keep0 b);replace j:=O (j.keep0 b);clear b;have c1:r.cell? ⟨c,108,none⟩=some (.bool false):=(aT.out_ f.out)
 have c2:r.cell? ⟨c,0,none⟩=some (.pointer a):=(aT.c0 f.out)
 go_wp2_with fail;clear c1 c2;refine(xU j.out).mono ?_;rintro e s ⟨rfl,b⟩;replace o:=kL o b;replace f:=O (f.keep0 b);replace j:=O (j.keep0 b);clear b;go_wp2;go_ret;exact aN.of o.keep
theorem C7(h:aT w c a m pid cp lv gv t)(q:bE w a B D Z Mm nw)(g:Nat)(r:gv=.pointer g):Calls prog 36 #[.pointer c] w (aN w (.int .i64 0)):=by
 subst r;have b:=O h;have j:=O q;have o:=lN w;clear h q;go_in;go_wp2_with fail;refine(kO b.out j.out).mono ?_;rintro e s ⟨rfl,f⟩;replace o:=kL o f;replace b:=O (b.keep0 f);replace j:=O (j.keep0 f);clear f;have c1:s.cell? ⟨c,36,none⟩=some (.pointer g):=(aT.gv_ b.out)
 go_wp2_with fail;clear c1;go_ret;exact aN.of o.keep
theorem Nq:(prog.info? 3).map (fun i=>(i.zero,i.size,i.bytes))=some (some (.int .i64 0),1,8):=by kernel_rfl
theorem KW:(prog.info? 4).map (fun i=>(i.zero,i.size,i.bytes))=some (some (.bool false),1,1):=by kernel_rfl
def sF(k:Nat):List Value:=(List.range k).map fun(i:Nat)=>Value.int .i64 (i:Int)
theorem IN(k:Nat):sF (k+1)=sF k++[.int .i64 (k:Int)]:=by unfold sF;rw[List.range_succ,List.map_append];rfl
theorem AM{wr b f:World}{T:TypeId}(h:aA aB w wr)(j:b.ownsRow w.heap.size T 1 v n xs)(k:aA aB wr b)(o:aA (fun k=>v.ownBlock=some k) b f):aA aB w f:=
 (h.trans k).tT o (fun i q e=>by have:=bG j e;omega)
def Nr(w:World)(D:Nat)(e:Ending)(w':World):Prop:=∃v,e=.returned v/\w'.ownsRow w.heap.size 3 1 v D (sF D)/\aA aB w w'
theorem pJ(h:aT w c a m pid cp lv gv t)(L:bE w a B D Z Mm nw):Calls prog 75 #[.pointer c] w (Nr w D):=by
 have V:=L.bd;have C:=O h;have A:=O L;have b:=lN w;clear h L;go_in;have c1:w.cell? ⟨c,0,none⟩=some (.pointer a):=(aT.c0 C.out)
 go_wp2_with fail;clear c1;refine(iW A.out).mono ?_;rintro e w1 ⟨rfl,f⟩;replace b:=kL b f;replace C:=O (C.keep0 f);replace A:=O (A.keep0 f);clear f;go_wp2_with fail;have G:=O b.keep;clear b C A
 go_loopw [3,10] (fun v i wr=>∃(k:Nat) (p:Option Addr) (E:Nat),k≤D/\i=.int .i64 k/\v=.slice p k E/\Hid (aA aB w wr)/\Hid (wr.ownsRow w.heap.size 3 1 (.slice p k E) k (sF k))) (fun _ i _=>D-(intOf i).toNat)
 case atStart=>exact⟨0,none,0,by omega,rfl,rfl,G,O (World.ownsRow_nil _ _ _ _)⟩
 case round =>
  obtain⟨k,p,E,f,rfl,rfl,F,r⟩:=hrel
  by_cases X:k<D
  ·have b:=lN wr
   have S:=O F.size;have W:(k:Int)<(D:Int):=by omega
   go_wp2_with ((with_reducible show WL _ _);refine bs1 54 3 (.tmp 14) (.int .i64 (k:Int)) (by kernel_rfl) (by kernel_rfl) underlying54 rfl ?_)
   intro x w2 y f R;replace b:=lW b y f R;replace r:=O (f.owns r.out fun _ _=>id);clear y f R;have o:Rd w2 1 (.slice x 1 1) 1 [.int .i64 (k:Int)]:=eL (n:=1) (size:=1) (b.b 0) rfl (by unfold maxLen;omega);have j:=O o;have K:=r;have s:=O b.keep;clear o
   go_wp2_with (first
    | (at_builtin;refine aK rfl (.tmp 13) (.tmp 15) 54 rfl w.heap.size 3 (.int .i64 0) 1 8 underlying54 Nq rfl (by decide) (.slice p k E) k (sF k) rfl r.out (.slice x 1 1) 1 [.int .i64 (k:Int)] rfl j.out (by intro u Y;rcases List.mem_singleton.1 Y with rfl;rfl) (by unfold maxLen;omega) (by omega) (Nat.le_trans S.out s.size) ?_))
   intro v2 w8 q z N M;obtain⟨U,c2,rfl⟩:=ownsRow_succ q;have J:=O q;have H:=O z;clear q z N M j b r;go_wp2_with fail;have I:=O (AM F.out K.out s.out H.out)
   go_roundw
   case rel=>exact⟨k+1,some ⟨U,0,none⟩,c2,by omega,by go_num,rfl,I,by rw[IN];exact J⟩
   case measure=>simp[intOf];omega
  ·obtain rfl:k=D:=by omega
   go_wp2;go_ret;exact⟨_,rfl,r.out,F.out⟩
def cG(pid:List UInt8)(d D cp Z:Nat):Lab:=⟨pid,(d:Int),(D:Int),(cp:Int),(Z:Int),0⟩
theorem qI(j:d<D)(f:2≤D/\D≤8/\8≤Z/\Z≤4096)(b:1≤cp)(e:cp≤3)(h:cp≤D):(cG pid d D cp Z).may=true:=by
 unfold Lab.may cG;simp only[decide_eq_true_eq];omega
def G1(w:World)(L:Lab)(e:Ending)(w':World):Prop:=e=.returned (.tuple #[.agg L.cells.toArray,.bool true])/\aA aB w w'
theorem xV(ha:bE w a B D Z Mm nw)(y:pid.length=32)(hd:d<D)(N:1≤cp/\cp≤3/\cp≤D)(H:Mm d 0=dL (cG pid d D cp Z)) :
 Calls prog 50 #[.pointer a,.int .i64 (d:Int)] w (G1 w (cG pid d D cp Z)):=by
 have ql:=ha.bd;have E:=qI (pid:=pid) hd ql N.1 N.2.1 N.2.2;have qj:=O (Ff (cG pid d D cp Z) y E);have W:=O H;have qa:=O y;have X:=O E;have qi:=O (ha.len hd (show 0<Z by omega));have qe:=O hd;have qk:=O (show 0<Z by omega);obtain⟨lc,o⟩:=zX9 ((cG pid d D cp Z).cells)
 have A:lc.length=37:=by rw[←o];exact Lab.cells_length _ y
 have Y:Hid (∀u∈lc,u.oneCell'=true):=O (by rw[←o];exact jT _);have q:∀i,lc.toArray[32+i]?=(cG pid d D cp Z).nums[i]?:=fun i=>by rw[List.getElem?_toArray,←o];exact Lab.cells_num _ y i
 have I:Hid (lc.toArray[32]?=some (.int .i64 (d:Int))):=O (q 0);have J:Hid (lc.toArray[33]?=some (.int .i64 (D:Int))):=O (q 1);have qg:Hid (lc.toArray[34]?=some (.int .i64 (cp:Int))):=O (q 2);have K:Hid (lc.toArray[35]?=some (.int .i64 (Z:Int))):=O (q 3);have qh:Hid (lc.toArray[36]?=some (.int .i64 0)):=O (q 4);have qf:=O o;have j:=O ha;have f:=lN w;unfold G1;rw[o];clear ha E H o q y;have V:=j;go_in
 go_wp2_with refine alM f (O kZ) ?_
 intro b4 w1 b f;replace j:=O (j.keep0 b);clear b;go_wp2_with fail;refine(OC j.out qe.out qk.out).mono ?_;rintro e w2 ⟨v0,rfl,ho,b⟩;obtain⟨pv,cv,rfl,-,-⟩:=(Rd.of_owns ho).form;have U:=O ho;clear ho;replace f:=kL f b;replace j:=O (j.keep0 b);clear b;go_wp2_with fail;refine(DT w2 (.slice pv 256 cv) (cG pid d D cp Z) qa.out X.out (Mm d 0) W.out (by rw[qi.out];exact Rd.of_owns U.out)).mono ?_;rintro e w3 ⟨rfl,b⟩;replace f:=kL f b;replace j:=O (j.keep0 b);replace U:=O (b.owns U.out fun _ _=>id);clear b;rw[W.out,qj.out];dsimp only;rw[qf.out]
 go_wp2_with ((with_reducible show WL _ _);refine alW (O kZ) A oQ (by rw[A];exact gF) Y.out ?_)
 intro L w5 qc b hb
 replace f:=lW f qc b hb;replace j:=O (j.keep0 b);replace U:=O (b.owns U.out fun _ _=>id);clear qc b hb;clear U;go_wp2_with fail;refine dwA (fun k=>k=b4) (by kernel_rfl) ?_;intro w6 S x G z R;replace f:=kL f R;replace j:=O (j.keep0 R);clear R;have r:=f;have qd:=j;refine tnd 0 (.agg lc.toArray) rfl (yieldsIf_load_mid (by rfl) 112 (.tmp 8) rfl L 0 rfl lc _ (fun w' h=>aD ((x w' h).blk (r.b 0) (fun e=>by exact fH (i:=1) r.nd rfl 0 (by decide) rfl e))) underlying112 rfl (by rw[A];exact gF)) z ?_;refine tna 1 (.int .i64 0) rfl z ?_;refine tnb 2 (.bool true) rfl z ?_;refine tna 3 (.bool true) rfl z ?_;refine tnb 4 (.pointer (some ⟨L,32,none⟩)) rfl z ?_;refine tnd 5 (.int .i64 (d:Int)) rfl (.inl ⟨by rfl,fun w' F=>by have c:World.cell? w' ⟨L,32,none⟩=some (.int .i64 (d:Int)):=(aC (i:=32) ((x w' F).blk (r.b 0) (fun e=>by exact fH (i:=1) r.nd rfl 0 (by decide) rfl e)) (I.out));go_simp⟩) z ?_;refine tna 6 (.int .i64 (d:Int)) rfl z ?_;refine tnb 7 (.bool true) rfl z ?_;refine tna 8 (.bool true) rfl z ?_;refine tna 9 (.bool true) rfl z ?_;refine tnb 10 (.pointer (some ⟨L,33,none⟩)) rfl z ?_;refine tnd 11 (.int .i64 (D:Int)) rfl (.inl ⟨by rfl,fun w' F=>by have c:World.cell? w' ⟨L,33,none⟩=some (.int .i64 (D:Int)):=(aC (i:=33) ((x w' F).blk (r.b 0) (fun e=>by exact fH (i:=1) r.nd rfl 0 (by decide) rfl e)) (J.out));go_simp⟩) z ?_;refine tna 12 (.pointer a) rfl z ?_;refine wA9 13 ?_;go_wp2_with fail;refine(iW j.out).mono ?_;rintro e w7 ⟨rfl,b⟩;have s:=G.out _ ((x _ z).trans b.any);replace f:=kL f b;replace j:=O (j.keep0 b);clear z b;go_wp2_with fail;refine⟨s,?_⟩;refine tnb 14 (.bool true) rfl s ?_;refine tna 15 (.bool true) rfl s ?_;refine tna 16 (.bool true) rfl s ?_;refine tnb 17 (.pointer (some ⟨L,35,none⟩)) rfl s ?_;refine tnd 18 (.int .i64 (Z:Int)) rfl (.inl ⟨by rfl,fun w' F=>by have c:World.cell? w' ⟨L,35,none⟩=some (.int .i64 (Z:Int)):=(aC (i:=35) ((x w' F).blk (r.b 0) (fun e=>by exact fH (i:=1) r.nd rfl 0 (by decide) rfl e)) (K.out));go_simp⟩) s ?_;refine tna 19 (.pointer a) rfl s ?_;refine wA9 20 ?_;go_wp2_with fail;refine(tU j.out).mono ?_;rintro e w8 ⟨rfl,b⟩;have C:=G.out _ ((x _ s).trans b.any);replace f:=kL f b;replace j:=O (j.keep0 b);clear s b;go_wp2_with fail;refine⟨C,?_⟩;refine tnb 21 (.bool true) rfl C ?_;refine tna 22 (.bool true) rfl C ?_;refine wA9 23 ?_;refine stW (f.b 1) A oQ (by rw[A];exact gF) Y.out ?_;intro w9 b hb;have M:=G.out _ ((x _ C).tT b (fun i hi e=>(e)));clear C;replace f:=O (f.set 1 b hb);replace j:=O (V.keep0 f.keep);clear b hb;refine wpList_nil ?_;refine⟨M,?_⟩;refine tna 24 (.bool true) rfl M ?_;refine wpAnyH_done (by kernel_rfl) ?_ _;clear M x G r qd;have HR:Hid (aA aB w w9):=O f.keep;have HB:=O (f.b 1);clear f j V;go_wp2_with fail;refine bodyPost_ret (bO rfl _ _ b4 _ _ _ _ rfl HB.out underlying112 rfl (by rw[List.size_toArray,A];exact gF)) rfl ?_;exact⟨rfl,HR.out⟩
def vJ(w:World)(lb:Nat)(yv:Value)(D:Nat):Prop:=∃b T,w.heap[lb]?=some (.cells b T (0,0))/\T≠vI/\(yv=.slice none 0 0\/(yv=.slice lb D D/\T=3/\b=Array.replicate D (.int .i64 0)))
theorem vJ.keep(h:vJ w lb yv D)(k:aA T w w')(j:¬T lb):vJ w' lb yv D:=by
 obtain⟨b,U,e,f⟩:=h;exact⟨b,U,k.blk e j,f⟩
theorem vJ.lt(h:vJ w lb yv D):lb<w.heap.size:=by
 obtain⟨e,U,b,f⟩:=h;exact lt_of_block b
theorem vJ.ne{e:Array Value}(h:vJ w lb yv D)(r:w.heap[c]?=some (.cells e vI (0,0))):lb≠c:=by
 rintro rfl;obtain⟨f,U,b,j,-⟩:=h;rw[r] at b;have o:=Option.some.inj b;injection o with s q
 exact j q.symm
theorem nC(ha:bE w a B D Z Mm nw)(h:aT w c a m pid cp yv gv t)(qa:vJ w lb yv D)(hd:d<D)(G:1≤cp/\cp≤3/\cp≤D)(I:Mm d 0=dL (cG pid d D cp Z)) :
 Calls prog 16 #[.pointer c,.int .i64 (d:Int)] w (aN w (.bool true)):=by
 have qj:=ha.bd;have y:=h.idl;have J:=qI (pid:=pid) hd qj G.1 G.2.1 G.2.2;have qm:(0:Int)≤(d:Int):=by omega
 have qn:(d:Int)<(D:Int):=by omega
 have qi:Hid (rK (cG pid d D cp Z) pid (d:Int) 0=true):=O (by unfold rK;rw[J];simp[cG]);obtain⟨lc,x⟩:=zX9 ((cG pid d D cp Z).cells)
 have V:lc.length=37:=by rw[←x];exact Lab.cells_length _ y
 have qh:Hid (∀u∈lc,u.oneCell'=true):=O (by rw[←x];exact jT _);have o:∀i,lc.toArray[32+i]?=(cG pid d D cp Z).nums[i]?:=fun i=>by rw[List.getElem?_toArray,←x];exact Lab.cells_num _ y i
 have qe:Hid (lc.toArray[32]?=some (.int .i64 (d:Int))):=O (o 0);have qf:Hid (lc.toArray[33]?=some (.int .i64 (D:Int))):=O (o 1);have L:Hid (lc.toArray[34]?=some (.int .i64 (cp:Int))):=O (o 2);have qg:Hid (lc.toArray[35]?=some (.int .i64 (Z:Int))):=O (o 3);have M:Hid (lc.toArray[36]?=some (.int .i64 0)):=O (o 4);have X:=O x;have qd:=O I;have qc:=O G;have HD:=O hd;have ql:(pid.map vb).length=32:=by rw[List.length_map];exact y
 have F:=O y;have A:=O qa;have q:=O h;have z:=O ha;have r:=lN w;clear ha h J I x o y G qa;go_in;go_wp2_with fail;refine(xS q.out).mono ?_;rintro e w1 ⟨rfl,b⟩;replace r:=kL r b;replace q:=O (q.keep0 b);replace z:=O (z.keep0 b);replace A:=O (A.keep b id);clear b;have c1:w1.cell? ⟨c,0,none⟩=some (.pointer a):=(aT.c0 q.out)
 go_wp2_with fail;clear c1;refine(xV z.out F.out HD.out qc.out qd.out).mono ?_;rintro e w2 ⟨rfl,b⟩;replace r:=kL r b;replace q:=O (q.keep0 b);replace z:=O (z.keep0 b);replace A:=O (A.keep b id);clear b;rw[X.out]
 go_wp2_with ((with_reducible show WL _ _);refine alW (O kZ) V oQ (by rw[V];exact gF) qh.out ?_)
 intro b5 w4 Y b hb
 replace r:=lW r Y b hb;replace q:=O (q.keep0 b);replace z:=O (z.keep0 b);replace A:=O (A.keep b id);clear Y b hb;go_wp2_with fail;refine dwA aB (by kernel_rfl) ?_;intro w5 S s H j f;replace r:=kL r f;replace q:=O (q.keep0 f);replace z:=O (z.keep0 f);replace A:=O (A.keep f id);clear f;have E:=r;have C:=q;have K:=z;have N:=A;refine tna 0 (.bool true) rfl j ?_;refine tnb 1 (.bool false) rfl j ?_;refine tna 2 (.bool false) rfl j ?_;refine tnb 3 (.pointer (some ⟨b5,34,none⟩)) rfl j ?_;refine tnd 4 (.int .i64 (cp:Int)) rfl (.inl ⟨by rfl,fun w' W=>by have c:World.cell? w' ⟨b5,34,none⟩=some (.int .i64 (cp:Int)):=(aC (i:=34) ((s w' W).blk (E.b 0) id) (L.out));go_simp⟩) j ?_;refine tna 5 (.pointer c) rfl j ?_;refine tnb 6 (.pointer c) rfl j ?_;refine tnb 7 (.pointer (some ⟨c,34,none⟩)) rfl j ?_;refine tnd 8 (.int .i64 (cp:Int)) rfl (.inl ⟨by rfl,fun w' W=>by have c:World.cell? w' ⟨c,34,none⟩=some (.int .i64 (cp:Int)):=(s w' W).cell (aT.cp_ C.out) id;go_simp⟩) j ?_;refine tnb 9 (.bool false) rfl j ?_;refine tna 10 (.bool false) rfl j ?_;refine wpAnyH_done (by kernel_rfl) ?_ _;clear j s H E C K N;have c1:w5.cell? ⟨b5,36,none⟩=some (.int .i64 0):=(aC (i:=36) (r.b 0) (M.out))
 obtain⟨qo,lT,U,-,qk⟩:=A.out;rcases qk with rfl|⟨rfl,rfl,rfl⟩
 all_goals (first
  | (have c2:w5.cell? ⟨c,35,none⟩=some (.slice none 0 0):=(aT.lv_ q.out)
     go_wp2_with fail;clear c1 c2 U)
  | (have c2:w5.cell? ⟨c,35,none⟩=some (.slice lb D D):=(aT.lv_ q.out)
     have c4:w5.cell? ⟨lb,d,none⟩=some (.int .i64 0):=by rw[cell_of_row _ _ _ _ _ _ U];simp[hd]
     go_wp2_with fail;clear c1 c2 c4 U))
 all_goals
  refine dwA aB (by kernel_rfl) ?_;intro w6 S s H j f;replace r:=kL r f;replace q:=O (q.keep0 f);replace z:=O (z.keep0 f);replace A:=O (A.keep f id);clear f;have E:=r;have C:=q;have K:=z;have N:=A;refine tnd 0 (.agg lc.toArray) rfl (yieldsIf_load_mid (by rfl) 112 (.tmp 5) rfl b5 0 rfl lc _ (fun w' h=>aD ((s w' h).blk (E.b 0) id)) underlying112 rfl (by rw[V];exact gF)) j ?_;refine tna 1 (.pointer c) rfl j ?_;refine tnb 2 (.pointer c) rfl j ?_;refine tnb 3 (.pointer (some ⟨c,2,none⟩)) rfl j ?_;refine tnd 4 (.agg (pid.map vb).toArray) rfl (yieldsIf_load_mid (by rfl) 31 (.tmp 47) rfl c 2 rfl (pid.map vb) _ (fun w' h=>(s w' h).rangeAt (aT.id_ C.out)) underlying31 rfl (by rw[ql];exact oA)) j ?_;refine tna 5 (.int .i64 (d:Int)) rfl j ?_;refine tna 6 (.int .i64 0) rfl j ?_;refine wA9 7 ?_;go_wp2_with fail;refine((by rw[←X.out];exact KV w6 (cG pid d D cp Z) pid (d:Int) 0 F.out F.out:Ka w6 (bM w6 (rK (cG pid d D cp Z) pid (d:Int) 0)))).mono ?_;rintro e w7 ⟨rfl,b⟩;have R:=H.out _ ((s _ j).trans b);replace r:=kL r b;replace q:=O (q.keep0 b);replace z:=O (z.keep0 b);replace A:=O (A.keep b id);clear j b;rw[qi.out];go_wp2_with fail;refine⟨R,?_⟩;refine tna 8 (.bool true) rfl R ?_;refine wpAnyH_done (by kernel_rfl) ?_ _;clear R s H E C K N;have HR:Hid (aA aB w w7):=O r.keep;clear r z q;go_wp2;go_ret;exact aN.of HR.out
structure eJ(w:World)(c a m lb:Nat)(yv:Value)(pid:List UInt8)(cp:Nat)(gv:Value)(t:Lst)(B:Nat->Prop)(D Z:Nat)(Mm:Nat->Nat->List UInt8)(nw:Nat):Prop where
 cor:aT w c a m pid cp yv gv t
 arr:bE w a B D Z Mm nw
 mir:eQ w m a
 liv:vJ w lb yv D
 cpb:1≤cp/\cp≤3/\cp≤D
 lab:∀d,d<D->Mm d 0=dL (cG pid d D cp Z)
theorem eJ.keep(h:eJ w c a m lb yv pid cp gv t B D Z Mm nw)(k:aA T w w')(b:∀i,T i->i≠c/\i≠m/\i≠lb/\¬B i/\¬t.Own i):eJ w' c a m lb yv pid cp gv t B D Z Mm nw:=
 ⟨h.cor.keep k (fun e=>(b _ e).1 rfl) fun i e=>(b i e).2.2.2.2,h.arr.keep k fun i e=>(b i e).2.2.2.1,k.blk h.mir fun e=>(b _ e).2.1 rfl,h.liv.keep k fun e=>(b _ e).2.2.1 rfl,h.cpb,h.lab⟩
theorem eJ.keep0(h:eJ w c a m lb yv pid cp gv t B D Z Mm nw)(k:aA aB w w'):eJ w' c a m lb yv pid cp gv t B D Z Mm nw:=h.keep k fun _ h=>h.elim
theorem nD{u:Value}(h:Rd w 1 v n xs)(e:xs[k]?=some u):∃g o b,v=.slice (some ⟨g,o,none⟩) n b/\w.cell? ⟨g,o+k,none⟩=some u:=by
 obtain⟨h0,a,b,rfl,q,r,s,f⟩:=h;obtain⟨g,o,rfl,j⟩:=f (by have:=(List.getElem?_eq_some_iff.1 e).1;omega);exact⟨g,o,b,rfl,j k u e⟩
theorem jL(h:k<n):(sF n)[k]?=some (.int .i64 (k:Int)):=by
 unfold sF;rw[List.getElem?_map,List.getElem?_range h];rfl
def lA(k:Nat):List Value:=List.replicate k (.bool true)
theorem IP(k:Nat):lA (k+1)=lA k++[.bool true]:=by unfold lA;rw[List.replicate_succ']
def Pn(w:World)(D:Nat)(e:Ending)(w':World):Prop:=∃v,e=.returned v/\w'.ownsRow w.heap.size 4 1 v D (lA D)/\aA aB w w'
theorem zD(h:eJ w c a m lb yv pid cp gv t B D Z Mm nw):Calls prog 38 #[.pointer c] w (Pn w D):=by
 have qa:=h.arr.bd;have E:=O h;have j:=lN w;clear h;go_in;go_wp2_with fail;refine(pJ E.cor E.arr).mono ?_;rintro e L ⟨v0,rfl,Y,f⟩;obtain⟨g,o,dc,rfl,-⟩:=nD (Rd.of_owns Y) (jL (show 0<D by omega))
 have M:=O (fun(k:Nat) (f:k<D)=>show ∃x,Value.slice (some ⟨g,o,none⟩) D dc=.slice (some ⟨g,o,none⟩) D x/\World.cell? L ⟨g,o+k,none⟩=some (.int .i64 (k:Int)) from by
  obtain⟨g',o',x,he,W⟩:=nD (Rd.of_owns Y) (jL f);cases he
  exact⟨_,rfl,W⟩)
 clear Y;replace j:=kL j f;replace E:=O (E.keep0 f);clear f;go_wp2_with fail;have F:=O j.keep;clear j
 go_loopw [3,5,9] (fun v _ i wr=>∃(k:Nat) (p:Option Addr) (K:Nat),k≤D/\i=.int .i64 k/\v=.slice p k K/\Hid (aA aB L wr)/\Hid (wr.ownsRow L.heap.size 4 1 (.slice p k K) k (lA k))) (fun _ _ i _=>D-(intOf i).toNat)
 case atStart=>exact⟨0,none,0,by omega,rfl,rfl,O (aA.refl _ _),O (World.ownsRow_nil _ _ _ _)⟩
 case round =>
  obtain⟨k,p,K,f,rfl,rfl,q,r⟩:=hrel
  by_cases z:k<D
  ·have j:=lN wr
   have HW:=O q.size;have qc:(0:Int)≤(k:Int):=by omega
   have qd:(k:Int)<(D:Int):=by omega
   have C:Hid (World.cell? wr ⟨g,o+k,none⟩=some (.int .i64 (k:Int))):=O (by obtain⟨_,_,W⟩:=M.out k z;exact q.cell W id);have b:=O (E.keep0 q.out);have c1:wr.cell? ⟨g,o+k,none⟩=some (.int .i64 (k:Int)):=C.out;go_wp2_with fail;clear c1;refine(nC b.arr b.cor b.liv z b.cpb (b.lab _ z)).mono ?_;rintro e w2 ⟨rfl,f⟩;replace j:=kL j f;replace r:=O (f.owns r.out fun _ _=>id);replace b:=O (b.keep0 f);replace C:=O (f.cell C.out id);clear f
   go_wp2_with ((with_reducible show WL _ _);refine bs1 61 4 (.tmp 16) (.bool true) (by kernel_rfl) (by kernel_rfl) underlying61 rfl ?_)
   intro H w3 I f hb;replace j:=lW j I f hb;replace r:=O (f.owns r.out fun _ _=>id);replace b:=O (b.keep0 f);replace C:=O (f.cell C.out id);clear I f hb;have y:Rd w3 1 (.slice H 1 1) 1 [.bool true]:=eL (n:=1) (size:=1) (j.b 0) rfl (by unfold maxLen;omega);have s:=O y;have U:=r;have G:=O j.keep;clear y
   go_wp2_with (first
    | (at_builtin;refine aK rfl (.tmp 13) (.tmp 17) 61 rfl L.heap.size 4 (.bool false) 1 1 underlying61 KW rfl (by decide) (.slice p k K) k (lA k) rfl r.out (.slice H 1 1) 1 [.bool true] rfl s.out (by intro u hu;rcases List.mem_singleton.1 hu with rfl;rfl) (by unfold maxLen;omega) (by omega) (Nat.le_trans HW.out G.size) ?_))
   intro v2 w8 A J X V;obtain⟨g2,c2,rfl⟩:=ownsRow_succ A;have S:=O A;have N:=O J;clear A J X V s j r b C;go_wp2_with fail;have R:=O (AM q.out U.out G.out N.out)
   go_roundw
   case rel=>exact⟨k+1,some ⟨g2,0,none⟩,c2,by omega,by go_num,rfl,R,by rw[IP];exact S⟩
   case measure=>simp[intOf];omega
  ·obtain rfl:k=D:=by omega
   go_wp2;go_ret;exact⟨_,rfl,aQ r.out F.size,F.trans q.out⟩
theorem tW:(prog.info? 93).map (fun i=>(i.zero,i.size,i.bytes))=some (some (.agg #[.int .i64 0,.int .i64 0]),2,16):=by kernel_rfl
def qJ(w:World)(l:List Ad)(e:Ending)(w':World):Prop:=∃b,e=.returned b/\w'.ownsRow w.heap.size 93 2 b l.length (aJ l)/\aA aB w w'
theorem QQ(w:World):Sem.run prog (binOp .eql 29 (.slice none 0 0) (.slice none 0 0)) w=.ok (.bool true) w:=by kernel_rfl
theorem Qo(w:World)(a:Addr)(n c:Nat):Sem.run prog (binOp .eql 29 (.slice (some a) n c) (.slice none 0 0)) w=.ok (.bool false) w:=by kernel_rfl
theorem jU(w:World)(v:Value)(l:List Ad)(y:Rd w 2 v l.length (aJ l))(hl:l.length≤65536):Calls prog 77 #[v] w (qJ w l):=by
 obtain⟨h0,z,C,hv,M,N,F,R⟩:=y;have y:Rd w 2 v l.length (aJ l):=⟨h0,z,C,hv,M,N,F,R⟩
 subst hv;cases z with
 | none =>
   obtain rfl:C=0:=F rfl;have x:l.length=0:=by omega
   have hx:l=[]:=List.eq_nil_of_length_eq_zero x;subst hx;clear h0 M N F R y hl x;have X:=QQ w;go_in;go_wp2;go_ret;exact⟨_,rfl,World.ownsRow_nil _ _ _ _,aA.refl _ _⟩
 | some z =>
   obtain⟨w3,Y,G,S,s3⟩:=aM w #[] 93;have H:=O G;have qa:=O s3;have K:Hid (w3.ownsRow w.heap.size 93 2 (.slice (w.heap.size) 0 0) 0 []):=O (by rw[←Y];exact World.ownsRow_made w #[] 0 (Nat.le_refl _) (by unfold maxLen;omega) rfl);have q:=O (y.keep G fun _ _=>id);have o:Hid (∀A w',w'.ownsRow w.heap.size 93 2 A l.length (aJ l)->aA aB w w'->qJ w l (.returned A) w'):=O (fun A w' a b=>⟨A,rfl,a,b⟩);obtain⟨n,V⟩:=zX9 l.length
   obtain⟨E,f⟩:=zX9 (aJ l)
   have J:Hid (∀u∈E,u.oneCell'=true):=O (by rw[←f];exact oN _);rw[V,f] at q o;rw[V] at hl ⊢;have qc:w.heap.size≤w3.heap.size:=G.size;clear h0 M N F R y G S s3 V f;have X:=Qo w z n C;go_in
   go_wp2_with (first
    | (at_builtin;refine aK rfl (.tmp 5) (.tmp 6) 29 rfl w.heap.size 93 (.agg #[.int .i64 0,.int .i64 0]) 2 16 underlying29 tW rfl (by decide) (.slice (w.heap.size) 0 0) 0 ([]) rfl K.out (.slice (some z) n C) n E rfl q.out J.out (by unfold maxLen;omega) (by omega) (by omega) ?_
       intro A w4 j s W r;rw[Nat.zero_add,List.nil_append] at j;have L:=O j;have I:=O (H.tT s (fun i hi e=>by have e':w.heap.size=i:=Option.some.inj e;omega));clear j s W r))
   go_ret;exact o.out _ _ L.out I.out
theorem Bx(h:eJ w c a m lb yv pid cp gv t B D Z Mm nw)(x:Ad)(F:bW x D Z):Calls prog 86 #[.pointer c,.agg (aO x).toArray] w (aN w (.bool true)):=by
 have G:Hid (fL x D Z=true):=O ((Ch h.arr.bd).2 F);have j:=O h;have o:=lN w;clear h F;go_in
 go_wp2_with refine bxM o ((aO x).toArray) ?_
 intro H J b o;replace j:=O (j.keep0 b);clear b;go_wp2_with fail;refine dwA aB (by kernel_rfl) ?_;intro K S f r q A;replace o:=kL o A;replace j:=O (j.keep0 A);clear A;have E:=o;have s:=j;refine tnd 0 (.agg (aO x).toArray) rfl (yieldsIf_load_mid (by rfl) 93 (.tmp 3) rfl H 0 rfl (aO x) _ (fun w' h=>aD ((f w' h).blk (E.b 0) id)) bY rfl (by rw[bD];exact iV)) q ?_;refine tna 1 (.pointer c) rfl q ?_;refine tnb 2 (.pointer c) rfl q ?_;refine tnb 3 (.pointer c) rfl q ?_;refine tnd 4 (.pointer a) rfl (.inl ⟨by rfl,fun w' C=>by have c:World.cell? w' ⟨c,0,none⟩=some (.pointer a):=(f w' C).cell (aT.c0 s.cor) id;go_simp⟩) q ?_;refine tna 6 (.pointer c) rfl q ?_;refine tnb 7 (.pointer c) rfl q ?_;refine tnb 8 (.pointer c) rfl q ?_;refine tnd 9 (.pointer a) rfl (.inl ⟨by rfl,fun w' C=>by have c:World.cell? w' ⟨c,0,none⟩=some (.pointer a):=(f w' C).cell (aT.c0 s.cor) id;go_simp⟩) q ?_;refine wA9 5 ?_;go_wp2_with fail;refine(iW j.arr).mono ?_;rintro e L ⟨rfl,b⟩;have u:=r.out _ ((f _ q).trans b);replace o:=kL o b;replace j:=O (j.keep0 b);clear q b;go_wp2_with fail;refine⟨u,?_⟩;refine wA9 10 ?_;go_wp2_with fail;refine(tU j.arr).mono ?_;rintro e I ⟨rfl,b⟩;have y:=r.out _ ((f _ u).trans b);replace o:=kL o b;replace j:=O (j.keep0 b);clear u b;go_wp2_with fail;refine⟨y,?_⟩;refine wA9 11 ?_;go_wp2_with fail;refine(GR x (D:Int) (Z:Int) I).mono ?_;rintro e M ⟨rfl,b⟩;have z:=r.out _ ((f _ y).trans b);replace o:=kL o b;replace j:=O (j.keep0 b);clear y b;rw[G.out];go_wp2_with fail;refine⟨z,?_⟩;refine tna 12 (.bool true) rfl z ?_;refine wpAnyH_done (by kernel_rfl) ?_ _;clear z f r E s;go_wp2;go_ret;exact aN.of o.keep
theorem KZ(h:eJ w c a m lb yv pid cp gv t B D Z Mm nw)(q:w.heap[bc]?=some (.cells #[.pointer c] 26 (0,0)))(x:Ad)(r:bW x D Z):Calls prog 119 #[.agg (aO x).toArray,.pointer bc] w (aN w (.bool false)):=by
 have b:=O (cell_of_one q);have s:=O r;have o:=O h;have j:=lN w;clear h r q;go_in
 go_wp2_with refine bxM j ((aO x).toArray) ?_
 intro b2 u f j;replace o:=O (o.keep0 f);replace b:=O (f.cell b.out id);clear f;have c1:u.cell? ⟨bc,0,none⟩=some (.pointer c):=b.out
 go_wp2_with ((with_reducible show WL _ _);refine ldR (j.b 0) bY (by rw[bD];exact iV) ?_)
 clear c1;refine(Bx o.out x s.out).mono ?_;rintro e y ⟨rfl,f⟩;replace j:=kL j f;replace o:=O (o.keep0 f);replace b:=O (f.cell b.out id);clear f;go_wp2;go_ret;exact aN.of j.keep
theorem K5(h:eJ w c a m lb yv pid cp gv t B D Z Mm nw)(r:w.heap[bc]?=some (.cells #[.pointer c] 26 (0,0)))(x:Ad)(u:bW x D Z):Calls prog 121 #[.agg (aO x).toArray,.pointer bc] w (aN w (.bool false)):=by
 have b:=O (cell_of_one r);obtain⟨d,s,rfl,y,z,A⟩:=nA u;have f:=O h;have o:=lN w;have q:=O y;clear h u r;go_in
 go_wp2_with refine bxM o ((aO ⟨(d:Int),(s:Int)⟩).toArray) ?_
 intro b2 C j o;replace f:=O (f.keep0 j);replace b:=O (j.cell b.out id);clear j;have c1:C.cell? ⟨bc,0,none⟩=some (.pointer c):=b.out;have c2:=cD o 0
 go_wp2_with fail;clear c1 c2;refine(nC f.arr f.cor f.liv q.out f.cpb (f.lab _ q.out)).mono ?_;rintro e E ⟨rfl,j⟩;replace o:=kL o j;replace f:=O (f.keep0 j);replace b:=O (j.cell b.out id);clear j;go_wp2;go_ret;exact aN.of o.keep
theorem vK(w:World)(v:Value)(l:List Ad)(j:Rd w 2 v l.length (aJ l))(R:l.length≤65536)(u bc:Nat)(eg:∀args w,(callFunc u args).run prog w=.ok (.enter u args) w)(h:∀x∈l,∀w',aA aB w w'->Calls prog u #[.agg (aO x).toArray,.pointer bc] w' (aN w' (.bool false))) :
 Calls prog 84 #[v,.func (.func u) #[] #[.pointer bc]] w (aN w (.int .i64 (-1))):=by
 obtain⟨X,I,rfl,-,-⟩:=j.form;obtain⟨n,E⟩:=zX9 l.length
 have H:=O E;rw[E] at j R ⊢;have W:n≤I:=by obtain⟨_,Y,c',M,N,h3,-⟩:=j;cases M;exact N
 have L:=O j;have A:=O h;clear j h E;go_in;go_wp2_with fail
 go_loopw [5,8] (fun _ i wr=>∃k:Nat,k≤n/\i=.int .i64 k/\Hid (aA aB w wr)) (fun _ i _=>n-(intOf i).toNat)
 case atStart=>exact⟨0,by omega,rfl,O (aA.refl _ _)⟩
 case round =>
  obtain⟨k,y,rfl,q⟩:=hrel
  by_cases C:k<n
  ·obtain⟨x,F⟩:∃x,l[k]?=some x:=⟨l[k]'(by rw[H.out];exact C),List.getElem?_eq_getElem _⟩
   have b:=L.out;rw[←H.out] at b;obtain⟨g,o,J,K,f⟩:=fT b F;obtain rfl:X=some ⟨g,o,none⟩:=by cases K;rfl
   have s:=O (q.rangeAt f);have G:=O (A x (List.mem_of_getElem? F) wr q.out);have r:=lN wr;have S:(0:Int)≤(k:Int):=by omega
   have U:(k:Int)<(n:Int):=by omega
   have V:(k:Int)≤(I:Int):=by omega
   clear F b f K
   go_wp2_with ((with_reducible show WL _ _);refine ldM g (o+k*2) (aO x) s.out bY (by rw[bD];exact iV) ?_)
   refine(G.out).mono ?_;rintro e w1 ⟨rfl,y⟩;replace r:=kL r y;replace s:=O (y.rangeAt s.out);clear y;go_wp2_with fail;have z:=O (q.trans r.keep);clear r G s
   go_roundw
   case rel=>exact⟨k+1,by omega,by go_num,z⟩
   case measure=>simp[intOf];omega
  ·obtain rfl:k=n:=by omega
   go_wp2;go_ret;exact aN.of q.out
def Cu(Q:Exit->Act->World->Prop):Exit->Act->World->Prop
 | .panic _,_,_=>False
 | e,a,w=>Q e a w
theorem noP{a:Act}(h:Q .normal a w):Cu Q .normal a w:=h
theorem sG{S:World->Prop}{id:Nat}{a:Act}(f:P.follows .mixedOrders=true)
 (h:wpAnyH P .any ops (Cu Q) S ops.size (Array.replicate ops.size false) a { w with drawn:=w.drawn+1 }):(Code.region id ops true).wp P Q a w:=
 wp_mono (wp_region_held f h) fun e a w h=>by
  cases e<;>first|exact h|exact h.elim
theorem dwB{id:Nat}{a:Act}(U:Nat->Prop)(e:P.follows .mixedOrders=true)(h:∀wd (S:World->Prop),Hid (∀w',S w'->aA U wd w')->Hid (∀w',aA U wd w'->S w')->S wd->aA aB w wd->wpAnyH P .any ops (Cu Q) S ops.size (Array.replicate ops.size false) a wd):(Code.region id ops true).wp P Q a w:=
 have b:=(aA.refl aB w).drew
 sG (S:=fun w'=>aA U w.drew w') e (h w.drew (fun w'=>aA U w.drew w') (O fun _ h=>h) (O fun _ h=>h) (aA.refl _ _) b)
theorem DU(w:World)(v:Value)(l:List Ad)(q:Rd w 2 v l.length (aJ l))(j:l.length≤65536)(b bc:Nat)(s:∀args w,(callFunc b args).run prog w=.ok (.enter b args) w)(f:∀x∈l,∀w',aA aB w w'->Calls prog b #[.agg (aO x).toArray,.pointer bc] w' (aN w' (.bool false))) :
 Calls prog 65 #[v,.func (.func b) #[] #[.pointer bc]] w (aN w (.bool false)):=by
 have r:=O (vK w v l q j b bc s f);have h:=lN w;clear q f j;go_in;go_wp2_with fail;refine(r.out).mono ?_;rintro e u ⟨rfl,o⟩;replace h:=kL h o;clear o;go_wp2;go_ret;exact aN.of h.keep
theorem Gk(w:World)(v:Value)(l:List Ad)(q:Rd w 2 v l.length (aJ l))(j:l.length≤65536)(b bc:Nat)(s:∀args w,(callFunc b args).run prog w=.ok (.enter b args) w)(f:∀x∈l,∀w',aA aB w w'->Calls prog b #[.agg (aO x).toArray,.pointer bc] w' (aN w' (.bool false))) :
 Calls prog 120 #[v,.func (.func b) #[] #[.pointer bc]] w (aN w v):=by
 have r:=O (vK w v l q j b bc s f);have h:=lN w;clear q f j;go_in;go_wp2_with fail;refine(r.out).mono ?_;rintro e u ⟨rfl,o⟩;replace h:=kL h o;clear o;go_wp2;go_ret;exact aN.of h.keep
theorem K6(v b:Value)(p:Pt):spl (aL v p).toArray 0 [b]=(aL b p).toArray:=by
 unfold aL spl spl;simp
def AN(w:World)(p:Pt)(e:Ending)(w':World):Prop:=∃v,e=.returned (.tuple #[.agg (aL v p).toArray,.int .i64 0])/\w'.ownsRow w.heap.size 93 2 v p.addrs.length (aJ p.addrs)/\aA aB w w'
theorem Ns(h:eJ w c a m lb yv pid cp gv t B D Z Mm nw)(E:Value)(p:Pt)(hp:PtV w E p)(I:p.may=true)(hh:p.hole=false)(Y:∀x∈p.addrs,bW x D Z)(H:p.addrs.length≤65536):Calls prog 57 #[.pointer c,.agg (aL E p).toArray] w (AN w p):=by
 have G:=bB (v:=E) hp.sum;obtain⟨oa,ca,qa,-,-⟩:=hp.rd.form;obtain⟨pc,q⟩:=zX9 (aL E p)
 have qh:Hid (∀u∈pc,u.oneCell'=true):=O (by rw[←q,qa];exact dE p);have L:=O q;have U:Hid (∃r,pc=E::r):=O ⟨_,q.symm⟩;rw[q] at G ⊢;have o:=O h;have b:=O hp;have qd:=O I;have HH:=O hh;have V:=O Y;have K:=O H;have j:=lN w;clear h hp q I hh Y H qa;have J:=o;have y:=b;go_in
 go_wp2_with refine bxM j (#[.pointer c]) ?_
 intro b2 w1 f j;replace o:=O (o.keep0 f);replace b:=O (b.keep f fun _ _=>id);clear f
 go_wp2_with refine bxM j (pc.toArray) ?_
 intro W w2 f j;replace o:=O (o.keep0 f);replace b:=O (b.keep f fun _ _=>id);clear f
 go_wp2_with refine alM j eX ?_
 intro b4 w3 f j;replace o:=O (o.keep0 f);replace b:=O (b.keep f fun _ _=>id);clear f;have c1:=cD j 2
 go_wp2_with fail;clear c1;refine(kO o.cor o.arr).mono ?_;rintro e w4 ⟨rfl,f⟩;replace j:=kL j f;replace o:=O (o.keep0 f);replace b:=O (b.keep f fun _ _=>id);clear f
 go_wp2_with refine ldQ (j.b 1) G ?_
 refine((by rw[←L.out];exact qC w4 E p b.out:Ka w4 (rF w4 p.may))).mono ?_;rintro e w5 ⟨rfl,f⟩;replace j:=kL j f;replace o:=O (o.keep0 f);replace b:=O (b.keep f fun _ _=>id);clear f;rw[qd.out]
 go_wp2_with ((with_reducible show WL _ _);refine aP (by rfl) 33 (.tmp 3) rfl W 0 rfl pc _ (aD (j.b 1)) bJ rfl (szP9 G) ?_)
 refine((by rw[←L.out];exact rE w5 E p b.out:Ka w5 (bM w5 p.hole))).mono ?_;rintro e w6 ⟨rfl,f⟩;replace j:=kL j f;replace o:=O (o.keep0 f);replace b:=O (b.keep f fun _ _=>id);clear f;rw[HH.out];have c1:w6.cell? ⟨W,0,none⟩=some (E):=(by obtain⟨r,e⟩:=U.out;exact aC (i:=0) (j.b 1) (by rw[e];rfl))
 go_wp2_with fail;clear c1;refine(DU w6 E p.addrs b.rd K.out 119 b2 (enters_of func119 (by kernel_rfl) rfl) (fun x hx w' k=>KZ (o.keep0 k) (k.blk (j.b 2) id) x (V x hx))).mono ?_;rintro e w7 ⟨rfl,f⟩;replace j:=kL j f;replace o:=O (o.keep0 f);replace b:=O (b.keep f fun _ _=>id);clear f;have c1:w7.cell? ⟨W,0,none⟩=some (E):=(by obtain⟨r,e⟩:=U.out;exact aC (i:=0) (j.b 1) (by rw[e];rfl))
 go_wp2_with fail;clear c1;have qg:=O j.keep.size;have N:=O (j.lt 1).2;have R:=O (j.lt 0).2;refine(jU w7 E p.addrs b.rd K.out).mono ?_;rintro e w8 ⟨v1,rfl,ho,f⟩;obtain⟨z,A,rfl,-,-⟩:=(Rd.of_owns ho).form;replace j:=kL j f;replace o:=O (o.keep0 f);replace b:=O (b.keep f fun _ _=>id);clear f;have S:=O (fun(i:Nat) (X:(Value.slice z p.addrs.length A).ownBlock=some i)=>show w7.heap.size≤i from bG ho X);have F:=O (aQ ho qg.out);clear ho;go_wp2_with fail;refine(Gk w8 (.slice z p.addrs.length A) p.addrs (Rd.of_owns F.out) K.out 121 b2 (enters_of func121 (by kernel_rfl) rfl) (fun x hx w' k=>K5 (o.keep0 k) (k.blk (j.b 2) id) x (V x hx))).mono ?_;rintro e w9 ⟨rfl,f⟩;replace j:=kL j f;replace o:=O (o.keep0 f);replace b:=O (b.keep f fun _ _=>id);replace F:=O (f.owns F.out fun _ _=>id);clear f
 go_wp2_with ((with_reducible show WL _ _);refine sta 29 (.tmp 32) (.tmp 31) W 0 ([.slice z p.addrs.length A]) (j.b 1) (by first|decide|(rw[rfl];exact Nat.le_refl _)|simp[G]) (by kernel_rfl) (one9) ?_)
 intro wa f M;have C:(aL (.slice z p.addrs.length A) p).length=35:=bB y.sum;obtain⟨pd,s⟩:=zX9 (aL (.slice z p.addrs.length A) p)
 have qf:=O s;have qe:Hid (∀u∈pd,u.oneCell'=true):=O (by rw[←s];exact dE p);rw[s] at C;replace M:wa.heap[W]?=some (.cells pd.toArray 33 (0,0)):=by rw[M,←L.out,K6,s]
 clear s;replace j:=O (j.set 1 f M);replace o:=O (J.keep0 j.keep);replace b:=O (y.keep j.keep fun _ _=>id);replace F:=O (f.owns F.out fun i X e=>by have:=S.out i X;have:=N.out;have:=R.out;omega);clear f M
 go_wp2_with (first
  | refine ldQ (j.b 1) C ?_
  | refine stW (j.b 0) C aW (szP9 C) qe.out ?_)
 intro wb f M;replace j:=O (j.set 0 f M);replace o:=O (J.keep0 j.keep);replace b:=O (y.keep j.keep fun _ _=>id);replace F:=O (f.owns F.out fun i X e=>by have:=S.out i X;have:=N.out;have:=R.out;omega);clear f M;have HR:Hid (AN w p (.returned (.tuple #[.agg pd.toArray,.int .i64 0])) wb):=O ⟨_,by rw[qf.out],F.out,j.keep⟩;have qc:=O (j.b 0);clear j o b F J y;go_wp2_with fail;refine bodyPost_ret (bO rfl _ _ b4 _ _ _ _ rfl qc.out bJ rfl (by rw[List.size_toArray,C];exact mI)) rfl ?_;exact HR.out
theorem lQ(w:World)(c e:Nat)(b:Int)(r:TypeId)(h:w.heap[e]?=some (.cells #[.int .i64 b] r (0,0)))(f:b≠10):CallsD prog 39 #[.pointer c,.pointer e] .returning w fun q u w'=>u=.returning/\aN w (.tuple #[]) q w':=by
 have j:=O (cell_of_one h);have s:(b == 10)=false:=by rw[beq_eq_false_iff_ne];exact f
 have o:=lN w;clear h
 go_enter_d func39,ntmps39
 have c1:w.cell? ⟨e,0,none⟩=some (.int .i64 b):=j.out;go_wp2_with fail;clear c1;refine bodyPost_ret (results_none rfl _ _ _) rfl ?_;exact aN.of o.keep
theorem AO{u:Tmp}{e:TypeId}(h:fn.results=#[.tmp u,.cell p e])(tmps:Array Value)(P:Program)(w:World)(a:Addr)(x:Value)(b:tmps.getD p undef=.pointer (some a))(f:(loadVar e a).run P w=.ok x w) :
 (results fn tmps).run P w=.ok (.tuple #[tmps.getD u undef,x]) w:=by
 simp only[results,h];simp only[Array.getD_eq_getD_getElem?] at b;simp[Result.andThen,asAddr,b,f]
theorem AP(h:eJ w c a m lb yv pid cp gv t B D Z Mm nw)(pv:Value)(p:Pt)(hp:PtV w pv p)(V:p.may=true)(hh:p.hole=false)(qo:∀x∈p.addrs,bW x D Z)(U:p.addrs.length≤65536){s:Nat}{rest:List Ad}(qc:p.addrs=⟨(d:Int),(s:Int)⟩::rest)(W:p.sum=bU (Mm d s)):Calls prog 28 #[.pointer c,.agg (aL pv p).toArray] w (mC w (Mm d s)):=by
 have qn:=bB (v:=pv) hp.sum;obtain⟨oa,ca,qp,-,-⟩:=hp.rd.form;obtain⟨pc,F⟩:=zX9 (aL pv p)
 have q4:Hid (∀u∈pc,u.oneCell'=true):=O (by rw[←F,qp];exact dE p);have qx:=O F;have q0:(((p.addrs.length:Nat):Int) == 0)=false:=by rw[beq_eq_false_iff_ne,qc];simp;omega
 rw[F] at qn ⊢;obtain⟨n,hn⟩:=zX9 p.addrs.length
 rw[hn] at q0;have HN:=O hn;have y:=O h;have j:=O hp;have qg:=O V;have HH:=O hh;have qi:=O qo;have qt:=O U;have qv:=O qc;have qy:=O W;have o:=lN w;clear h hp F V hh qo U qp qc W hn
 go_enter_defers func28,ntmps28
 have K:=y;have z:=j
 go_wp2_with refine bxM o (pc.toArray) ?_
 intro b3 w1 b o;replace y:=O (y.keep0 b);replace j:=O (j.keep b fun _ _=>id);clear b
 go_wp2_with refine alS o qQ ?_
 intro N w2 b o;replace y:=O (y.keep0 b);replace j:=O (j.keep b fun _ _=>id);clear b
 go_wp2_with refine ldQ (o.b 1) qn ?_
 have X:=O (o.lt 0).2;refine((by rw[←qx.out];exact Ns y.out pv p j.out qg.out HH.out qi.out qt.out:Ka w2 (AN w2 p))).mono ?_;rintro e w3 ⟨v1,rfl,L,b⟩;obtain⟨C,E,rfl,-,-⟩:=(Rd.of_owns L).form;have qf:=O (fun(i:Nat) (J:(Value.slice C p.addrs.length E).ownBlock=some i) (e:i=N)=>show False from by have:=bG L J;have:=X.out;omega);have HO:=O L;clear L;replace o:=kL o b;replace y:=O (y.keep0 b);replace j:=O (j.keep b fun _ _=>id);clear b;have M:(aL (.slice C p.addrs.length E) p).length=35:=bB z.sum;have q:=O (show PtV w3 (.slice C p.addrs.length E) p from⟨Rd.of_owns HO.out,z.ads,z.sum⟩);obtain⟨pd,A⟩:=zX9 (aL (.slice C p.addrs.length E) p)
 have qw:=O A;have qu:Hid (∀u∈pd,u.oneCell'=true):=O (by rw[←A];exact dE p);have qh:Hid (∃r,pd=.slice C n E::r):=O ⟨_,by rw[←HN.out];exact A.symm⟩;rw[A] at M;rw[A];clear A
 go_wp2_with refine alW eX M aW (szP9 M) qu.out ?_
 intro b6 w5 qm b R
 replace o:=lW o qm b R;replace y:=O (y.keep0 b);replace j:=O (j.keep b fun _ _=>id);replace q:=O (q.keep b fun _ _=>id);clear qm b R
 go_wp2_with refine stV (.int .i64 0) (o.b 1) ?_
 intro w6 b R;replace o:=O (o.set 1 b R);replace y:=O (K.keep0 o.keep);replace j:=O (z.keep o.keep fun _ _=>id);replace q:=O (q.keep b fun i J e=>qf.out i J e);clear b R;have c1:=cD o 1
 have c2:w6.cell? ⟨b6,0,none⟩=some (.slice C n E):=(by obtain⟨r,e⟩:=qh.out;exact aC (i:=0) (o.b 0) (by rw[e];rfl))
 go_wp2_with fail;clear c1 c2;have qq:Hid (¬c=N):=O (fun e=>by have:=lt_of_block K.cor.top;have:=(o.lt 1).1;omega);go_wp2_with fail;refine dwB (fun k=>k=N) (by kernel_rfl) ?_;intro w7 S H qa hS I;replace o:=kL o I;replace y:=O (y.keep0 I);replace j:=O (j.keep I fun _ _=>id);replace q:=O (q.keep I fun _ _=>id);clear I;have Y:=o;have qe:=y;have qj:=j;have qk:=q;refine tna 0 (.pointer c) rfl hS ?_;refine tnb 1 (.pointer c) rfl hS ?_;refine tnb 2 (.pointer (some ⟨c,1,none⟩)) rfl hS ?_;refine tnd 3 (.pointer m) rfl (.inl ⟨by rfl,fun w' q1=>by have c:World.cell? w' ⟨c,1,none⟩=some (.pointer m):=(H w' q1).cell (aT.c1 qe.cor) qq.out;go_simp⟩) hS ?_;refine tnd 4 (.agg pd.toArray) rfl (yieldsIf_load_mid (by rfl) 33 (.tmp 6) rfl b6 0 rfl pd _ (fun w' h=>aD ((H w' h).blk (Y.b 0) (fun e=>by exact fH (i:=1) Y.nd rfl 0 (by decide) rfl e))) bJ rfl (szP9 M)) hS ?_;refine wA9 5 ?_;go_wp2_with fail;have qz:=O o.keep.size;have X:=O (o.lt 1).2;refine((by rw[←qw.out];exact Nk y.arr y.mir (.slice C p.addrs.length E) p q.out qg.out HH.out qi.out qv.out qy.out:Ka w7 (mC w7 (Mm d s)))).mono ?_;rintro e w8 ⟨v2,rfl,L,b⟩;obtain⟨ga,gc,rfl,-,-⟩:=(Rd.of_owns L).form;have G:=qa.out _ ((H _ hS).trans b.any);replace o:=kL o b;replace y:=O (y.keep0 b);replace j:=O (j.keep b fun _ _=>id);replace q:=O (q.keep b fun _ _=>id);clear hS b;have qr:=O (fun(i:Nat) (J:(Value.slice ga 256 gc).ownBlock=some i) (e:i=N)=>show False from by have:=bG L J;have:=X.out;omega);have HG:=O (aQ L qz.out);clear L;go_wp2_with fail;refine⟨G,?_⟩;refine tnb 6 (.slice ga 256 gc) rfl G ?_;refine tnb 7 (.int .i64 0) rfl G ?_;refine tna 8 (.slice ga 256 gc) rfl G ?_;refine wA9 9 ?_;refine stV (.int .i64 0) (o.b 1) ?_;intro w9 b R;have ql:=qa.out _ ((H _ G).tT b (fun i J e=>(e)));clear G;replace o:=O (o.set 1 b R);replace y:=O (K.keep0 o.keep);replace j:=O (z.keep o.keep fun _ _=>id);replace q:=O (q.keep b fun i J e=>qf.out i J e);replace HG:=O (b.owns HG.out fun i J e=>qr.out i J e);clear b R;refine wpList_nil ?_;refine⟨ql,?_⟩;refine wpAnyH_done (by kernel_rfl) ?_ _;clear ql H qa Y qe qj qk;refine noP ?_;have HR:=O o.keep;have qd:=O (o.b 1);clear o y j K z q;go_wp2_with fail;refine leaves_cons (f:=39) (args:=#[.pointer c,.pointer N]) (by simp) (by simp[go_sem]) ?_;refine(lQ w9 c N 0 _ qd.out (by decide)).mono ?_;rintro e u' q3 ⟨rfl,rfl,b⟩;have c5:q3.cell? ⟨N,0,none⟩=some (.int .i64 0):=aC (i:=0) (b.blk qd.out id) rfl;refine⟨_,AO rfl _ _ _ ⟨N,0,none⟩ (.int .i64 0) rfl (by go_simp),?_⟩;exact⟨_,rfl,b.owns HG.out fun _ _=>id,HR.trans b⟩
structure fI(w:World)(c a m lb g b2:Nat)(yv:Value)(lc:Nat->Option Nat)(pid:List UInt8)(cp:Nat)(t:Lst)(B:Nat->Prop)(D Z:Nat)(Mm:Nat->Nat->List UInt8)(nw:Nat)(Ls:List Ad):Prop where
 cor:eJ w c a m lb yv pid cp (.pointer (some ⟨g,0,none⟩)) t B D Z Mm nw
 led:dA w 0 g b2 lc D Z Ls
 far:∀k,Own g b2 lc D k->¬B k/\k≠c/\k≠m/\k≠lb/\¬t.Own k
 top:¬B c/\¬B m/\¬B lb/\∀i,t.Own i->¬B i/\i≠c/\i≠m/\i≠lb
 many:nw+jD (bN Ls D Z)≤40000+8*t.u.txg.toNat
theorem fI.keep0(h:fI w c a m lb g b2 yv lc pid cp t B D Z Mm nw Ls)(k:aA aB w w'):fI w' c a m lb g b2 yv lc pid cp t B D Z Mm nw Ls:=⟨h.cor.keep0 k,h.led.keep0 k,h.far,h.top,h.many⟩
theorem dV.kp{b:List Int}{cp:Int}{e:Ending}(h:dV w b th cp e w'):aA aB w w':=by
 unfold dV at h;split at h
 ·obtain⟨N,-,-,f⟩:=h
  exact f
 ·exact h.2
theorem K7(D:Nat):(List.replicate D true).map Value.bool=lA D:=by unfold lA;rw[List.map_replicate]
theorem Fg{base:Nat}(h:w.ownsRow base 4 1 v D (lA D)):Rd w 1 v (List.replicate D true).length ((List.replicate D true).map Value.bool):=by
 rw[K7,List.length_replicate];exact Rd.of_owns h
theorem K8(h:fI w c a m lb g b2 yv lc pid cp t B D Z Mm nw Ls):Calls prog 11 #[.pointer c] w (dV w (bN Ls D Z) (List.replicate D true) (cp:Int)):=by
 have b:=O h;have o:=lN w;clear h;go_in;go_wp2_with fail;refine(C7 b.cor.cor b.cor.arr g rfl).mono ?_;rintro e R ⟨rfl,f⟩;replace o:=kL o f;replace b:=O (b.keep0 f);clear f;go_wp2_with fail;refine dwA aB (by kernel_rfl) ?_;intro U S q u r y;replace o:=kL o y;replace b:=O (b.keep0 y);clear y;have F:=o;have s:=b;refine tna 0 (.pointer c) rfl r ?_;refine tnb 1 (.pointer c) rfl r ?_;refine tnb 2 (.pointer (some ⟨c,36,none⟩)) rfl r ?_;refine tnd 3 (.pointer g) rfl (.inl ⟨by rfl,fun w' z=>by have c:World.cell? w' ⟨c,36,none⟩=some (.pointer g):=(q w' z).cell (aT.gv_ s.cor.cor) id;go_simp⟩) r ?_;refine tna 4 (.pointer c) rfl r ?_;refine tna 6 (.pointer c) rfl r ?_;refine tnb 7 (.pointer c) rfl r ?_;refine tnb 8 (.pointer (some ⟨c,34,none⟩)) rfl r ?_;refine tnd 9 (.int .i64 (cp:Int)) rfl (.inl ⟨by rfl,fun w' z=>by have c:World.cell? w' ⟨c,34,none⟩=some (.int .i64 (cp:Int)):=(q w' z).cell (aT.cp_ s.cor.cor) id;go_simp⟩) r ?_;refine wA9 5 ?_;go_wp2_with fail;refine(zD b.cor).mono ?_;rintro e K ⟨M,rfl,G,f⟩;obtain⟨L,wc,rfl,-,-⟩:=(Rd.of_owns G).form;have A:=O G;clear G;have x:=u.out _ ((q _ r).trans f);replace o:=kL o f;replace b:=O (b.keep0 f);clear r f;go_wp2_with fail;refine⟨x,?_⟩;refine wA9 10 ?_;go_wp2_with fail;have E:=O o.keep;refine(Mz K 0 g b2 D Z lc Ls b.led (.slice L D wc) (List.replicate D true) (cp:Int) (Fg A.out)).mono ?_;rintro e V C;obtain⟨N,H,rfl⟩:=C.form;have f:=C.kp;have J:=O (C.of E.out);clear C;have j:=u.out _ ((q _ x).trans f);replace o:=kL o f;replace b:=O (b.keep0 f);replace A:=O (f.owns A.out fun _ _=>id);clear x f;go_wp2_with fail;refine⟨j,?_⟩;refine tnb 11 (.int .i64 (N:Int)) rfl j ?_;refine tnb 12 (.int .i64 H) rfl j ?_;refine tna 13 (.int .i64 (N:Int)) rfl j ?_;refine tna 14 (.int .i64 H) rfl j ?_;refine wpAnyH_done (by kernel_rfl) ?_ _;clear j q u F s;have I:=O (o.keep);clear o b A;go_wp2
 go_ret2
 exact J.out
theorem IQ{M:List Ad}(e:bL (bN M D Z) th cp=some l):jD (bN (M++aU M Z l) D Z)+l.length=jD (bN M D Z):=by
 rw[zY e];have b:=eM e;refine GK l _ b.2.2.2.1 fun i f=>⟨(b.2.2.2.2 i f).1,?_⟩
 have:=(b.2.2.2.2 i f).2;unfold dU at this;simp only[Bool.and_eq_true,decide_eq_true_eq] at this;omega
theorem Nt(b:List UInt8)(l:List Ad)(Mm:Nat->Nat->List UInt8)(f:∀x∈l,bW x D Z)(d:Nat):fP b l Mm d 0=Mm d 0:=
 vG b l Mm d 0 fun x h e=>by
  have:=(f x h).2.2;have:=e.2;omega
theorem fI.lt(h:fI w c a m lb g b2 yv lc pid cp t B D Z Mm nw Ls)(e:B k\/Own g b2 lc D k):k<w.heap.size:=
 e.elim (fun b=>h.cor.arr.lt b) fun b=>(h.led.own_lt b).2
theorem Po(v:Value)(p:Pt)(h:p.sum.length=32):spl (spl (spl (spl eK.toArray 0 [v]) 1 [.int .i64 p.birth]) 2 [.int .i64 p.level]) 3 (p.sum.map vb)=(aL v p).toArray:=by
 have e:spl (spl (spl eK.toArray 0 [v]) 1 [.int .i64 p.birth]) 2 [.int .i64 p.level]=(v::.int .i64 p.birth::.int .i64 p.level::(List.replicate 32 (Value.int .u8 0))).toArray:=by rfl
 rw[e];have b:(p.sum.map vb).length=32:=by rw[List.length_map,h]
 apply Array.ext_getElem?;intro j;rw[jR _ _ _ _ (by rw[b];simp),b];unfold aL;rw[List.getElem?_toArray,List.getElem?_toArray]
 match j with
 | 0=>rfl
 | 1=>rfl
 | 2=>rfl
 | j+3 =>
   by_cases f:j<32
   ·rw[if_pos ⟨by omega,by omega⟩,Nat.add_sub_cancel];rfl
   ·rw[if_neg (by omega),List.getElem?_eq_none (by simp;omega),List.getElem?_eq_none (by simp[h];omega)]
theorem fI.keepT(h:fI w c a m lb g b2 yv lc pid cp t B D Z Mm nw Ls)(k:aA T w w')(b:∀i,T i->i≠c/\i≠m/\i≠lb/\¬B i/\¬Own g b2 lc D i/\¬t.Own i):fI w' c a m lb g b2 yv lc pid cp t B D Z Mm nw Ls:=
 ⟨h.cor.keep k fun i e=>⟨(b i e).1,(b i e).2.1,(b i e).2.2.1,(b i e).2.2.2.1,(b i e).2.2.2.2.2⟩,h.led.keep k fun i e=>(b i e).2.2.2.2.1,h.far,h.top,h.many⟩
theorem fI.fresh(h:fI w c a m lb g b2 yv lc pid cp t B D Z Mm nw Ls){b:Nat}(q:w.heap.size≤b):∀i,i=b->i≠c/\i≠m/\i≠lb/\¬B i/\¬Own g b2 lc D i/\¬t.Own i:=by
 rintro i rfl;have f:=lt_of_block h.cor.cor.top;have j:=lt_of_block h.cor.mir;have o:=h.cor.liv.lt;exact⟨by omega,by omega,by omega,fun e=>by have:=h.lt (.inl e);omega,fun e=>by have:=h.lt (.inr e);omega,fun e=>by have:=h.cor.cor.lst.lt e;omega⟩
theorem mD{q:Tmp}{e r:TypeId}(h:fn.results=#[.cell p e,.cell q r])(tmps:Array Value)(w:World)(g:Nat)(t:TypeId)(b:Array Value)(f:Nat×Nat)(d:TypeDesc)
 (j:tmps.getD p undef=.pointer g) (u:w.heap[g]?=some (.cells b t f)) (z:P.underlying e=some d) (s:(match d with|.struct _|.array _ _=>true|_=>false)=true) (y:(P.info? e).map (·.size)=some b.size)
 (a:Addr) (x:Value) (o:tmps.getD q undef=.pointer (some a)) (A:(loadVar r a).run P w=.ok x w):(results fn tmps).run P w=.ok (.tuple #[.agg b,x]) w:=by
 simp only[Array.getD_eq_getD_getElem?] at j o;simp[results,h,j,o,asAddr,Sem.run_bind,Result.andThen,run_loadVar_row w g t e b f d u z s y,A]
def Fh(w:World)(c a m lb g b2:Nat)(yv:Value)(lc:Nat->Option Nat)(pid:List UInt8)(cp:Nat)(t:Lst)(B:Nat->Prop)(D Z:Nat)(Mm:Nat->Nat->List UInt8)(nw:Nat)(Ls:List Ad)(lv:Nat)(h:List UInt8)(b:List Ad)(e:Ending)(w':World):Prop:=
 ∃v f,e=.returned (.tuple #[.agg (aL v ⟨b,t.u.txg+1,(lv:Int),bU h⟩).toArray,.int .i64 0])/\w'.ownsRow w.heap.size 93 2 v b.length (aJ b)/\fI w' c a m lb g b2 yv lc pid cp t f D Z (fP h b Mm) (nw+b.length) (Ls++b)/\(∀k,f k->B k\/w.heap.size≤k)/\(∀k,v.ownBlock=some k->¬f k/\¬Own g b2 lc D k)/\aA (fun k=>B k\/Own g b2 lc D k) w w'
theorem G2(h:fI w c a m lb g b2 yv lc pid cp t B D Z Mm nw Ls)(ht:0≤t.u.txg/\t.u.txg<2147483648)(lv:Nat)(qw:lv≤3)(vv:Value)(bs:List UInt8)(K:bs.length=256)(z:Rd w 1 vv 256 (bs.map vb))(qh:∀i,vv.ownBlock=some i->¬B i/\¬Own g b2 lc D i)(hc:bL (bN Ls D Z) (List.replicate D true) cp=none):Calls prog 12 #[.pointer c,.int .i64 (lv:Int),vv] w (aN w (.tuple #[.agg eK.toArray,.int .i64 15])):=by
 obtain⟨vp,vc,rfl,-,-⟩:=z.form;have qn:=h.led.bd;have M:=h.cor.cpb;have qk:=O (AD (L:=Ls) qn (List.length_replicate (n:=D) (a:=true)) M.1 M.2.1);have qj:=O hc;have qp:¬((lv:Int)<0):=by omega
 have qq:¬((3:Int)<(lv:Int)):=by omega
 have qx:¬((2147483648:Int)≤t.u.txg):=by omega
 have HT:=O ht;have qr:=O K;have qv:=O qh;have qt:=O M
 have qm:Hid (∀i,(Value.slice vp 256 vc).ownBlock=some i->i<w.heap.size):=O (fun i E=>by
  obtain⟨k,R,U⟩:=z.lt (by rw[List.length_map,K];decide);rw[R] at E;cases E;exact U)
 have r:=O h;have o:=O z;have qa:=O h;have q:=lN w;clear h z qh ht K hc
 go_enter_defers func12,ntmps12
 go_wp2_with refine alM q eX ?_
 intro N w1 b q;replace r:=O (r.keep0 b);replace o:=O (o.keep b fun _ _=>id);clear b
 go_wp2_with refine alS q qQ ?_
 intro C w2 b q;replace r:=O (r.keep0 b);replace o:=O (o.keep b fun _ _=>id);clear b;go_wp2_with fail;refine(kO r.cor.cor r.cor.arr).mono ?_;rintro e w3 ⟨rfl,b⟩;replace q:=kL q b;replace r:=O (r.keep0 b);replace o:=O (o.keep b fun _ _=>id);clear b;have c1:w3.cell? ⟨c,36,none⟩=some (.pointer g):=(aT.gv_ r.cor.cor)
 have c2:w3.cell? ⟨c,39,none⟩=some (.int .i64 t.u.txg):=(aT.txg_ r.cor.cor)
 go_wp2_with fail;clear c1 c2
 have qe:Hid (¬(c=C\/B c\/Own g b2 lc D c)):=O (by
  rintro (e|e|e)
  ·have:=lt_of_block qa.cor.cor.top;have:=(q.lt 0).1;omega
  ·exact r.top.1 e
  ·exact(r.far c e).2.1 rfl)
 have V:=O (q.lt 0);have ql:=O (qa.fresh V.1);go_wp2_with fail;refine dwB (fun k=>k=C\/B k\/Own g b2 lc D k) (by kernel_rfl) ?_;intro w4 S j y x F;replace q:=kL q F;replace r:=O (r.keep0 F);replace o:=O (o.keep F fun _ _=>id);clear F;have qd:=q;have H:=r;have qf:=o;refine tna 0 (.pointer c) rfl x ?_;refine tnb 1 (.pointer c) rfl x ?_;refine tnb 2 (.pointer (some ⟨c,36,none⟩)) rfl x ?_;refine tnd 3 (.pointer g) rfl (.inl ⟨by rfl,fun w' A=>by have c:World.cell? w' ⟨c,36,none⟩=some (.pointer g):=(j w' A).cell (aT.gv_ H.cor.cor) qe.out;go_simp⟩) x ?_;refine tna 4 (.pointer c) rfl x ?_;refine tna 6 (.pointer c) rfl x ?_;refine tnb 7 (.pointer c) rfl x ?_;refine tnb 8 (.pointer (some ⟨c,34,none⟩)) rfl x ?_;refine tnd 9 (.int .i64 (cp:Int)) rfl (.inl ⟨by rfl,fun w' A=>by have c:World.cell? w' ⟨c,34,none⟩=some (.int .i64 (cp:Int)):=(j w' A).cell (aT.cp_ H.cor.cor) qe.out;go_simp⟩) x ?_;refine wA9 5 ?_;go_wp2_with fail;refine(zD r.cor).mono ?_;rintro e w5 ⟨v1,rfl,ho,b⟩;obtain⟨wa,wc,rfl,-,-⟩:=(Rd.of_owns ho).form;have I:=O ho;clear ho;have s:=y.out _ ((j _ x).trans b.any);replace q:=kL q b;replace r:=O (r.keep0 b);replace o:=O (o.keep b fun _ _=>id);clear x b;go_wp2_with fail;refine⟨s,?_⟩;refine wA9 10 ?_;go_wp2_with fail;refine(Ex w5 0 g b2 D Z lc Ls r.led (.slice wa D wc) (List.replicate D true) (cp:Int) (Fg I.out)).mono ?_;rintro e w6 hm;unfold jG at hm;rw[if_pos qk.out,Int.toNat_natCast,qj.out] at hm;obtain⟨rfl,b⟩:=hm;have u:=y.out _ ((j _ s).trans b.any);replace q:=kL q b;replace r:=O (r.keep0 b);replace o:=O (o.keep b fun _ _=>id);replace I:=O (b.owns I.out fun _ _=>id);clear s b;go_wp2_with fail;refine⟨u,?_⟩;refine tna 11 (.tuple #[.slice none 0 0,.int .i64 15]) rfl u ?_;refine tnb 12 (.slice none 0 0) rfl u ?_;refine tnb 13 (.int .i64 15) rfl u ?_;refine tna 14 (.slice none 0 0) rfl u ?_;refine wA9 15 ?_;refine stV (.int .i64 15) (q.b 0) ?_;intro w7 b z;have qg:=y.out _ ((j _ u).tT b (fun i E e=>.inl e));clear u;replace q:=O (q.set 0 b z);replace r:=O (r.keepT b ql.out);replace o:=O (o.keep b (fun i E e=>by have:=qm.out i E;have:=V.1;omega));replace I:=O (b.owns I.out fun i E e=>by have:=bG I.out E;have:=(qd.lt 0).2;omega);clear b z;refine wpList_nil ?_;refine⟨qg,?_⟩;refine wpAnyH_done (by kernel_rfl) ?_ _;clear qg j y qd H qf;refine noP ?_;have c1:=cD q 0
 go_wp2_with fail;clear c1;have W:=O (q.b 1);have X:=O (q.b 0);have G:=O (And.intro (q.lt 1).1 (q.lt 0).1);have qc:Hid (aA aB w w7):=O q.keep;clear q r o I;obtain⟨S,J⟩:∃S:World->Prop,S=fun w'=>aA aB w w'/\w'.heap[N]?=some (.cells eK.toArray 33 (0,0))/\w'.heap[C]?=some (.cells #[.int .i64 15] 37 (0,0)):=⟨_,rfl⟩
 have j:=O (show ∀w',S w'->_ from fun w' h=>by rw[J] at h;exact h);have y:=O (show ∀w',_->S w' from fun w' h=>by rw[J];exact h);have x:S w7.drew:=y.out _ ⟨qc.drew,W.out,X.out⟩;clear J W X qc;refine sG (S:=S) (by kernel_rfl) ?_;change wpAnyH _ _ _ _ _ _ _ _ w7.drew;generalize w7.drew=wy at x ⊢;refine tnd 0 (.agg eK.toArray) rfl (yieldsIf_load_mid (by rfl) 33 (.tmp 6) rfl N 0 rfl eK _ (fun w' h=>aD (j w' h).2.1) bJ rfl (szP9 aW)) x ?_;refine tnd 1 (.int .i64 15) rfl (.inl ⟨by rfl,fun w' A=>by have c:World.cell? w' ⟨C,0,none⟩=some (.int .i64 15):=aC (i:=0) (j w' A).2.2 rfl;go_simp⟩) x ?_;have qu:=G;refine wA9 2 ?_;refine sta 33 (.tmp 6) (.tmp 63) N 0 eK (j _ x).2.1 (by rw[List.size_toArray,Nat.zero_add];exact Nat.le_refl _) (szP9 aW) (dE zPt) ?_;intro wz b z;rw[aI _ _ (by rw[List.size_toArray])] at z
 have s:S wz:=y.out _ ⟨(j _ x).1.tT b (fun i E e=>by have:=G.1;omega),z,by
  by_cases e:C=N
  ·have R:=(j _ x).2.1;have U:=(j _ x).2.2
   rw[e,R] at U;cases U
  ·exact b.blk (j _ x).2.2 e⟩
 clear x b z;refine wpList_nil ?_;refine⟨s,?_⟩;refine wA9 3 ?_;refine stV (.int .i64 15) (j _ s).2.2 ?_;intro wu b z;have u:S wu:=y.out _ ⟨(j _ s).1.tT b (fun i E e=>by have:=G.2;omega),by
  by_cases e:N=C
  ·have R:=(j _ s).2.1;have U:=(j _ s).2.2
   rw[e,U] at R;cases R
  ·exact b.blk (j _ s).2.1 e,z⟩
 clear s b z;refine wpList_nil ?_;refine⟨u,?_⟩;refine wpAnyH_done (by kernel_rfl) ?_ _;refine noP ?_;have HR:=O (j _ u);clear j y u;have Y:=O HR.2.2;have qi:=O HR.2.1;go_wp2_with fail;refine leaves_cons (f:=39) (args:=#[.pointer c,.pointer C]) (by simp) (by simp[go_sem]) ?_;refine(lQ wu c C 15 _ Y.out (by decide)).mono ?_;rintro e u' qo ⟨rfl,rfl,b⟩;have c7:qo.cell? ⟨C,0,none⟩=some (.int .i64 15):=aC (i:=0) (b.blk Y.out id) rfl;refine⟨_,mD rfl _ _ N _ _ _ _ rfl (b.blk qi.out id) bJ rfl (by rw[List.size_toArray,aW];exact mI) ⟨C,0,none⟩ (.int .i64 15) rfl (by go_simp),?_⟩;exact⟨rfl,HR.1.trans b⟩
theorem IR{L:List Ad}(h:l.Nodup):((aU L Z l).map (·.dev)).Nodup:=by
 unfold aU;rw[List.map_map];have:((fun(x:Ad)=>x.dev) ∘ fun(d:Nat)=>(⟨(d:Int),(aZ L d Z).headD 0⟩:Ad))=fun(d:Nat)=>(d:Int):=rfl
 rw[this];show List.Pairwise _ _;rw[List.pairwise_map];exact h.imp fun h e=>h (by exact_mod_cast e)
theorem K9(b:bL (bN Ls D Z) (List.replicate D true) cp=some l)(f:1≤cp)(h:cp≤3)(j:cp≤D):1≤(aU Ls Z l).length/\(aU Ls Z l).length≤3:=by
 have:=(eM b).2.1;have e:upN (List.replicate D true)=D:=by unfold upN;rw[List.countP_replicate];rfl
 rw[mW,this];unfold kU;rw[e];omega
theorem C8(h:fI w c a m lb g b2 yv lc pid cp t B D Z Mm nw Ls)(ht:0≤t.u.txg/\t.u.txg<2147483648)(lv:Nat)(xc:lv≤3)(vv:Value)(bs:List UInt8)(q0:bs.length=256)(C:Rd w 1 vv 256 (bs.map vb))(zn:∀i,vv.ownBlock=some i->¬B i/\¬Own g b2 lc D i)(zl:∀x,bW x D Z->fC x)(hc:bL (bN Ls D Z) (List.replicate D true) cp=some l):Calls prog 12 #[.pointer c,.int .i64 (lv:Int),vv] w (Fh w c a m lb g b2 yv lc pid cp t B D Z Mm nw Ls lv bs (aU Ls Z l)):=by
 have q4:=K9 hc h.cor.cpb.1 h.cor.cpb.2.1 h.cor.cpb.2.2;have qm:Hid (∀x∈aU Ls Z l,bW x D Z):=O fun x hx=>(Ch h.led.bd).1 (CS h.led.bd hc hx).1
 have za:=O (IR (L:=Ls) (Z:=Z) (eM hc).2.2.2.1);have zf:=O (IQ hc);have qw:Hid (l.length=(aU Ls Z l).length):=O (mW _ _ _).symm;have zd:=O h.many;have A:=O h.top;have qr:=O h.far;obtain⟨K,q3⟩:=zX9 (aU Ls Z l)
 have zw:=O q3;rw[q3] at q4 qm za zf qw ⊢;have qu:=O q4;have zq:Hid (jF K):=O fun x hx=>zl x (qm x hx)
 clear q4 q3 zl;obtain⟨vp,vc,rfl,-,-⟩:=C.form;have z2:=h.led.bd;have q1:=h.cor.cpb;have zu:=O (AD (L:=Ls) z2 (List.length_replicate (n:=D) (a:=true)) q1.1 q1.2.1);have zt:=O hc;have z7:¬((lv:Int)<0):=by omega
 have xa:¬((3:Int)<(lv:Int)):=by omega
 have xe:¬((2147483648:Int)≤t.u.txg):=by omega
 have HT:=O ht;have qt:=O q0;have qy:=O zn;have xb:=O q1
 have W:Hid (∀i,(Value.slice vp 256 vc).ownBlock=some i->i<w.heap.size):=O (fun i q=>by
  obtain⟨k,h1,h2⟩:=C.lt (by rw[List.length_map,q0];decide);rw[h1] at q;cases q;exact h2)
 have E:=O h;have j:=O C;have G:=O h;have r:=O (Loc.nil (fun k=>B k\/Own g b2 lc D k) (fun k=>B k\/Own g b2 lc D k) w);clear h C zn ht q0 hc
 go_enter_defers func12,ntmps12
 go_wp2_with refine alA eX ?_
 intro X w1 qj b C;replace r:=O (r.new (fun k h=>E.lt h) qj b C);replace E:=O (E.keep0 b);replace j:=O (j.keep b fun _ _=>id);clear qj b C
 go_wp2_with refine alB qQ ?_
 intro b7 w2 qj b C;replace r:=O (r.new (fun k h=>E.lt h) qj b C);replace E:=O (E.keep0 b);replace j:=O (j.keep b fun _ _=>id);clear qj b C;go_wp2_with fail;refine(kO E.cor.cor E.cor.arr).mono ?_;rintro e w3 ⟨rfl,b⟩;replace r:=kL r b;replace E:=O (E.keep0 b);replace j:=O (j.keep b fun _ _=>id);clear b;have c1:w3.cell? ⟨c,36,none⟩=some (.pointer g):=(aT.gv_ E.cor.cor)
 have c2:w3.cell? ⟨c,39,none⟩=some (.int .i64 t.u.txg):=(aT.txg_ E.cor.cor)
 go_wp2_with fail;clear c1 c2
 have ze:Hid (¬(c=b7\/B c\/Own g b2 lc D c)):=O (by
  rintro (e|e|e)
  ·have:=lt_of_block G.cor.cor.top;have:=(r.lt 0).1;omega
  ·exact E.top.1 e
  ·exact(E.far c e).2.1 rfl)
 have q5:=O (r.lt 0);have U:=O (G.fresh q5.1);go_wp2_with fail;refine dwB (fun k=>k=b7\/B k\/Own g b2 lc D k) (by kernel_rfl) ?_;intro w4 S z H M N;replace r:=kL r N;replace E:=O (E.keep0 N);replace j:=O (j.keep N fun _ _=>id);clear N;have qx:=r;have qv:=E;have qi:=j;refine tna 0 (.pointer c) rfl M ?_;refine tnb 1 (.pointer c) rfl M ?_;refine tnb 2 (.pointer (some ⟨c,36,none⟩)) rfl M ?_;refine tnd 3 (.pointer g) rfl (.inl ⟨by rfl,fun w' ql=>by have c:World.cell? w' ⟨c,36,none⟩=some (.pointer g):=(z w' ql).cell (aT.gv_ qv.cor.cor) ze.out;go_simp⟩) M ?_;refine tna 4 (.pointer c) rfl M ?_;refine tna 6 (.pointer c) rfl M ?_;refine tnb 7 (.pointer c) rfl M ?_;refine tnb 8 (.pointer (some ⟨c,34,none⟩)) rfl M ?_;refine tnd 9 (.int .i64 (cp:Int)) rfl (.inl ⟨by rfl,fun w' ql=>by have c:World.cell? w' ⟨c,34,none⟩=some (.int .i64 (cp:Int)):=(z w' ql).cell (aT.cp_ qv.cor.cor) ze.out;go_simp⟩) M ?_;refine wA9 5 ?_;go_wp2_with fail;refine(zD E.cor).mono ?_;rintro e w5 ⟨v1,rfl,ho,b⟩;obtain⟨wa,wc,rfl,-,-⟩:=(Rd.of_owns ho).form;have HO:=O ho;clear ho;have Y:=H.out _ ((z _ M).trans b.any);replace r:=kL r b;replace E:=O (E.keep0 b);replace j:=O (j.keep b fun _ _=>id);clear M b;go_wp2_with fail;refine⟨Y,?_⟩;refine wA9 10 ?_;go_wp2_with fail;have zp:=O (r.lt 0).2;have zo:=O (r.lt 1).2;have zi:=O r.keep.size;refine(Ex w5 0 g b2 D Z lc Ls E.led (.slice wa D wc) (List.replicate D true) (cp:Int) (Fg HO.out)).mono ?_;rintro e w6 hm;unfold jG at hm;rw[if_pos zu.out,Int.toNat_natCast,zt.out] at hm;dsimp only at hm;obtain⟨v1,rfl,qk,ho,b⟩:=hm;rw[zw.out] at qk ho;rw[qw.out] at ho;obtain⟨ta,tc,rfl,-,-⟩:=(Rd.of_owns ho).form;have I:=H.out _ ((z _ Y).trans (b.mono fun k _ e=>.inr (.inr e)));have J:=O (E.cor.keep b (fun i e=>⟨(E.far i e).2.1,(E.far i e).2.2.1,(E.far i e).2.2.2.1,(E.far i e).1,(E.far i e).2.2.2.2⟩));have y:=O qk;have qn:=O (fun(i:Nat) (q:(Value.slice ta K.length tc).ownBlock=some i)=>show w.heap.size≤i from by have:=bG ho q;have:=zi.out;omega);have V:=O (fun(i:Nat) (q:(Value.slice ta K.length tc).ownBlock=some i)=>show b7<i from by have:=bG ho q;have:=zp.out;omega);have qg:=O (fun(i:Nat) (q:(Value.slice ta K.length tc).ownBlock=some i)=>show X<i from by have:=bG ho q;have:=zo.out;omega);have s:=O (aQ ho zi.out);replace j:=O (j.keep b fun i q e=>(qy i q).2 e);replace r:=O (r.turn (B':=(fun k=>B k\/Own g b2 lc D k)) (b.mono fun k _ e=>.inr e) (fun _ _ h=>h) (fun _ _ h=>h));clear E HO b qk ho Y;go_wp2_with fail;refine⟨I,?_⟩;refine tna 11 (.tuple #[.slice ta K.length tc,.int .i64 0]) rfl I ?_;refine tnb 12 (.slice ta K.length tc) rfl I ?_;refine tnb 13 (.int .i64 0) rfl I ?_;refine tna 14 (.slice ta K.length tc) rfl I ?_;refine wA9 15 ?_;refine stV (.int .i64 0) (r.b 0) ?_;intro w7 b C;have qa:=H.out _ ((z _ I).tT b (fun i q e=>.inl e));clear I;replace r:=O (r.set 0 b C);replace j:=O (j.keep b (fun i q e=>by have:=W.out i q;have:=q5.1;omega));replace J:=O (J.keep b (fun i e=>⟨(U i e).1,(U i e).2.1,(U i e).2.2.1,(U i e).2.2.2.1,(U i e).2.2.2.2.2⟩));replace y:=O (y.keep b (fun i e=>(U i e).2.2.2.2.1));replace s:=O (b.owns s.out fun i q e=>by have:=V.out i q;omega);clear b C;refine wpList_nil ?_;refine⟨qa,?_⟩;refine wpAnyH_done (by kernel_rfl) ?_ _;clear qa z H qx qv qi;refine noP ?_;have c1:=cD r 0
 have c2:w7.cell? ⟨c,1,none⟩=some (.pointer m):=(aT.c1 J.cor)
 go_wp2_with fail;clear c1 c2;have z1:=O r.keep.size;have zg:=O (fun(i:Nat) (q:(Value.slice ta K.length tc).ownBlock=some i)=>show i<w7.heap.size from by obtain⟨k,h1,h2⟩:=(Rd.of_owns s.out).lt (by rw[oM];have:=qu.1;omega);rw[q] at h1;cases h1;exact h2);refine(Ng J.arr J.mir A.2.1 (.slice ta K.length tc) K (Rd.of_owns s.out) qm.out za.out zq.out qu.1 qu.2 (fun i q e=>by have:=qn.out i q;have:=G.lt (.inl e);omega) (.slice vp 256 vc) bs qt.out j.out (fun i q=>(qy i q).1) (by have:=zd.out;have:=HT.out;omega)).mono ?_;rintro e w8 ⟨rfl,B2,zk,qq,R⟩;have o:Hid (eJ w8 c a m lb yv pid cp (.pointer g) t B2 D Z (fP bs K Mm) (nw+K.length)):=O ⟨J.cor.keep R A.1 (fun i e h=>(A.2.2.2 i h).1 e),zk,R.blk J.mir A.2.1,J.liv.keep R A.2.2.1,J.cpb,fun d hd=>by rw[Nt bs K Mm qm.out d];exact J.lab d hd⟩;replace y:=O (y.keep R (fun i e h=>(qr i h).1 e));replace s:=O (R.owns s.out (fun i q e=>by have:=qn.out i q;have:=G.lt (.inl e);omega));replace j:=O (j.keep R (fun i q e=>(qy i q).1 e));have zz:=O (fun(i:Nat) (q:(Value.slice ta K.length tc).ownBlock=some i)=>show ¬B2 i/\¬Own g b2 lc D i from⟨fun e=>by have h1:=qn.out i q;have h2:=zg.out i q;rcases qq i e with h|h;(have:=G.lt (.inl h);omega);omega,fun e=>by have h1:=qn.out i q;have:=G.lt (.inr e);omega⟩);have qf:=O (fun(k:Nat) (e:B2 k)=>show B k\/w.heap.size≤k from(qq k e).imp (fun h=>h) (fun h=>Nat.le_trans z1.out h));replace r:=O (r.turn (B':=fun k=>B2 k\/Own g b2 lc D k) (R.mono fun k _ e=>.inl e) (fun _ _ h=>h) (fun k b e=>e.elim (fun e=>(qq k e).elim (fun h=>.inl h) (fun h=>absurd b (by omega))) (fun h=>.inr h)));clear J zk qq R;go_wp2_with fail
 have F:Hid (∀i,(i=X\/i=b7)->i≠c/\i≠m/\i≠lb/\¬B2 i/\¬Own g b2 lc D i/\¬t.Own i):=O (by
  rintro i (rfl|rfl)
  ·have h:=G.fresh (r.lt 1).1 _ rfl
   exact⟨h.1,h.2.1,h.2.2.1,fun e=>((r.aq 1)) (.inl e),h.2.2.2.2⟩
  ·have h:=G.fresh (r.lt 0).1 _ rfl
   exact⟨h.1,h.2.1,h.2.2.1,fun e=>((r.aq 0)) (.inl e),h.2.2.2.2⟩)
 have zx:Hid (¬(c=X\/c=b7)):=O (fun e=>(F c e).1 rfl);have qd:=O (r.lt 1).1;have qe:=O (r.lt 0).1;obtain⟨dg,qc⟩:=zX9 ((bU bs).map vb)
 have zm:dg.length=32:=by rw[←qc,List.length_map,dB]
 have zv:Hid (∀u∈dg,u.oneCell'=true):=O (by rw[←qc];exact bA _);have q9:=O qc;have xd:0≤t.u.txg:=HT.1;clear qc U;go_wp2_with fail;refine dwB (fun k=>k=X\/k=b7) (by kernel_rfl) ?_;intro w9 S z H M N;replace r:=kL r N;replace j:=O (j.keep N fun _ _=>id);replace y:=O (y.keep0 N);replace s:=O (N.owns s.out fun _ _=>id);replace o:=O (o.keep0 N);clear N;have qx:=r;have qi:=j;have zb:=y;have zh:=s;have qh:=o;refine tna 0 (.slice ta K.length tc) rfl M ?_;refine tna 1 (.pointer c) rfl M ?_;refine tnb 2 (.pointer c) rfl M ?_;refine tnb 3 (.pointer (some ⟨c,39,none⟩)) rfl M ?_;refine tnb 4 (.pointer (some ⟨c,39,none⟩)) rfl M ?_;refine tnd 5 (.int .i64 t.u.txg) rfl (.inl ⟨by rfl,fun w' ql=>by have c:World.cell? w' ⟨c,39,none⟩=some (.int .i64 t.u.txg):=(z w' ql).cell (aT.txg_ qh.cor) zx.out;go_simp⟩) M ?_;refine tnd 6 (.int .i64 (t.u.txg+1)) rfl (.inl ⟨by rfl,fun _ _=>by go_simp;exact IntWalk.i64_in _ (by omega)⟩) M ?_;refine tna 7 (.int .i64 (lv:Int)) rfl M ?_;refine tna 8 (.slice vp 256 vc) rfl M ?_;refine wA9 9 ?_;go_wp2_with fail;refine(yX _ bs w9 (by rw[qt.out];exact j.out) (by rw[qt.out];decide)).mono ?_;rintro e wa ⟨rfl,b⟩;have Y:=H.out _ ((z _ M).trans b.any);replace r:=kL r b;replace j:=O (j.keep b fun _ _=>id);replace y:=O (y.keep0 b);replace s:=O (b.owns s.out fun _ _=>id);replace o:=O (o.keep0 b);clear M b;rw[q9.out];go_wp2_with fail;refine⟨Y,?_⟩;refine wA9 10 ?_;refine sta 33 (.tmp 6) (.const (.agg #[.slice none 0 0,.int .i64 0,.int .i64 0,.int .u8 0,.int .u8 0,.int .u8 0,.int .u8 0,.int .u8 0,.int .u8 0,.int .u8 0,.int .u8 0,.int .u8 0,.int .u8 0,.int .u8 0,.int .u8 0,.int .u8 0,.int .u8 0,.int .u8 0,.int .u8 0,.int .u8 0,.int .u8 0,.int .u8 0,.int .u8 0,.int .u8 0,.int .u8 0,.int .u8 0,.int .u8 0,.int .u8 0,.int .u8 0,.int .u8 0,.int .u8 0,.int .u8 0,.int .u8 0,.int .u8 0,.int .u8 0])) X 0 (eK) (r.b 1) (by simp[aW]) (szP9 aW) (dE zPt) ?_;intro wb b C;rw[aI _ _ (by rw[List.size_toArray])] at C;have I:=H.out _ ((z _ Y).trans (b.mono fun k _ e=>.inl e));clear Y;replace r:=O (r.set 1 b C);replace j:=O (j.keep b (fun i q e=>by have:=W.out i q;have:=qd.out;have:=qe.out;omega));replace y:=O (y.keep b (fun i e=>(F i (.inl e)).2.2.2.2.1));replace s:=O (b.owns s.out fun i q e=>by have:=V.out i q;have:=qg.out i q;omega);replace o:=O (o.keep b (fun i e=>have h:=F.out i (.inl e);⟨h.1,h.2.1,h.2.2.1,h.2.2.2.1,h.2.2.2.2.2⟩));clear b C;refine wpList_nil ?_;refine⟨I,?_⟩;refine tnb 11 (.pointer X) rfl I ?_;refine wA9 12 ?_;refine sta 29 (.tmp 89) (.tmp 79) X 0 ([.slice ta K.length tc]) (r.b 1) (by simp[aW]) (by kernel_rfl) (one9) ?_;intro wc b C;have qa:=H.out _ ((z _ I).trans (b.mono fun k _ e=>.inl e));clear I;replace r:=O (r.set 1 b C);replace j:=O (j.keep b (fun i q e=>by have:=W.out i q;have:=qd.out;have:=qe.out;omega));replace y:=O (y.keep b (fun i e=>(F i (.inl e)).2.2.2.2.1));replace s:=O (b.owns s.out fun i q e=>by have:=V.out i q;have:=qg.out i q;omega);replace o:=O (o.keep b (fun i e=>have h:=F.out i (.inl e);⟨h.1,h.2.1,h.2.2.1,h.2.2.2.1,h.2.2.2.2.2⟩));clear b C;refine wpList_nil ?_;refine⟨qa,?_⟩;refine tnb 13 (.pointer (some ⟨X,1,none⟩)) rfl qa ?_;refine wA9 14 ?_;refine sta 3 (.tmp 90) (.tmp 85) X 1 ([.int .i64 (t.u.txg+1)]) (r.b 1) (by simp[cU,aW]) (by kernel_rfl) (one9) ?_;intro wd b C;have qo:=H.out _ ((z _ qa).trans (b.mono fun k _ e=>.inl e));clear qa;replace r:=O (r.set 1 b C);replace j:=O (j.keep b (fun i q e=>by have:=W.out i q;have:=qd.out;have:=qe.out;omega));replace y:=O (y.keep b (fun i e=>(F i (.inl e)).2.2.2.2.1));replace s:=O (b.owns s.out fun i q e=>by have:=V.out i q;have:=qg.out i q;omega);replace o:=O (o.keep b (fun i e=>have h:=F.out i (.inl e);⟨h.1,h.2.1,h.2.2.1,h.2.2.2.1,h.2.2.2.2.2⟩));clear b C;refine wpList_nil ?_;refine⟨qo,?_⟩;refine tnb 15 (.pointer (some ⟨X,2,none⟩)) rfl qo ?_;refine wA9 16 ?_;refine sta 3 (.tmp 91) (.tmp 86) X 2 ([.int .i64 (lv:Int)]) (r.b 1) (by simp[cU,aW]) (by kernel_rfl) (one9) ?_;intro we b C;have qp:=H.out _ ((z _ qo).trans (b.mono fun k _ e=>.inl e));clear qo;replace r:=O (r.set 1 b C);replace j:=O (j.keep b (fun i q e=>by have:=W.out i q;have:=qd.out;have:=qe.out;omega));replace y:=O (y.keep b (fun i e=>(F i (.inl e)).2.2.2.2.1));replace s:=O (b.owns s.out fun i q e=>by have:=V.out i q;have:=qg.out i q;omega);replace o:=O (o.keep b (fun i e=>have h:=F.out i (.inl e);⟨h.1,h.2.1,h.2.2.1,h.2.2.2.1,h.2.2.2.2.2⟩));clear b C;refine wpList_nil ?_;refine⟨qp,?_⟩;refine tnb 17 (.pointer (some ⟨X,3,none⟩)) rfl qp ?_;refine wA9 18 ?_;refine sta 31 (.tmp 92) (.tmp 88) X 3 (dg) (r.b 1) (by simp[cU,aW,zm]) (by rw[zm];exact oA) zv.out ?_;intro wf b C;have qz:=H.out _ ((z _ qp).trans (b.mono fun k _ e=>.inl e));clear qp;replace r:=O (r.set 1 b C);replace j:=O (j.keep b (fun i q e=>by have:=W.out i q;have:=qd.out;have:=qe.out;omega));replace y:=O (y.keep b (fun i e=>(F i (.inl e)).2.2.2.2.1));replace s:=O (b.owns s.out fun i q e=>by have:=V.out i q;have:=qg.out i q;omega);replace o:=O (o.keep b (fun i e=>have h:=F.out i (.inl e);⟨h.1,h.2.1,h.2.2.1,h.2.2.2.1,h.2.2.2.2.2⟩));clear b C;refine wpList_nil ?_;refine⟨qz,?_⟩;refine wA9 19 ?_;refine stV (.int .i64 0) (r.b 0) ?_;intro wg b C;have zj:=H.out _ ((z _ qz).trans (b.mono fun k _ e=>.inr e));clear qz;replace r:=O (r.set 0 b C);replace j:=O (j.keep b (fun i q e=>by have:=W.out i q;have:=qd.out;have:=qe.out;omega));replace y:=O (y.keep b (fun i e=>(F i (.inr e)).2.2.2.2.1));replace s:=O (b.owns s.out fun i q e=>by have:=V.out i q;have:=qg.out i q;omega);replace o:=O (o.keep b (fun i e=>have h:=F.out i (.inr e);⟨h.1,h.2.1,h.2.2.1,h.2.2.2.1,h.2.2.2.2.2⟩));clear b C;refine wpList_nil ?_;refine⟨zj,?_⟩;refine wpAnyH_done (by kernel_rfl) ?_ _;clear zj z H qx qi zb zh qh;refine noP ?_;have q7:=O (r.b 0);have zr:Hid (wg.heap[X]?=some (.cells (aL (.slice ta K.length tc) ⟨K,t.u.txg+1,(lv:Int),bU bs⟩).toArray 33 (0,0))):=O (by rw[r.b 1,←Po _ _ (by rw[dB]),←q9.out])
 have zy:Hid (Fh w c a m lb g b2 yv lc pid cp t B D Z Mm nw Ls lv bs K (.returned (.tuple #[.agg (aL (.slice ta K.length tc) ⟨K,t.u.txg+1,(lv:Int),bU bs⟩).toArray,.int .i64 0])) wg):=O ⟨_,B2,rfl,s.out,⟨o.out,y.out,fun k b=>by
  have h:=qr.out k b;exact⟨fun e=>(qf k e).elim h.1 (fun e=>by have:=G.lt (.inr b);omega),h.2⟩,by
  have h1:=lt_of_block G.cor.cor.top;have h2:=lt_of_block G.cor.mir;have h3:=G.cor.liv.lt;exact⟨fun e=>(qf c e).elim A.1 (by omega),fun e=>(qf m e).elim A.2.1 (by omega),fun e=>(qf lb e).elim A.2.2.1 (by omega),fun i h=>⟨fun e=>(qf i e).elim (A.2.2.2 i h).1 fun e=>by have:=G.cor.cor.lst.lt h;omega,(A.2.2.2 i h).2⟩⟩,by
  have:=zf.out;have:=qw.out;have:=zd.out;omega⟩,qf.out,zz.out,r.keep⟩
 clear r o y j s;go_wp2_with fail;refine leaves_cons (f:=39) (args:=#[.pointer c,.pointer b7]) (by simp) (by simp[go_sem]) ?_;refine(lQ wg c b7 0 _ q7.out (by decide)).mono ?_;rintro e u' z6 ⟨rfl,rfl,b⟩;have c7:z6.cell? ⟨b7,0,none⟩=some (.int .i64 0):=aC (i:=0) (b.blk q7.out id) rfl;refine⟨_,mD rfl _ _ X _ _ _ _ rfl (b.blk zr.out id) bJ rfl (by rw[List.size_toArray,bB (by rw[dB])];exact mI) ⟨b7,0,none⟩ (.int .i64 0) rfl (by go_simp),?_⟩;obtain⟨v,B3,h1,h2,h3,h4,h6,h5⟩:=zy.out;exact⟨v,B3,h1,b.owns h2 fun _ _=>id,h3.keep0 b,h4,h6,h5.trans b.any⟩
theorem fE{p:Pt}(h:PtV w v p):∀u∈aL v p,u.oneCell'=true:=by
 obtain⟨e,b,rfl,-,-⟩:=h.rd.form;exact dE p
theorem nmPt   {p:Pt} (h:PtV w v p):∃c,Hid (aL v p=c)/\c.length=35/\Hid (∀u∈c,u.oneCell'=true):=⟨_,O rfl,bB h.sum,O (fE h)⟩
theorem Cv(b:List Value)(h:b.length=32):b=(List.range 32).map fun i=>b.getD i undef:=by
 apply List.ext_getElem?;intro i;rw[List.getElem?_map]
 by_cases e:i<32
 ·rw[List.getElem?_range e,List.getElem?_eq_getElem (by omega)]
  simp[List.getD,List.getElem?_eq_getElem (show i<b.length by omega)]
 ·rw[List.getElem?_eq_none (by omega),List.getElem?_eq_none (by simp;omega)];rfl
theorem IS(a m:Nat)(f:Nat->Value)(cp:Int):prog.built vI [(0,.pointer a),(1,.pointer m),(2,.agg ((List.range 32).map f).toArray),(3,.int .i64 cp)]=some (Value.pointer a::.pointer m::((List.range 32).map f++(.int .i64 cp::.slice none 0 0::.pointer none::.slice none 0 0::.slice none 0 0::eF lJ))).toArray:=by kernel_rfl
theorem La(a m cp:Nat)(pid:List UInt8)(h:pid.length=32)(w:World):(Instr.build vI #[(0,.pointer a),(1,.pointer m),(2,.agg (pid.map vb).toArray),(3,.int .i64 (cp:Int))]).run prog w=.ok (.agg (dZ a m pid cp (.slice none 0 0) (.pointer none) lJ).toArray) w:=by
 refine run_build w vI _ _ ?_;unfold dZ;rw[Cv (pid.map vb) (by rw[List.length_map,h])];exact IS a m _ _
def xW(w:World)(a:Nat)(pid:List UInt8)(cp:Nat)(e:Ending)(w':World):Prop:=∃c m,e=.returned (.pointer (some ⟨c,0,none⟩))/\aT w' c a m pid cp (.slice none 0 0) (.pointer none) lJ/\eQ w' m a/\w.heap.size≤c/\w.heap.size≤m/\m<c/\aA aB w w'
theorem Fi(C:bE w a B D Z Mm nw)(pid:List UInt8)(b:pid.length=32)(cp:Nat):Calls prog 72 #[.pointer a,.agg (pid.map vb).toArray,.int .i64 (cp:Int)] w (xW w a pid cp):=by
 have z:(pid.map vb).length=32:=by rw[List.length_map];exact b
 have j:=O b;have o:=O C;have h:=lN w;clear C b;go_in
 go_wp2_with refine bxM h ((pid.map vb).toArray) ?_
 intro H M f h;replace o:=O (o.keep0 f);clear f;go_wp2_with fail;have x:=O h.keep.size;refine(Nf o.out).mono ?_;rintro e K ⟨m,rfl,r,E,f⟩;replace h:=kL h f;replace o:=O (o.keep0 f);clear f;have A:=O E;have u:=O (Nat.le_trans x.out r);clear E r;have y:=La a m cp pid j.out;have q:=O h.keep;have s:=O (h.b 0);have J:m<K.heap.size:=lt_of_block A.out;clear h o
 go_wp2_with ((with_reducible show WL _ _);first
  | refine ldM H 0 (pid.map vb) (aD s.out) underlying31 (by rw[z];exact oA) ?_
  | refine bld vI #[(0,.tmp 14),(1,.tmp 15),(2,.tmp 16),(3,.tmp 17)] [(0,.pointer a),(1,.pointer m),(2,.agg (pid.map vb).toArray),(3,.int .i64 (cp:Int))] (.agg (dZ a m pid cp (.slice none 0 0) (.pointer none) lJ).toArray) y ?_
  | refine bxA (dZ a m pid cp (.slice none 0 0) (.pointer none) lJ).toArray ?_)
 intro c L I f F;have G:Hid (xW w a pid cp (.returned (.pointer c)) L):=O ⟨c,m,rfl,⟨F,j.out,kN.zero _⟩,f.blk A.out id,by have:=q.size;omega,u.out,by omega,q.trans f⟩;clear I f F;go_wp2;go_ret;exact G.out
theorem Gl(o:bE w a B D Z Mm nw)(q:w.heap[bc]?=some (.cells #[.pointer a] 25 (0,0)))(d:Int)(h0:0≤d)(r:d<(D:Int)):Calls prog 76 #[.int .i64 d,.pointer bc] w (aN w (.bool false)):=by
 have b:=O (cell_of_one q);have s:Hid ((decide (0≤d) && decide (d<(D:Int)))=true):=O (by rw[decide_eq_true h0,decide_eq_true r];rfl);have h:=O o;have j:=lN w;clear o q h0 r;go_in;have c1:w.cell? ⟨bc,0,none⟩=some (.pointer a):=b.out;go_wp2_with fail;clear c1;refine(Q7 h.out d).mono ?_;rintro e u ⟨rfl,f⟩;replace j:=kL j f;replace h:=O (h.keep0 f);replace b:=O (f.cell b.out id);clear f;rw[s.out];go_wp2;go_ret;exact aN.of j.keep
theorem IT(w:World)(v:Value)(l:List Int)(h:Rd w 1 v l.length (l.map fun x=>.int .i64 x))(R:l.length≤65536)(s bc:Nat)(eg:∀args w,(callFunc s args).run prog w=.ok (.enter s args) w)(f:∀x∈l,∀w',aA aB w w'->Calls prog s #[.int .i64 x,.pointer bc] w' (aN w' (.bool false))) :
 Calls prog 127 #[v,.func (.func s) #[] #[.pointer bc]] w (aN w (.int .i64 (-1))):=by
 obtain⟨X,H,rfl,-,-⟩:=h.form;obtain⟨n,E⟩:=zX9 l.length
 have K:=O E;rw[E] at h R ⊢;have W:n≤H:=by obtain⟨_,Y,c',M,N,h3,-⟩:=h;cases M;exact N
 have L:=O h;have A:=O f;clear h f E;go_in;go_wp2_with fail
 go_loopw [5,8] (fun _ i wr=>∃k:Nat,k≤n/\i=.int .i64 k/\Hid (aA aB w wr)) (fun _ i _=>n-(intOf i).toNat)
 case atStart=>exact⟨0,by omega,rfl,O (aA.refl _ _)⟩
 case round =>
  obtain⟨k,y,rfl,j⟩:=hrel
  by_cases C:k<n
  ·obtain⟨x,F⟩:∃x,l[k]?=some x:=⟨l[k]'(by rw[K.out];exact C),List.getElem?_eq_getElem _⟩
   obtain⟨g,o,I,J,b⟩:=nD L.out (k:=k) (u:=.int .i64 x) (by rw[List.getElem?_map,F];rfl);obtain rfl:X=some ⟨g,o,none⟩:=by cases J;rfl
   have r:=O (j.cell b id);have G:=O (A x (List.mem_of_getElem? F) wr j.out);have q:=lN wr;have S:(0:Int)≤(k:Int):=by omega
   have U:(k:Int)<(n:Int):=by omega
   have V:(k:Int)≤(H:Int):=by omega
   clear F b J;have c1:wr.cell? ⟨g,o+k,none⟩=some (.int .i64 x):=r.out;go_wp2_with fail;clear c1;refine(G.out).mono ?_;rintro e w1 ⟨rfl,y⟩;replace q:=kL q y;replace r:=O (y.cell r.out id);clear y;go_wp2_with fail;have z:=O (j.trans q.keep);clear q G r
   go_roundw
   case rel=>exact⟨k+1,by omega,by go_num,z⟩
   case measure=>simp[intOf];omega
  ·obtain rfl:k=n:=by omega
   go_wp2;go_ret;exact aN.of j.out
theorem Gm(w:World)(v:Value)(l:List Int)(q:Rd w 1 v l.length (l.map fun x=>.int .i64 x))(j:l.length≤65536)(b bc:Nat)(s:∀args w,(callFunc b args).run prog w=.ok (.enter b args) w)(f:∀x∈l,∀w',aA aB w w'->Calls prog b #[.int .i64 x,.pointer bc] w' (aN w' (.bool false))) :
 Calls prog 74 #[v,.func (.func b) #[] #[.pointer bc]] w (aN w v):=by
 have r:=O (IT w v l q j b bc s f);have h:=lN w;clear q f j;go_in;go_wp2_with fail;refine(r.out).mono ?_;rintro e u ⟨rfl,o⟩;replace h:=kL h o;clear o;go_wp2;go_ret;exact aN.of h.keep
end
end Go.Proofs.YtoeinblfcbpcmaaGreatDoor
