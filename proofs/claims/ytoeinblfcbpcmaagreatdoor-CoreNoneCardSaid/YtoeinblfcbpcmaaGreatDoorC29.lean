import Derived.Test.YtoeinblfcbpcmaaGreatDoorC28
import Derived.Deep.DeepAppendRoom
namespace Go.Proofs.YtoeinblfcbpcmaaGreatDoor
open Tryz
set_option maxHeartbeats 0
set_option maxRecDepth 100000
set_option linter.unusedVariables false
section
open Go.RowKit Go.Maps Go.ChangeMaps
variable{w w' w1 w2:World}{ops:Array Oper}{rest:List Oper}{o:Oper}{a k D Z nw d c m cp lo g b2:Nat}{Q:Exit->Act->World->Prop}{b pid:List UInt8}{T B B':Nat->Prop}{e:Ending}{Mm:Nat->Nat->List UInt8}{lv gv v:Value}{lc:Nat->Option Nat}{L:List Ad}{S:Kor}{p:Pt}
theorem Qp(w:World):(Instr.makeSlice 22 (.int .i64 256) (.int .i64 256)).run prog w=.ok (.slice (w.heap.size) 256 256) (w.alloc (.cells eT.toArray 5)):=by kernel_rfl
theorem mkz{a:Act}(x y:Operand)(h:∀b w',w.heap.size=b->aA aB w w'->w'.heap[b]?=some (.cells eT.toArray 5 (0,0))->wpList prog ops Q rest (a.put o.dst (.slice (some ⟨b,0,none⟩) 256 256)) w')(l:a.eval x=.int .i64 256:=by rfl)(n:a.eval y=.int .i64 256:=by rfl)(i:o.guard=none:=by rfl)(j:o.op=.makeSlice 22 x y:=by rfl):wpList prog ops Q (o::rest) a w:=by
 refine wpList_plain i fun K f=>?_
 unfold Oper.wp execOp;simp only[j,l,n,Sem.run_bind,Qp,Result.andThen_ok];exact f _ _ (h _ _ rfl ((aA.refl _ _).alloc _) (heap_alloc_new _ _))
theorem Fj{base b:Nat}{f:List Value}(j:w.heap[b]?=some (.cells f.toArray 5 (0,0)))(i:f.length=256)(h:base≤b):w.ownsRow base 5 1 (.slice b 256 256) 256 f:=by
 refine⟨by simp[i],.inr ⟨b,256,f.toArray,rfl,h,j,Nat.le_refl _,by unfold maxLen;omega,by simp[i],?_⟩⟩;rw[List.toList_toArray,←i];simp
theorem qT(P A B R:List Value)(h:B.length=A.length):spl (P++(A++R)).toArray P.length B=(P++(B++R)).toArray:=by
 rw[←JL _ _ _ (by simp;omega)]
 congr 1
 rw[List.toList_toArray,List.take_left,←List.drop_drop,List.drop_left,h,List.drop_left]
def IsC(w:World)(k:Nat):Prop:=∃f t,w.heap[k]?=some (.cells f t (0,0))
theorem IsC.lt(h:IsC w k):k<w.heap.size:=by obtain⟨f,t,h⟩:=h;exact lt_of_block h
theorem IsC.keep(h:IsC w k)(kp:aA T w w')(i:¬T k):IsC w' k:=by obtain⟨f,t,h⟩:=h;exact⟨f,t,kp.blk h i⟩
theorem Ld(f:Nat->Value)(d n c s l:Int):prog.built 112 [(0,.agg ((List.range 32).map f).toArray),(1,.int .i64 d),(2,.int .i64 n),(3,.int .i64 c),(4,.int .i64 s),(5,.int .i64 l)]=some ((List.range 32).map f++([.int .i64 d,.int .i64 n,.int .i64 c,.int .i64 s,.int .i64 l]:List Value)).toArray:=by kernel_rfl
theorem Le(L:Lab)(h:L.pool.length=32)(w:World):(Instr.build 112 #[(0,.agg (L.pool.map vb).toArray),(1,.int .i64 L.dev),(2,.int .i64 L.devs),(3,.int .i64 L.copies),(4,.int .i64 L.sectors),(5,.int .i64 L.life)]).run prog w=.ok (.agg L.cells.toArray) w:=by
 refine run_build w 112 _ _ ?_;unfold Lab.cells Lab.nums;rw[Cv (L.pool.map vb) (by rw[List.length_map,h])];exact Ld _ _ _ _ _ _
def gM(b:List UInt8)(Mm:Nat->Nat->List UInt8)(d:Nat):Nat->Nat->Nat->List UInt8
 | 0=>Mm
 | k+1=>fN (gM b Mm d k) d k (if k=0 then b else zB)
theorem Lf(b:List UInt8)(Mm:Nat->Nat->List UInt8)(d:Nat):fN Mm d 0 b=gM b Mm d 1:=rfl
theorem IV(b:List UInt8)(Mm:Nat->Nat->List UInt8)(d:Nat)(f:0<k):fN (gM b Mm d k) d k zB=gM b Mm d (k+1):=by
 show _=fN (gM b Mm d k) d k (if k=0 then b else zB);rw[if_neg (by omega)]
theorem By(b:List UInt8)(Mm:Nat->Nat->List UInt8)(d:Nat):∀k,0<k->gM b Mm d k d 0=b
 | 1,_=>by show fN Mm d 0 b d 0=b;unfold fN;rw[if_pos ⟨rfl,rfl⟩]
 | k+2,_=>by
   show fN (gM b Mm d (k+1)) d (k+1) _ d 0=b;unfold fN;rw[if_neg (by omega)];exact By b Mm d (k+1) (by omega)
theorem tA(b:List UInt8)(Mm:Nat->Nat->List UInt8)(d:Nat){e s:Nat}(h:e≠d):∀k,gM b Mm d k e s=Mm e s
 | 0=>rfl
 | k+1=>by
   show fN (gM b Mm d k) d k _ e s=_;unfold fN;rw[if_neg (by omega)];exact tA b Mm d h k
def Fk(w:World)(a:Nat)(B:Nat->Prop)(D Z:Nat)(Mm:Nat->Nat->List UInt8)(nw d:Nat)(b:List UInt8)(k:Nat)(w':World):Prop:=
 ∃B',bE w' a B' D Z (gM b Mm d k) (nw+k)/\(∀i,B' i->B i\/w.heap.size≤i)/\aA B w w'
theorem Fk.next{f:List UInt8}(l:∀i,B' i->B i\/w.heap.size≤i)(q:aA B w w1)(h:kK w1 a B' D Z (gM b Mm d k) (nw+k) d k f e w2)(u:fN (gM b Mm d k) d k f=gM b Mm d (k+1)):Fk w a B D Z Mm nw d b (k+1) w2:=by
 obtain⟨-,r,j,s,t⟩:=h;rw[u] at j;refine⟨r,j,fun i n=>?_,q.tT t fun i n e=>?_⟩
 ·rcases s i n with h|h
  ·exact l i h
  ·exact .inr (Nat.le_trans q.size h)
 ·rcases l i e with h|h
  ·exact h
  ·omega
def Fl(w:World)(a:Nat)(B:Nat->Prop)(D Z:Nat)(Mm:Nat->Nat->List UInt8)(nw d:Nat)(b:List UInt8)(e:Ending)(w':World):Prop:=
 e=.returned (.int .i64 0)/\∃B' f,bE w' a B' D Z (gM b Mm d 5) f/\f≤nw+5/\(∀k,B' k->B k\/w.heap.size≤k)/\aA B w w'
theorem Nv{t:Lst}(h:aT w c a m pid cp lv gv t)(ha:bE w a B D Z Mm nw)(hd:d<D)(ql:¬B c)(qo:∀i,B i->¬t.Own i)(X:1≤cp/\cp≤3/\cp≤D)(hn:nw<1000000):Calls prog 61 #[.pointer c,.int .i64 (d:Int),.int .i64 0] w (Fl w a B D Z Mm nw d (dL (cG pid d D cp Z))):=by
 have V:=ha.bd;have HM:Hid ((cG pid d D cp Z).may=true):=O (qI hd V X.1 X.2.1 X.2.2);have qd:=O h.idl;have q0:(pid.map vb).length=32:=by rw[List.length_map];exact h.idl
 have qc:=O (fun w=>Le (cG pid d D cp Z) h.idl w);have P:=O (xR (cG pid d D cp Z) h.idl HM.out);obtain⟨b,W⟩:=zX9 (dL (cG pid d D cp Z))
 obtain⟨lc,qa⟩:=zX9 ((cG pid d D cp Z).cells)
 have qv:=O qa;have qr:=O W;rw[W] at P ⊢;rw[qa] at qc;have I:=O h;have C:=O ha;have HD:=O hd;have qu:=O ql;have qz:=O qo;have qp:=C;have qt:=I;have f:=lN w;have q4:8≤Z:=V.2.2.1;clear h ha W qa V ql qo;go_in;go_wp2_with fail;refine dwA aB (by kernel_rfl) ?_;intro w1 S z J q M;replace f:=kL f M;replace I:=O (I.keep0 M);replace C:=O (C.keep0 M);clear M;have qw:=f;have G:=I;have qq:=C;refine tna 0 (.pointer c) rfl q ?_;refine tnb 1 (.pointer c) rfl q ?_;refine tnb 2 (.pointer (some ⟨c,2,none⟩)) rfl q ?_;refine tnd 3 (.agg (pid.map vb).toArray) rfl (yieldsIf_load_mid (by rfl) 31 (.tmp 14) rfl c 2 rfl (pid.map vb) _ (fun w' h=>(z w' h).rangeAt (aT.id_ G.out)) underlying31 rfl (by rw[q0];exact oA)) q ?_;refine tna 4 (.int .i64 (d:Int)) rfl q ?_;refine tna 5 (.pointer c) rfl q ?_;refine tnb 6 (.pointer c) rfl q ?_;refine tnb 7 (.pointer c) rfl q ?_;refine tnd 8 (.pointer a) rfl (.inl ⟨by rfl,fun w' H=>by have c:World.cell? w' ⟨c,0,none⟩=some (.pointer a):=(z w' H).cell (aT.c0 G.out) id;go_simp⟩) q ?_;refine tna 10 (.pointer c) rfl q ?_;refine tnb 11 (.pointer c) rfl q ?_;refine tnb 12 (.pointer (some ⟨c,34,none⟩)) rfl q ?_;refine tnd 13 (.int .i64 (cp:Int)) rfl (.inl ⟨by rfl,fun w' H=>by have c:World.cell? w' ⟨c,34,none⟩=some (.int .i64 (cp:Int)):=(z w' H).cell (aT.cp_ G.out) id;go_simp⟩) q ?_;refine tna 14 (.pointer c) rfl q ?_;refine tnb 15 (.pointer c) rfl q ?_;refine tnb 16 (.pointer c) rfl q ?_;refine tnd 17 (.pointer a) rfl (.inl ⟨by rfl,fun w' H=>by have c:World.cell? w' ⟨c,0,none⟩=some (.pointer a):=(z w' H).cell (aT.c0 G.out) id;go_simp⟩) q ?_;refine tna 19 (.int .i64 0) rfl q ?_;refine wA9 9 ?_;go_wp2_with fail;refine(iW C.out).mono ?_;rintro e w2 ⟨rfl,n⟩;have R:=J.out _ ((z _ q).trans n);replace f:=kL f n;replace I:=O (I.keep0 n);replace C:=O (C.keep0 n);clear q n;go_wp2_with fail;refine⟨R,?_⟩;refine wA9 18 ?_;go_wp2_with fail;refine(tU C.out).mono ?_;rintro e w3 ⟨rfl,n⟩;have K:=J.out _ ((z _ R).trans n);replace f:=kL f n;replace I:=O (I.keep0 n);replace C:=O (C.keep0 n);clear R n;go_wp2_with fail;refine⟨K,?_⟩;refine tnd 20 (.agg lc.toArray) rfl (lO 112 #[(0,.tmp 15),(1,.tmp 16),(2,.tmp 21),(3,.tmp 25),(4,.tmp 30),(5,.tmp 31)] [(0,.agg (pid.map vb).toArray),(1,.int .i64 (d:Int)),(2,.int .i64 (D:Int)),(3,.int .i64 (cp:Int)),(4,.int .i64 (Z:Int)),(5,.int .i64 0)] (.agg lc.toArray) qc.out) K ?_;refine wA9 21 ?_;go_wp2_with fail;have qe:=O f.keep.size;refine((by rw[←qv.out];exact Fe (cG pid d D cp Z) qd.out w3:Ka w3 (Fd w3 (cG pid d D cp Z)))).mono ?_;rintro e w4 ⟨v1,rfl,ho,n⟩;rw[HM.out,if_pos rfl];rw[qr.out,P.out] at ho;obtain⟨la,F,rfl,-,-⟩:=(Rd.of_owns ho).form;have HO:=O ho;clear ho;have A:=J.out _ ((z _ K).trans n);replace f:=kL f n;replace I:=O (I.keep0 n);replace C:=O (C.keep0 n);clear K n;go_wp2_with fail;refine⟨A,?_⟩;refine tna 22 (.tuple #[.slice la 256 F,.int .i64 0]) rfl A ?_;refine tnb 23 (.slice la 256 F) rfl A ?_;refine tnb 24 (.int .i64 0) rfl A ?_;refine tna 25 (.slice la 256 F) rfl A ?_;refine tna 26 (.int .i64 0) rfl A ?_;refine wpAnyH_done (by kernel_rfl) ?_ _;clear A z J qw G qq;go_wp2_with fail;have qf:=O f.keep;have qy:Hid (∀i,(Value.slice la 256 F).ownBlock=some i->¬B i):=O (fun i hi e=>by have h1:=bG HO.out hi;have h2:=qp.lt e;have h3:=qe.out;omega);clear f
 go_loopw [7,39] (fun u i wr=>∃k:Nat,k≤5/\i=.int .i64 k/\(∃ua un uc,u=.slice ua un uc/\((k=0/\la=ua/\256=un/\F=uc)\/0<k))/\Hid (Fk w a B D Z Mm nw d b k wr)/\Hid (k=0->aA aB w4 wr)) (fun _ i _=>5-(intOf i).toNat)
 case atStart=>exact⟨0,by omega,rfl,⟨_,_,_,rfl,.inl ⟨rfl,rfl,rfl,rfl⟩⟩,O ⟨B,C.out,fun i h=>.inl h,qf.any⟩,O fun _=>aA.refl _ _⟩
 case round =>
  obtain⟨k,n,rfl,⟨ua,un,uc,rfl,hu⟩,HI,N⟩:=hrel;obtain⟨B2,U,qh,Y⟩:=HI.out;have j:=O U;have r:=O qh;have x:=O Y;have y:=O (qt.keep Y qu.out qz.out);have E:=O (fun i (e:B2 i)=>U.lt e);clear U qh Y HI
  by_cases q9:k<5
  ·have q5:(0:Int)≤(k:Int):=by omega
   have q7:(k:Int)<5:=by omega
   have f:=lN wr;rcases hu with⟨rfl,rfl,rfl,rfl⟩|q1
   ·clear j r x E
    have j:=O (C.keep0 (N.out rfl));have r:Hid (∀i,B i->B i\/w.heap.size≤i):=O (fun i h=>.inl h);have x:Hid (aA B w wr):=O (qf.trans (N.out rfl)).any;have E:=O (fun i (e:B i)=>j.lt e);have qx:=O ((N.out rfl).owns HO.out fun _ _=>id);have c1:wr.cell? ⟨c,0,none⟩=some (.pointer a):=(aT.c0 y.out)
    go_wp2_with fail;clear c1;refine(qG (s:=0) j.out HD.out (by omega) b P.out (.slice la 256 F) (Rd.of_owns qx.out) qy.out (by omega)).mono ?_;rintro e w5 hm;have HE:=O (Fk.next r.out (x.trans f.keep.any) hm (Lf b Mm d));obtain⟨rfl,-⟩:=hm;clear f y j r x E;go_wp2
    go_roundw
    case rel=>exact⟨0+1,by omega,by go_num,⟨_,_,_,rfl,.inr (by omega)⟩,HE,O fun h=>by omega⟩
    case measure=>simp[intOf]
   ·have za:(0:Int)<(k:Int):=by omega
    go_wp2_with ((with_reducible show WL _ _);refine mkz (.const (.int .i64 256)) (.const (.int .i64 256)) ?_)
    intro qg w5 qk n hb;replace f:=lW f qk n hb;replace y:=O (y.keep0 n);replace j:=O (j.keep0 n);clear qk n hb;have c1:w5.cell? ⟨c,0,none⟩=some (.pointer a):=(aT.c0 y.out)
    go_wp2_with fail;clear c1;refine(qG (s:=k) j.out HD.out (by omega) zB rfl (.slice qg 256 256) (Rd.of_owns (Fj (base:=0) (f.b 0) rfl (Nat.zero_le _))) (fun i hi e=>by have h8:=E.out _ e;have h9:=(f.lt 0).1;have h7:i=qg:=(by cases hi;rfl);omega) (by omega)).mono ?_;rintro e w6 hm;have HE:=O (Fk.next r.out (x.trans f.keep.any) hm (IV b Mm d q1));obtain⟨rfl,-⟩:=hm;clear f y j r x E;go_wp2
    go_roundw
    case rel=>exact⟨k+1,by omega,by go_num,⟨_,_,_,rfl,.inr (by omega)⟩,HE,O fun h=>by omega⟩
    case measure=>simp[intOf];omega
  ·obtain rfl:k=5:=by omega
   clear hu;have f:=lN wr;have c1:wr.cell? ⟨c,0,none⟩=some (.pointer a):=(aT.c0 y.out)
   go_wp2_with fail;clear c1;refine(IF j.out HD.out (by omega)).mono ?_;rintro e w5 ⟨rfl,B3,q3,qj,qn,qi,qm⟩;have HP:Hid (Fl w a B D Z Mm nw d b (.returned (.int .i64 0)) w5):=O ⟨rfl,B3,q3,qj,qn,fun i hi=>(qi i hi).elim (r i) (fun h=>.inr (Nat.le_trans (x.trans f.keep.any).size h)),(x.trans f.keep.any).tT qm (fun i hi e=>(r i e).elim id fun h=>by omega)⟩;clear qj qn qi qm f y j r x E;go_wp2;go_ret;exact HP.out
theorem Qq(j:2≤D/\D≤8/\8≤Z/\Z≤4096)(v:Value)(i:Rd w 2 v 0 []):Calls prog 105 #[.int .i64 (D:Int),.int .i64 (Z:Int),v] w (fun e w'=>∃g b2 lc,e=.returned (.tuple #[.pointer (some ⟨g,0,none⟩),.int .i64 0])/\dA w' w.heap.size g b2 lc D Z []/\aA aB w w'):=by
 refine(BB w (D:Int) (Z:Int) v [] i).mono fun e w' h=>?_
 have f:rM (D:Int) (Z:Int) []=true:=by unfold rM;simp;omega
 unfold oF at h;rw[if_pos f] at h;exact h
def IW(w:World)(D Z:Nat)(e:Ending)(w':World):Prop:=∃g b2 lc,e=.returned (.tuple #[.pointer (some ⟨g,0,none⟩),.int .i64 0])/\dA w' w.heap.size g b2 lc D Z []/\aA aB w w'
def Da(w:World)(c a m:Nat)(pid:List UInt8)(cp:Nat)(lv:Value)(D Z:Nat)(e:Ending)(w':World):Prop:=
 e=.returned (.tuple #[])/\∃g b2 lc,aT w' c a m pid cp lv (.pointer (some ⟨g,0,none⟩)) lJ/\dA w' 0 g b2 lc D Z []/\(∀k,Own g b2 lc D k->w.heap.size≤k)/\aA (fun k=>k=c) w w'
theorem Lg(a m:Nat)(pid:List UInt8)(j:pid.length=32)(cp:Nat)(lv gv f:Value)(t:Lst):spl (dZ a m pid cp lv gv t).toArray 36 [f]=(dZ a m pid cp lv f t).toArray:=by
 have h:=qT (.pointer a::.pointer m::(pid.map vb++[.int .i64 (cp:Int),lv])) [gv] [f] (t.ov::t.vv::eF t) rfl;have i:(.pointer a::.pointer m::(pid.map vb++[.int .i64 (cp:Int),lv])).length=36:=by simp[j]
 rw[i] at h;unfold dZ
 simpa [List.append_assoc] using h
theorem Qr(a m:Nat)(pid:List UInt8)(j:pid.length=32)(cp:Nat)(lv f gv:Value)(t:Lst):spl (dZ a m pid cp lv gv t).toArray 35 [f]=(dZ a m pid cp f gv t).toArray:=by
 have h:=qT (.pointer a::.pointer m::(pid.map vb++[.int .i64 (cp:Int)])) [lv] [f] (gv::t.ov::t.vv::eF t) rfl;have i:(.pointer a::.pointer m::(pid.map vb++[.int .i64 (cp:Int)])).length=35:=by simp[j]
 rw[i] at h;unfold dZ
 simpa [List.append_assoc] using h
def lK(w:World)(c a m:Nat)(pid:List UInt8)(cp:Nat)(lv:Value):Prop:=∃gv,aT w c a m pid cp lv gv lJ
theorem lK.keep0(h:lK w c a m pid cp lv)(k:aA aB w w'):lK w' c a m pid cp lv:=h.imp fun _ h=>h.keep0 k
theorem lK.c0(h:lK w c a m pid cp lv):w.cell? ⟨c,0,none⟩=some (.pointer a):=h.elim fun _ h=>h.c0
theorem lK.old_(h:lK w c a m pid cp lv):w.cell? ⟨c,37,none⟩=some (.slice none 0 0):=h.elim fun _ h=>h.old_
theorem lK.live_(h:lK w c a m pid cp lv):w.cell? ⟨c,38,none⟩=some (.slice none 0 0):=h.elim fun _ h=>h.live_
theorem dA.low{f:Nat}(h:dA w lo g b2 lc D Z L)(i:f≤lo):dA w f g b2 lc D Z L:=⟨h.top,h.words,h.chans,h.inj,h.bd,Nat.le_trans i h.lo.1,Nat.le_trans i h.lo.2.1,fun d k j l=>Nat.le_trans i (h.lo.2.2 d k j l)⟩
theorem Lh(h:aT w c a m pid cp lv gv lJ)(ha:bE w a B D Z Mm nw)(P:¬B c):Calls prog 44 #[.pointer c] w (Da w c a m pid cp lv D Z):=by
 have N:=ha.bd;have Y:=O N;have y:=O h.idl;have J:=O (lt_of_block h.top);have q:=O h;have t:=O ha;have u:=lN w;have qf:Hid (∀i,i=c->¬B i):=O fun i e=>e▸P
 clear h ha N P;go_in;go_wp2_with fail;obtain⟨S,C⟩:∃S:World->Prop,S=fun w'=>aA (fun k=>k=c) w.drew w'/\lK w' c a m pid cp lv:=⟨_,rfl⟩
 have j:=O (show ∀w',S w'->aA (fun k=>k=c) w.drew w'/\lK w' c a m pid cp lv from fun w' h=>by rw[C] at h;exact h);have r:=O (show ∀w',aA (fun k=>k=c) w.drew w'/\lK w' c a m pid cp lv->S w' from fun w' h=>by rw[C];exact h);have l:S w.drew:=by rw[C];exact⟨aA.refl _ _,_,q.keep0 (aA.refl aB w).drew⟩
 have z:=(aA.refl aB w).drew;clear C;refine wp_region_held (S:=S) (by kernel_rfl) ?_;change wpAnyH _ _ _ _ _ _ _ _ w.drew;generalize w.drew=w1 at j r l z ⊢;replace u:=kL u z;replace q:=O (q.keep0 z);replace t:=O (t.keep0 z);clear z;have qd:=u;have qa:=q;have X:=t;refine tna 0 (.pointer c) rfl l ?_;refine tna 1 (.pointer c) rfl l ?_;refine tnb 2 (.pointer c) rfl l ?_;refine tnb 3 (.pointer c) rfl l ?_;refine tnd 4 (.pointer a) rfl (.inl ⟨by rfl,fun w' s=>by have c:World.cell? w' ⟨c,0,none⟩=some (.pointer a):=lK.c0 (j w' s).2;go_simp⟩) l ?_;refine tna 6 (.pointer c) rfl l ?_;refine tnb 7 (.pointer c) rfl l ?_;refine tnb 8 (.pointer c) rfl l ?_;refine tnd 9 (.pointer a) rfl (.inl ⟨by rfl,fun w' s=>by have c:World.cell? w' ⟨c,0,none⟩=some (.pointer a):=lK.c0 (j w' s).2;go_simp⟩) l ?_;refine tna 11 (.pointer c) rfl l ?_;refine tnb 12 (.pointer c) rfl l ?_;refine tnb 13 (.pointer (some ⟨c,37,none⟩)) rfl l ?_;refine tnd 14 (.slice none 0 0) rfl (.inl ⟨by rfl,fun w' s=>by have c:World.cell? w' ⟨c,37,none⟩=some (.slice none 0 0):=lK.old_ (j w' s).2;go_simp⟩) l ?_;refine tna 15 (.pointer c) rfl l ?_;refine tnb 16 (.pointer c) rfl l ?_;refine tnb 17 (.pointer (some ⟨c,38,none⟩)) rfl l ?_;refine tnd 18 (.slice none 0 0) rfl (.inl ⟨by rfl,fun w' s=>by have c:World.cell? w' ⟨c,38,none⟩=some (.slice none 0 0):=lK.live_ (j w' s).2;go_simp⟩) l ?_;refine wA9 5 ?_;go_wp2_with fail;refine(iW t.out).mono ?_;rintro e w2 ⟨rfl,f⟩;have E:=r.out _ ⟨(j _ l).1.trans f.any,(j _ l).2.keep0 f⟩;replace u:=kL u f;replace q:=O (q.keep0 f);replace t:=O (t.keep0 f);clear l f;go_wp2_with fail;refine⟨E,?_⟩;refine wA9 10 ?_;go_wp2_with fail;refine(tU t.out).mono ?_;rintro e w3 ⟨rfl,f⟩;have F:=r.out _ ⟨(j _ E).1.trans f.any,(j _ E).2.keep0 f⟩;replace u:=kL u f;replace q:=O (q.keep0 f);replace t:=O (t.keep0 f);clear E f;go_wp2_with fail;refine⟨F,?_⟩;refine wA9 19 ?_;go_wp2_with fail;refine(C9 w3 (.slice none 0 0) (.slice none 0 0) [] [] (fun x I=>by cases I) (fun x I=>by cases I) (Rd.nil _ _) (Rd.nil _ _) (by decide)).mono ?_;rintro e w4 ⟨v1,rfl,W,f⟩;have e0:(cX ([]++[]:List Ad))=[]:=List.eq_nil_iff_forall_not_mem.2 (fun x I=>by rw[mH] at I;cases I);rw[e0] at W;obtain⟨ua,uc,R,-,-⟩:=(Rd.of_owns W).form;have qe:v1=.slice ua 0 uc:=R;clear R e0;subst qe;have U:=O W;clear W;have G:=r.out _ ⟨(j _ F).1.trans f.any,(j _ F).2.keep0 f⟩;replace u:=kL u f;replace q:=O (q.keep0 f);replace t:=O (t.keep0 f);clear F f;go_wp2_with fail;refine⟨G,?_⟩;refine wA9 20 ?_;go_wp2_with fail;have K:=O u.keep.size;refine((Qq Y.out _ (Rd.of_owns U.out):Ka w4 (IW w4 D Z))).mono ?_;rintro e w5 ⟨g,b2,lc,rfl,H,f⟩;have A:=O H;have qg:=O (lt_of_block q.top);clear H;have n:=r.out _ ⟨(j _ G).1.trans f.any,(j _ G).2.keep0 f⟩;replace u:=kL u f;replace q:=O (q.keep0 f);replace t:=O (t.keep0 f);replace U:=O (f.owns U.out fun _ _=>id);clear G f;go_wp2_with fail;refine⟨n,?_⟩;refine tna 21 (.tuple #[.pointer g,.int .i64 0]) rfl n ?_;refine tnb 22 (.pointer g) rfl n ?_;refine tnb 23 (.int .i64 0) rfl n ?_;refine tnb 24 (.pointer c) rfl n ?_;refine tnb 25 (.pointer (some ⟨c,36,none⟩)) rfl n ?_;refine wA9 26 ?_;refine sta 69 (.tmp 27) (.tmp 24) c 36 [.pointer g] q.top (by rw[List.size_toArray,gL y.out rfl];simp) (by kernel_rfl) (one9) ?_;intro w6 f V;rw[Lg _ _ _ y.out] at V;have M:S w6:=r.out _ ⟨(j _ n).1.trans f,_,V,y.out,kN.zero _⟩;have qc:Hid (∀i,i=c->¬Own g b2 lc D i):=O (by rintro i rfl e;have:=(A.own_lt e).1;have:=J.out;have:=K.out;omega);have HP:Hid (Da w c a m pid cp lv D Z (.returned (.tuple #[])) w6):=O ⟨rfl,g,b2,lc,⟨V,y.out,kN.zero _⟩,(A.keep f qc.out).low (Nat.zero_le _),fun k e=>by have:=(A.own_lt e).1;have:=K.out;omega,u.keep.any.trans f⟩;clear n f V;refine wpList_nil ?_;refine⟨M,?_⟩;refine wpAnyH_done (by kernel_rfl) ?_ _;clear M j r qd qa X;clear q t u U A;go_wp2_with fail
 go_end0
 exact HP.out
def KI(w:World)(c:Nat)(S:Kor)(B:Nat->Prop):Prop:=
 S.Bd/\∃a m lb g b2 h lc pid f nw t,t.u.txg=S.txg/\fI w c a m lb g b2 h lc pid S.cp t f S.D S.Z S.M nw S.L/\B=fun k=>k=c\/k=m\/k=lb\/f k\/Own g b2 lc S.D k\/t.Own k
theorem KI.bd(h:KI w c S B):S.Bd:=h.1
theorem KI.keepT(h:KI w c S B)(k:aA T w w')(n:∀i,T i->¬B i):KI w' c S B:=by
 obtain⟨q,a,m,lb,g,b2,r,lc,pid,j,nw,t,f,l,rfl⟩:=h;refine⟨q,a,m,lb,g,b2,r,lc,pid,j,nw,t,f,l.keepT k (fun i e=>?_),rfl⟩;have:=n i e;exact⟨fun e=>this (.inl e),fun e=>this (.inr (.inl e)),fun e=>this (.inr (.inr (.inl e))),fun e=>this (.inr (.inr (.inr (.inl e)))),fun e=>this (.inr (.inr (.inr (.inr (.inl e))))),fun e=>this (.inr (.inr (.inr (.inr (.inr e)))))⟩
theorem KI.keep0(h:KI w c S B)(k:aA aB w w'):KI w' c S B:=h.keepT k fun _ e=>e.elim
theorem KI.lt(h:KI w c S B)(f:B k):k<w.heap.size:=by
 obtain⟨n,a,m,lb,g,b2,q,lc,pid,l,nw,t,j,i,rfl⟩:=h;rcases f with rfl|rfl|rfl|f|f|f
 ·exact lt_of_block i.cor.cor.top
 ·exact lt_of_block i.cor.mir
 ·exact i.cor.liv.lt
 ·exact i.lt (.inl f)
 ·exact i.lt (.inr f)
 ·exact i.cor.cor.lst.lt f
theorem bE.isC{M:Nat->Nat->List UInt8}(h:bE w a B D Z M nw)(l:B k):IsC w k:=by
 obtain⟨r,q,lv,st,f,F,W,i,rfl,s,t⟩:=h;rcases l with rfl|rfl|l|⟨d,n,rfl⟩
 ·exact⟨_,_,i.top⟩
 ·obtain⟨cur,j⟩:=aH i.devs (k:=k) rfl
  exact⟨_,_,j⟩
 ·obtain⟨cur,j⟩:=aH i.loose l
  exact⟨_,_,j⟩
 ·exact⟨_,_,i.firm d n⟩
theorem dA.isC{n:List Ad}(h:dA w lo g b2 lc D Z L)(j:dA w' lo g b2 lc D Z n)(y:Own g b2 lc D k):IsC w' k\/¬IsC w k:=by
 rcases y with rfl|rfl|⟨d,x,u⟩
 ·exact .inl ⟨_,_,j.top⟩
 ·obtain⟨q,f,-⟩:=j.words.row
  exact .inl ⟨_,_,f⟩
 ·right
  obtain⟨z,i,s,r,f⟩:=h.chans d x;rw[u] at i;cases i
  rintro⟨q,t,l⟩;rw[f] at l;cases l
def Cl(w w':World)(B B':Nat->Prop):Prop:=∀k,B' k->IsC w' k\/(B k/\¬IsC w k)
theorem Cl.refl(w w':World)(B:Nat->Prop)(k:aA aB w w'):Cl w w' B B:=fun i j=>by
 by_cases h:IsC w i
 ·obtain⟨f,t,h⟩:=h
  exact .inl ⟨f,t,k.blk h id⟩
 ·exact .inr ⟨j,h⟩
theorem Cl.trans{l n:Nat->Prop}(h:Cl w w1 B l)(k:Cl w1 w2 l n):Cl w w2 B n:=fun i r=>by
 rcases k i r with f|⟨f,q⟩
 ·exact .inl f
 ·rcases h i f with j|j
  ·exact absurd j q
  ·exact .inr j
structure gZ(w:World)(B:Nat->Prop)(v:Value)(p:Pt):Prop where
 pt:PtV w v p
 off:∀k,v.ownBlock=some k->¬B k/\IsC w k
theorem gZ.keep(h:gZ w B v p)(k:aA B w w')(j:∀k,B' k->B k\/w.heap.size≤k):gZ w' B' v p:=
 ⟨h.pt.keep k fun i f=>(h.off i f).1,fun i f=>⟨fun e=>(j i e).elim (h.off i f).1 fun e=>by have:=(h.off i f).2.lt;omega,(h.off i f).2.keep k (h.off i f).1⟩⟩
theorem gZ.keepT(h:gZ w B v p)(k:aA T w w')(j:∀i,v.ownBlock=some i->¬T i):gZ w' B v p:=
 ⟨h.pt.keep k j,fun i f=>⟨(h.off i f).1,(h.off i f).2.keep k (j i f)⟩⟩
theorem gZ.keep0(h:gZ w B v p)(k:aA aB w w'):gZ w' B v p:=h.keepT k fun _ _=>id
theorem gZ.hole(w:World)(B:Nat->Prop):gZ w B (.slice none 0 0) zPt:=⟨⟨Rd.nil w 2,fun x h=>(by cases h),rfl⟩,fun k f=>by cases f⟩
theorem lB(n:D≤8)(j:Z≤4096):∀x,bW x D Z->fC x:=fun x ⟨f,h,i,l⟩=>⟨⟨by omega,by omega⟩,by omega,by omega⟩
theorem KI.get(h:KI w c S B){l:Value}(u:PtV w l p){lv:Nat}(f:qH S p lv b):Calls prog 28 #[.pointer c,.agg (aL l p).toArray] w (mC w b):=by
 obtain⟨E,a,m,lb,g,b2,F,lc,pid,A,nw,t,y,q,rfl⟩:=h;have i:∀x∈p.addrs,bW x S.D S.Z:=fun x z=>(f.lies x z).1
 have C:=(pD f.may).1;cases j:p.addrs with
 | nil=>exact absurd j f.ne
 | cons x r =>
   obtain⟨d,s,rfl,-,-,-⟩:=nA (i x (by rw[j];exact List.mem_cons_self ..));have n:S.M d s=b:=(f.lies ⟨(d:Int),(s:Int)⟩ (by rw[j];exact List.mem_cons_self ..)).2.2;have:=AP q.cor l p u f.may f.ne_hole i (by omega) j (by rw[n];exact f.sum);rw[n] at this;exact this
def Lj(w:World)(S:Kor)(e:Ending)(w':World):Prop:=∃N:Nat,S.room N/\e=.returned (.tuple #[.int .i64 (N:Int),.int .i64 0])/\aA aB w w'
theorem KI.rooms(h:KI w c S B):Calls prog 11 #[.pointer c] w (Lj w S):=by
 obtain⟨j,a,m,lb,g,b2,q,lc,pid,n,nw,t,l,i,rfl⟩:=h;refine(K8 i).mono fun e w' f=>?_
 unfold dV at f;rw[if_pos (AD (L:=S.L) i.led.bd List.length_replicate j.c1 j.c3),Int.toNat_natCast] at f;exact f
def AQ(w:World)(v:Value):Prop:=∀k,v.ownBlock=some k->w.heap.size≤k
def AR(w:World)(c:Nat)(B:Nat->Prop)(r:Option (Pt×Kor))(S:Kor)(e:Ending)(w':World):Prop:=
 match r with
 | none=>e=.returned (.tuple #[.agg (aL (.slice none 0 0) zPt).toArray,.int .i64 15])/\KI w' c S B/\aA aB w w'
 | some (p,T)=>∃v B',e=.returned (.tuple #[.agg (aL v p).toArray,.int .i64 0])/\gZ w' B' v p/\KI w' c T B'/\(∀k,B' k->B k\/w.heap.size≤k)/\Cl w w' B B'/\AQ w v/\aA B w w'
theorem KI.put(h:KI w c S B){lv:Nat}(z:lv≤3){vv:Value}{f:List UInt8}(y:f.length=256)(K:Rd w 1 vv 256 (f.map vb))(F:∀i,vv.ownBlock=some i->¬B i):Calls prog 12 #[.pointer c,.int .i64 (lv:Int),vv] w (AR w c B (S.put lv f) S):=by
 have G:=h;obtain⟨j,a,m,lb,g,b2,W,lc,pid,N,nw,t,q,s,rfl⟩:=h;have r:∀i,vv.ownBlock=some i->¬N i/\¬Own g b2 lc S.D i:=fun i J=>⟨fun e=>F i J (.inr (.inr (.inr (.inl e)))),fun e=>F i J (.inr (.inr (.inr (.inr (.inl e)))))⟩
 cases A:bL (bN S.L S.D S.Z) (List.replicate S.D true) S.cp with
 | none =>
   have e:S.put lv f=none:=by unfold Kor.put Kor.allUp;rw[A]
   rw[e];refine(G2 s (by rw[q];exact⟨j.t0,j.t1⟩) lv z vv f y K r A).mono ?_;rintro e w' ⟨rfl,C⟩;exact⟨rfl,G.keep0 C,C⟩
 | some l =>
   have e:S.put lv f=some (⟨aU S.L S.Z l,S.txg+1,(lv:Int),bU f⟩,⟨S.D,S.Z,S.cp,S.L++aU S.L S.Z l,fP f (aU S.L S.Z l) S.M,S.txg⟩):=by unfold Kor.put Kor.allUp;rw[A]
   have H:=oC j z y e;rw[e];refine(C8 s (by rw[q];exact⟨j.t0,j.t1⟩) lv z vv f y K r (lB j.d8 j.z4) A).mono ?_;rintro e w' ⟨v,B',rfl,I,u,R,M,C⟩;have E:∀k,v.ownBlock=some k->w.heap.size≤k:=fun k C=>bG I C
   refine⟨v,fun k=>k=c\/k=m\/k=lb\/B' k\/Own g b2 lc S.D k\/t.Own k,by rw[q],⟨⟨Rd.of_owns I,fun x V=>lB j.d8 j.z4 x (H.1.lies x V).1,H.1.sl⟩,fun k n=>⟨?_,?_⟩⟩,⟨H.2.2.1,a,m,lb,g,b2,W,lc,pid,B',nw+(aU S.L S.Z l).length,t,q,u,rfl⟩,?_,?_,E,C.mono fun k _ e=>.inr (.inr (.inr (e.imp id .inl)))⟩
   ·have X:=E k n
    rintro (rfl|rfl|rfl|e|e|e)
    ·have:=lt_of_block s.cor.cor.top;omega
    ·have:=lt_of_block s.cor.mir;omega
    ·have:=s.cor.liv.lt;omega
    ·exact(M k n).1 e
    ·exact(M k n).2 e
    ·have:=s.cor.cor.lst.lt e;omega
   ·obtain⟨cur,A⟩:=aH I n
    exact⟨_,_,A⟩
   ·rintro k (e|e|e|e|e|e)
    ·exact .inl (.inl e)
    ·exact .inl (.inr (.inl e))
    ·exact .inl (.inr (.inr (.inl e)))
    ·exact(R k e).imp (fun h=>.inr (.inr (.inr (.inl h)))) id
    ·exact .inl (.inr (.inr (.inr (.inr (.inl e)))))
    ·exact .inl (.inr (.inr (.inr (.inr (.inr e)))))
   ·rintro k (rfl|rfl|rfl|e|e|e)
    ·exact .inl ⟨_,_,u.cor.cor.top⟩
    ·exact .inl ⟨_,_,u.cor.mir⟩
    ·exact .inl (by obtain⟨P,U,h,-⟩:=u.cor.liv;exact⟨P,U,h⟩)
    ·exact .inl (u.cor.arr.isC e)
    ·exact(s.led.isC u.led e).imp id fun h=>⟨.inr (.inr (.inr (.inr (.inl e)))),h⟩
    ·exact .inl (u.cor.cor.lst.isc k e)
def Q8:Option (Pt×Kor)->Pt
 | none=>zPt
 | some x=>x.1
def Q9:Option (Pt×Kor)->Int
 | none=>15
 | some _=>0
def Ra(S:Kor):Option (Pt×Kor)->Kor
 | none=>S
 | some x=>x.2
def Pr(w:World)(c:Nat)(B:Nat->Prop)(p:Pt)(f:Int)(T:Kor)(e:Ending)(w':World):Prop:=
 ∃v B',e=.returned (.tuple #[.agg (aL v p).toArray,.int .i64 f])/\gZ w' B' v p/\KI w' c T B'/\(∀k,B' k->B k\/w.heap.size≤k)/\Cl w w' B B'/\AQ w v/\aA B w w'
theorem AR.all{r:Option (Pt×Kor)}(h:AR w c B r S e w'):Pr w c B (Q8 r) (Q9 r) (Ra S r) e w':=by
 cases r with
 | none =>
   obtain⟨i,j,f⟩:=h;exact⟨_,B,i,gZ.hole w' B,j,fun k h=>.inl h,Cl.refl w w' B f,(fun k l=>by cases l),f.any⟩
 | some x=>exact h
theorem pK(h:Hid (gZ w B v p))(k:aA aB w w'):Hid (gZ w' B v p):=O (gZ.keep0 h.out k)
theorem mkD(w:World)(D:Nat)(h:D≤8):(Instr.makeSlice 54 (.int .i64 (D:Int)) (.int .i64 (D:Int))).run prog w=.ok (.slice (w.heap.size) D D) (w.alloc (.cells (Array.replicate D (Value.int .i64 0)) 3)):=by
 rcases D with _|_|_|_|_|_|_|_|_|D
 ·kernel_rfl
 ·kernel_rfl
 ·kernel_rfl
 ·kernel_rfl
 ·kernel_rfl
 ·kernel_rfl
 ·kernel_rfl
 ·kernel_rfl
 ·kernel_rfl
 ·omega
theorem mkd{a:Act}(x y:Operand)(D:Nat)(f:D≤8)(h:∀b w',w.heap.size=b->aA aB w w'->w'.heap[b]?=some (.cells (Array.replicate D (Value.int .i64 0)) 3 (0,0))->wpList prog ops Q rest (a.put o.dst (.slice (some ⟨b,0,none⟩) D D)) w')(n:a.eval x=.int .i64 (D:Int):=by rfl)(q:a.eval y=.int .i64 (D:Int):=by rfl)(j:o.guard=none:=by rfl)(l:o.op=.makeSlice 54 x y:=by rfl):wpList prog ops Q (o::rest) a w:=by
 refine wpList_plain j fun K i=>?_
 unfold Oper.wp execOp;simp only[l,n,q,Sem.run_bind,mkD w D f,Result.andThen_ok];exact i _ _ (h _ _ rfl ((aA.refl _ _).alloc _) (heap_alloc_new _ _))
def xX(P:Nat->List UInt8)(Mm:Nat->Nat->List UInt8):Nat->Nat->Nat->List UInt8
 | 0=>Mm
 | k+1=>gM (P k) (xX P Mm k) k 5
theorem Db(P:Nat->List UInt8)(Mm:Nat->Nat->List UInt8):∀(k d:Nat),d<k->xX P Mm k d 0=P d
 | 0,d,h=>by omega
 | k+1,d,h=>by
   show gM (P k) (xX P Mm k) k 5 d 0=P d
   by_cases e:d=k
   ·subst e;exact By _ _ _ 5 (by decide)
   ·rw[tA _ _ _ e];exact Db P Mm k d (by omega)
def DvI(w:World)(a:Nat)(B:Nat->Prop)(D Z:Nat)(P:Nat->List UInt8)(Mm:Nat->Nat->List UInt8)(nw k:Nat)(w':World):Prop:=
 ∃B' f,bE w' a B' D Z (xX P Mm k) f/\f≤nw+5*k/\(∀i,B' i->B i\/w.heap.size≤i)/\aA B w w'
def xY(w:World)(a:Nat)(pid:List UInt8)(B:Nat->Prop)(D Z cp:Nat)(Mm:Nat->Nat->List UInt8)(nw:Nat)(e:Ending)(w':World):Prop:=
 ∃c m lb g b2 lc h f,e=.returned (.tuple #[.pointer (some ⟨c,0,none⟩),.int .i64 0])/\fI w' c a m lb g b2 (.slice (some ⟨lb,0,none⟩) D D) lc pid cp lJ h D Z (xX (fun d=>dL (cG pid d D cp Z)) Mm D) f []/\f≤nw+5*D/\(∀k,h k->B k\/w.heap.size≤k)/\(w.heap.size≤c/\w.heap.size≤m/\w.heap.size≤lb/\∀k,Own g b2 lc D k->w.heap.size≤k)/\aA B w w'
theorem DV(ha:bE w a B D Z Mm nw)(pid:List UInt8)(G:pid.length=32)(cp:Nat)(za:1≤cp/\cp≤3/\cp≤D)(hn:nw≤1000):Calls prog 25 #[.pointer a,.agg (pid.map vb).toArray,.int .i64 (cp:Int)] w (xY w a pid B D Z cp Mm nw):=by
 have q9:=ha.bd;have qf:=O q9;have zd:(pid.map vb).length=32:=by rw[List.length_map];exact G
 have z:=O G;have qi:=O za;have qk:=O (fun i (e:B i)=>ha.lt e);have n:=O ha;have j:=lN w;have zh:¬((D:Int)=0):=by omega
 have zi:¬((cp:Int)<1):=by omega
 have zj:¬((3:Int)<(cp:Int)):=by omega
 have zk:¬((D:Int)<(cp:Int)):=by omega
 clear ha G;go_in
 go_wp2_with refine bxM j (#[.pointer a]) ?_
 intro b3 w1 f j;replace n:=O (n.keep0 f);clear f
 go_wp2_with refine bxM j ((pid.map vb).toArray) ?_
 intro b4 w2 f j;replace n:=O (n.keep0 f);clear f;have c1:=cD j 1
 go_wp2_with fail;clear c1;refine(iW n.out).mono ?_;rintro e w3 ⟨rfl,f⟩;replace j:=kL j f;replace n:=O (n.keep0 f);clear f;have c1:=cD j 1
 go_wp2_with fail;clear c1;refine(iW n.out).mono ?_;rintro e w4 ⟨rfl,f⟩;replace j:=kL j f;replace n:=O (n.keep0 f);clear f;have c1:=cD j 1
 go_wp2_with fail;clear c1;refine(xU n.out).mono ?_;rintro e w5 ⟨rfl,f⟩;replace j:=kL j f;replace n:=O (n.keep0 f);clear f;have c1:=cD j 1
 go_wp2_with ((with_reducible show WL _ _);refine ldR (j.b 0) underlying31 (by rw[zd];exact oA) ?_)
 clear c1;have qm:=O j.keep.size;refine(Fi n.out pid z.out cp).mono ?_;rintro e w6 ⟨c,m,rfl,hc,hm,qw,q0,qz,f⟩;have N:=O hc;have X:=O hm;have u:=O (And.intro (Nat.le_trans qm.out qw) (Nat.le_trans qm.out q0));have Y:=O qz;clear hc hm qw q0 qz;replace j:=kL j f;replace n:=O (n.keep0 f);clear f;go_wp2_with fail;have ql:=O j.keep.size;refine(pJ N.out n.out).mono ?_;rintro e w7 ⟨v1,rfl,ho,f⟩;obtain⟨va,vc,rfl,-,-⟩:=(Rd.of_owns ho).form;have HO:=O ho;clear ho;replace j:=kL j f;replace n:=O (n.keep0 f);replace N:=O (N.keep0 f);replace X:=O (f.blk X.out id);clear f;go_wp2_with fail;refine(Gm w7 (.slice va D vc) ((List.range D).map fun(i:Nat)=>(i:Int)) (by rw[List.length_map,List.length_range,List.map_map];exact Rd.of_owns HO.out) (by rw[List.length_map,List.length_range];omega) 76 b3 (enters_of func76 (by kernel_rfl) rfl) (fun x hx w' k=>by obtain⟨i,H,rfl⟩:=List.mem_map.1 hx;have H:=List.mem_range.1 H;exact Gl (n.keep0 k) (k.blk (j.b 1) id) (i:Int) (by omega) (by omega))).mono ?_;rintro e w8 ⟨rfl,f⟩;replace j:=kL j f;replace n:=O (n.keep0 f);replace N:=O (N.keep0 f);replace X:=O (f.blk X.out id);replace HO:=O (f.owns HO.out fun _ _=>id);clear f;have q7:Hid (∀i,(Value.slice va D vc).ownBlock=some i->w.heap.size≤i):=O (fun i H=>by have:=bG HO.out H;have:=ql.out;omega);go_wp2_with fail;have A:=O (fun i (h:w.heap.size≤i) (e:B i)=>show False from by have:=qk.out i e;omega);have qe:=O (j.b 1);have q4:=O (j.lt 1).1;have F:=O j.keep;have E:=O (lt_of_block N.top);have P:=O (lt_of_block X.out);obtain⟨W0,qp⟩:=zX9 w8
 rw[qp] at N X n HO qe F E P ⊢;clear j qp;have zo:=qk
 go_loopw [46] (fun i wr=>∃k:Nat,k≤D/\i=.int .i64 k/\Hid (DvI W0 a B D Z (fun d=>dL (cG pid d D cp Z)) Mm nw k wr)) (fun i _=>D-(intOf i).toNat)
 case atStart=>exact⟨0,by omega,rfl,O ⟨B,nw,n.out,by omega,fun i h=>.inl h,aA.refl _ _⟩⟩
 case round =>
  obtain⟨k,f,rfl,HI⟩:=hrel;obtain⟨B2,q3,qq,q1,M,C⟩:=HI.out;have l:=O qq;have K:=O q1;have I:=O M;have y:=O C;have t:=O (N.keep C (A _ u.1) (fun _ _=>rL));have s:Hid (eQ wr m a):=O (C.blk X.out (A _ u.2));have qa:=O (C.owns HO.out fun i H=>A.out _ (q7 i H));have q:=O (C.blk qe.out (A _ q4.out));have r:Hid (¬B2 c/\¬B2 m):=O ⟨fun e=>(M c e).elim (A _ u.1) fun h=>by have:=E.out;omega,fun e=>(M m e).elim (A _ u.2) fun h=>by have:=P.out;omega⟩;clear qq q1 M C HI
  by_cases qy:k<D
  ·have zl:(0:Int)≤(k:Int):=by omega
   have zm:(k:Int)<(D:Int):=by omega
   obtain⟨g,o,zf,hv,qt⟩:=nD (Rd.of_owns qa.out) (jL qy)
   have zn:(k:Int)<(vc:Int):=by
    obtain⟨_,a',c',h1,h2,h3,-⟩:=Rd.of_owns qa.out;cases h1;omega
   have zg:=O hv;obtain rfl:va=some ⟨g,o,none⟩:=by cases hv;rfl
   have HX:=O qt;clear hv qt;have c1:wr.cell? ⟨g,o+k,none⟩=some (.int .i64 (k:Int)):=HX.out;go_wp2_with fail;clear c1;refine(Nv t.out l.out qy r.1 (fun _ _=>rL) qi.out (by have:=K.out;omega)).mono ?_;rintro e w5 ⟨rfl,B3,ze,qr,zb,qn,qx⟩;have HE:Hid (DvI W0 a B D Z (fun d=>dL (cG pid d D cp Z)) Mm nw (k+1) w5):=O ⟨B3,ze,qr,by have:=K.out;omega,fun i H=>(qn i H).elim (I i) (fun h=>.inr (Nat.le_trans y.size h)),y.tT qx (fun i H e=>(I i e).elim id fun h=>by omega)⟩;clear qr zb qn qx t s qa q l I y HX;go_wp2
   go_roundw
   case rel=>exact⟨k+1,by omega,by go_num,HE⟩
   case measure=>simp[intOf];omega
  ·obtain rfl:D=k:=by omega
   have j:=lN wr;have q5:=O (fun i (e:B2 i)=>l.lt e);have qo:D≤8:=qf.2.1;have c1:wr.cell? ⟨b3,0,none⟩=some (.pointer a):=(aC (i:=0) q.out rfl)
   go_wp2_with fail;clear c1;refine(iW l.out).mono ?_;rintro e we ⟨rfl,f⟩;replace j:=kL j f;replace l:=O (l.keep0 f);replace t:=O (t.keep0 f);replace s:=O (f.blk s.out id);replace q:=O (f.blk q.out id);clear f
   go_wp2_with ((with_reducible show WL _ _);refine mkd (.tmp 59) (.tmp 59) D qo ?_)
   intro qc wf qu f hb;replace j:=lW j qu f hb;replace l:=O (l.keep0 f);replace t:=O (t.keep0 f);replace s:=O (f.blk s.out id);replace q:=O (f.blk q.out id);clear qu f hb;have qj:=O j.keep;have qg:=O (j.b 0);have J:=O (j.lt 0).1
   go_wp2_with ((with_reducible show WL _ _);refine sta 54 (.tmp 62) (.tmp 60) c 35 [.slice qc D D] t.top (by rw[List.size_toArray,gL z.out rfl];simp) (by kernel_rfl) (one9) ?_)
   intro w8 f hb;rw[Qr _ _ _ z.out] at hb;have qh:Hid (aT w8 c a m pid cp (.slice qc D D) (.pointer none) lJ):=O ⟨hb,z.out,kN.zero _⟩;have U:=O (And.intro E.out y.size);have W:=O (f.blk qg.out (fun e=>by have:=J.out;have:=U.out;omega));replace l:=O (l.keep f (by rintro i rfl;exact r.1));replace s:Hid (eQ w8 m a):=O (f.blk s.out (fun e=>by have:=Y.out;omega));have V:Hid (aA (fun i=>i=c) wr w8):=O (qj.any.trans f);clear f hb j t q qj qg;go_wp2_with fail;refine(Lh qh.out l.out r.1).mono ?_;rintro e w9 ⟨rfl,g,b2,lc,qv,R,qd,f⟩
   have HP:Hid (xY w a pid B D Z cp Mm nw (.returned (.tuple #[.pointer c,.int .i64 0])) w9):=by
    refine O ⟨c,m,qc,g,b2,lc,B2,q3,rfl,⟨⟨qv,l.keep f (by rintro i rfl;exact r.1),f.blk s.out (fun e=>by have:=Y.out;omega),⟨_,_,f.blk W.out (fun e=>by have:=J.out;have:=U.out;omega),by decide,.inr ⟨rfl,rfl,rfl⟩⟩,qi.out,fun d hd=>Db _ _ _ _ hd⟩,R,fun k e=>?_,?_,?_⟩,(by have:=K.out;omega),?_,⟨u.1,u.2,(by have:=J.out;have:=y.size;have:=F.size;omega),fun k e=>(by have:=qd k e;have:=V.size;have:=y.size;have:=F.size;omega)⟩,?_⟩
    ·have h1:=qd k e
     have h2:=V.size;have h3:=U.out;have h4:=Y.out;have h5:=lt_of_block W.out;refine⟨fun e2=>?_,by omega,by omega,by omega,rL⟩;have:=l.lt e2;omega
    ·exact⟨r.1,r.2,fun e=>by have:=q5.out _ e;have:=J.out;omega,fun i h=>(rL h).elim⟩
    ·have h1:=oZ [] D Z
     have h2:D*Z≤8*4096:=Nat.mul_le_mul qo qf.2.2.2;have:=K.out;show q3+jD (bN [] D Z)≤40000+8*0;omega
    ·exact fun k e=>(I k e).imp id fun h=>Nat.le_trans F.size h
    ·have k1:aA B w wr:=F.any.trans y.out
     have k2:aA (fun i=>i=c) wr w9:=V.trans f;exact k1.tT k2 (fun i H e=>by have:=u.1;omega)
   clear qv R qd f qh l s W;go_wp2
   go_ret2
   exact HP.out
end
end Go.Proofs.YtoeinblfcbpcmaaGreatDoor
