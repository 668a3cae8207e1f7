import Derived.Test.YtoeinblfcbpcmaaGreatR20
import Derived.Stop.Asserts
import Derived.LaidEql
import Derived.Lib.IfaceEq
namespace Go.Proofs.YtoeinblfcbpcmaaGreat
open Tryz
set_option maxHeartbeats 0
set_option maxRecDepth 100000
set_option linter.unusedVariables false
section
open Go.RowKit Go.Maps Go.ChangeMaps
variable{w' w we w8 w9:World}{b k d G D Z nw n s c g:Nat}{W Y N:List Lw}{x:Lw}{v yv nv:Value}{cs:List Value}{M:Nat->Nat->List UInt8}{B:Nat->Prop}{p:Option Addr}
theorem Kt(v:Value)(w:World):(Extern.ReflectliteType.typeOf #[.iface 41 v]).run prog w=.ok (.iface 326 (.agg #[.pointer (some ⟨0,41,none⟩)])) w:=by kernel_rfl
theorem DA(w : World) : ((Extern.ReflectliteType.method fun t => do Extern.Rtype.noPackHeld "Comparable" t; (fun a => Value.bool a.comparable) <$> typeInfo t) #[.agg #[.pointer (some ⟨0, 41, none⟩)]]).run prog w = .ok (.bool true) w := by kernel_rfl
theorem vY(v : Value)(w : World) : (Go.method 490 326 v "Comparable").run prog w = .ok (283, v) w := by kernel_rfl
theorem AZ(v : Value)(w : World) : (Go.method 490 245 v "Unwrap").run prog w = .ok (277, v) w := by kernel_rfl
theorem QI(v:Value)(e:TypeId)(w:World):(Instr.typeAssert (.iface 245 v) e 328 true).run prog w=.ok (.tuple #[.nilIface,.bool false]) w:=run_typeAssert_lacksB underlying328 (by kernel_rfl) (by kernel_rfl) v e w
theorem IG(v:Value)(e:TypeId)(w:World):(Instr.typeAssert (.iface 245 v) e 331 true).run prog w=.ok (.tuple #[.iface 245 v,.bool true]) w:=run_typeAssert_hasB underlying331 (by kernel_rfl) v e w
theorem QJ(v:Value)(e:TypeId)(w:World):(Instr.typeAssert (.iface 41 v) e 328 true).run prog w=.ok (.tuple #[.nilIface,.bool false]) w:=run_typeAssert_lacksB underlying328 (by kernel_rfl) (by kernel_rfl) v e w
theorem Ku(v:Value)(e:TypeId)(w:World):(Instr.typeAssert (.iface 41 v) e 331 true).run prog w=.ok (.tuple #[.nilIface,.bool false]) w:=run_typeAssert_lacksB underlying331 (by kernel_rfl) (by kernel_rfl) v e w
theorem II(v:Value)(e:TypeId)(w:World):(Instr.typeAssert (.iface 41 v) e 333 true).run prog w=.ok (.tuple #[.nilIface,.bool false]) w:=run_typeAssert_lacksB underlying333 (by kernel_rfl) (by kernel_rfl) v e w
theorem Gd(w:World)(c d:Int):Calls prog 277 #[.agg #[.int .i64 c,.int .i64 d]] w (aH w (.iface 41 (.int .i64 c))):=by
 obtain⟨l,j,h,e,-⟩:=aP w #[.int .i64 c,.int .i64 d] 245;have c0:l.cell? ⟨w.heap.size,0,none⟩=some (.int .i64 c):=aC e rfl;have i:=O h;clear h e;go_in;go_wp2;go_ret;exact aH.of i.out
theorem OL(w:World)(c d t:Int):Calls prog 210 #[.iface 245 (.agg #[.int .i64 c,.int .i64 d]),.iface 41 (.int .i64 t),.bool true] w (aH w (.bool (decide (c=t)))):=by
 obtain⟨bb,h⟩:=zX9 (decide (c=t))
 have i:=O h;rw[h];clear h;have r:=QI;have u:=IG;have q:=AZ;have j:=run_eql_iface_types (P:=prog) 245 41 (.agg #[.int .i64 c,.int .i64 d]) (.int .i64 t) underlying183 (by decide) w;go_in
 go_wp2
 refine wp_loop_rounds 2 ?_;rw[rounds_succ];go_wp2_with fail;refine(Gd w c d).mono ?_;rintro e l ⟨rfl,m⟩;have o:=O m;clear m j r u q;have y:=QJ;have z:=Ku;have A:=II
 have j:(binOp .eql 183 (.iface 41 (.int .i64 c)) (.iface 41 (.int .i64 t))).run prog l=.ok (.bool bb) l:=by
  have:=Go.Lib.run_eql_iface_int (P:=prog) (k:=.i64) l c t underlying183 (by kernel_rfl) underlying41;rw[this,←i.out]
  congr 2
 clear i;cases bb
 all_goals
  go_wp2_with fail;rw[rounds_succ];go_wp2;go_ret;exact aH.of o.out
theorem BU(w:World)(c d t:Int):Calls prog 173 #[.iface 245 (.agg #[.int .i64 c,.int .i64 d]),.iface 41 (.int .i64 t)] w (aH w (.bool (decide (c=t)))):=by
 have H:=O (OL w c d t);have m:=@run_callFunc_extern prog 209 _ Extern.ReflectliteType.typeOf func209 (by kernel_rfl) (by kernel_rfl) (by kernel_rfl) (by kernel_rfl);have j := @run_callFunc_extern prog 283 _ (Extern.ReflectliteType.method fun t => do Extern.Rtype.noPackHeld "Comparable" t; pure (.bool (← typeInfo t).comparable)) func283 (by kernel_rfl) (by kernel_rfl) (by kernel_rfl) (by kernel_rfl);have q:=Kt;have l:=DA;have o:=vY;go_in;go_wp2_with fail;refine H.mono ?_;rintro e w' ⟨rfl,h⟩;have i:=O h;clear h;go_wp2;go_ret;exact aH.of i.out
theorem EE(w:World)(d:Int):Calls prog 118 #[.iface 245 (.agg #[.int .i64 5,.int .i64 d])] w (aH w (.int .i64 5)):=by
 have m:∀w,(Instr.index 247 (.agg #[.int .i64 1,.int .i64 10,.int .i64 5,.int .i64 2,.int .i64 14,.int .i64 13]) (.int .i64 0)).run prog w=.ok (.int .i64 1) w:=fun w=>by kernel_rfl
 have o:∀w,(Instr.index 247 (.agg #[.int .i64 1,.int .i64 10,.int .i64 5,.int .i64 2,.int .i64 14,.int .i64 13]) (.int .i64 1)).run prog w=.ok (.int .i64 10) w:=fun w=>by kernel_rfl
 have q:∀w,(Instr.index 247 (.agg #[.int .i64 1,.int .i64 10,.int .i64 5,.int .i64 2,.int .i64 14,.int .i64 13]) (.int .i64 2)).run prog w=.ok (.int .i64 5) w:=fun w=>by kernel_rfl
 go_in;go_wp2_with fail;refine wp_loop_rounds 3 ?_;rw[rounds_succ];go_wp2_with fail;refine(BU w 5 d 1).mono ?_;rintro e r ⟨rfl,h⟩;go_wp2_with fail;rw[rounds_succ];go_wp2_with fail;refine(BU r 5 d 10).mono ?_;rintro e t ⟨rfl,i⟩;go_wp2_with fail;rw[rounds_succ];go_wp2_with fail;refine(BU t 5 d 5).mono ?_;rintro e u ⟨rfl,j⟩;have l:=O ((h.trans i).trans j);clear h i j;go_wp2;go_ret;exact aH.of l.out
variable {w:World}{a dv dc D Z:Nat}{lv:Value}{st:Int}{f:Nat->Nat}{F:Nat->Nat->List UInt8}{W:List Lw}
theorem OM(h:bU w a dv dc lv st f F W D Z):Calls prog 83 #[.pointer a,.int .i64 (-1),.int .i64 0] w (aH w (.tuple #[.slice none 0 0,.int .i64 5])):=by
 have J:nL (-1) 0 D Z=false:=by unfold nL;simp
 replace J:=O J;have u:=lN w;have t:=O h;clear h;go_in
 go_wp2_with refine bxM u (#[.pointer a]) ?_
 intro X w1 j u;replace t:=O (t.keep j fun _ h=>h.elim);clear j
 go_wp2_with refine bxM u (#[.int .i64 (-1)]) ?_
 intro b4 w2 j u;replace t:=O (t.keep j fun _ h=>h.elim);clear j;go_wp2_with fail;refine dwA aB (by kernel_rfl) ?_;intro w3 S m E C R;replace u:=kL u R;replace t:=O (t.keep R fun _ h=>h.elim);clear R;have y:=u;have qa:=t;refine tnd 0 (.int .i64 (-1)) rfl (.inl ⟨by rfl,fun w' l=>by have c:=aC (i:=0) ((m w' l).blk (y.b 0) id) rfl;go_simp⟩) C ?_;refine tnd 1 (.pointer a) rfl (.inl ⟨by rfl,fun w' l=>by have c:=aC (i:=0) ((m w' l).blk (y.b 1) id) rfl;go_simp⟩) C ?_;refine tnb 2 (.func (.func 113) #[.pointer a] #[]) rfl C ?_;refine tnd 3 (.pointer a) rfl (.inl ⟨by rfl,fun w' l=>by have c:=aC (i:=0) ((m w' l).blk (y.b 1) id) rfl;go_simp⟩) C ?_;refine tnb 4 (.func (.func 114) #[.pointer a] #[]) rfl C ?_;refine tnd 5 (.pointer a) rfl (.inl ⟨by rfl,fun w' l=>by have c:=aC (i:=0) ((m w' l).blk (y.b 1) id) rfl;go_simp⟩) C ?_;refine tnd 6 (.int .i64 (-1)) rfl (.inl ⟨by rfl,fun w' l=>by have c:=aC (i:=0) ((m w' l).blk (y.b 0) id) rfl;go_simp⟩) C ?_;refine tna 7 (.int .i64 0) rfl C ?_;refine tnd 9 (.pointer a) rfl (.inl ⟨by rfl,fun w' l=>by have c:=aC (i:=0) ((m w' l).blk (y.b 1) id) rfl;go_simp⟩) C ?_;refine tnd 10 (.int .i64 (-1)) rfl (.inl ⟨by rfl,fun w' l=>by have c:=aC (i:=0) ((m w' l).blk (y.b 0) id) rfl;go_simp⟩) C ?_;refine tnb 12 (.func (.func 117) #[] #[.pointer X,.pointer b4]) rfl C ?_;refine wA9 8 ?_;go_wp2_with fail;refine(xE w3 a (-1) 0).mono ?_;rintro e w4 hp;obtain⟨p0,p1,p2,rfl,o,q,r,j⟩:=hp.three;have K:=E.out _ ((m _ C).trans j);replace u:=kL u j;replace t:=O (t.keep j fun _ h=>h.elim);clear C j;replace o:=O o;replace q:=O q;replace r:=O r;go_wp2_with fail;refine⟨K,?_⟩;refine wA9 11 ?_;go_wp2_with fail;refine(pZ w4 a (-1)).mono ?_;rintro e w5 hp;obtain⟨q0,q1,rfl,z,A,j⟩:=hp.two;have L:=E.out _ ((m _ K).trans j);replace u:=kL u j;replace t:=O (t.keep j fun _ h=>h.elim);replace o:=O (j.blk o.out id);replace q:=O (j.blk q.out id);replace r:=O (j.blk r.out id);clear K j;replace z:=O z;replace A:=O A;go_wp2_with fail;refine⟨L,?_⟩;refine wA9 13 ?_;obtain⟨w6,T,j,hb,-⟩:=aP w5 #[.func (.func 113) #[.pointer a] #[],.func (.func 114) #[.pointer a] #[],.func (.func 170) #[] #[.pointer p0,.pointer p1,.pointer p2],.func (.func 172) #[] #[.pointer q0,.pointer q1],.func (.func 117) #[] #[.pointer X,.pointer b4]] 131;obtain⟨qb,I⟩:=zX9 w5.heap.size
 rw[I] at hb;have P:=E.out _ ((m _ L).trans j);clear L;replace u:=lW u I j hb;have H:=O I;replace t:=O (t.keep j fun _ h=>h.elim);replace o:=O (j.blk o.out id);replace q:=O (j.blk q.out id);replace r:=O (j.blk r.out id);replace z:=O (j.blk z.out id);replace A:=O (j.blk A.out id);clear j hb I;go_wp2_with fail;clear T;rw[H.out];refine⟨P,?_⟩;refine wA9 14 ?_;go_wp2_with fail;have V:=O (u.b 0)
 have U:Hid (∀k,k<5->k≤2->∃G x,((#[.func (.func 113) #[.pointer a] #[],.func (.func 114) #[.pointer a] #[],.func (.func 170) #[] #[.pointer p0,.pointer p1,.pointer p2],.func (.func 172) #[] #[.pointer q0,.pointer q1],.func (.func 117) #[] #[.pointer X,.pointer b4]]:Array Value).getD k .nilFunc=.func (.func G) #[] x\/(#[.func (.func 113) #[.pointer a] #[],.func (.func 114) #[.pointer a] #[],.func (.func 170) #[] #[.pointer p0,.pointer p1,.pointer p2],.func (.func 172) #[] #[.pointer q0,.pointer q1],.func (.func 117) #[] #[.pointer X,.pointer b4]]:Array Value).getD k .nilFunc=.func (.func G) x #[])/\(∀w,Sem.run prog (callFunc G x) w=.ok (.enter G x) w)/\∀wr,aA aB w6 wr->Calls prog G x wr fun e w'=>e=.returned (.int .i64 (if k=2 then 5 else 0))/\aA aB w6 w'):=O (by
  intro k j hm
  match k,j,hm with
  | 0,_,_=>exact ckc (.inr rfl) (fun w=>by rfl) fun wr k=>DS (t.keep k fun _ h=>h.elim)
  | 1,_,_=>exact ckc (.inr rfl) (fun w=>by rfl) fun wr k=>DT (t.keep k fun _ h=>h.elim)
  | 2,_,_=>exact ckc (.inl rfl) (fun w=>by rfl) fun wr k=>rki (by rw[J.out];rfl) (uS (t.keep k fun _ h=>h.elim) (-1) 0 p0 p1 p2 (k.blk o.out id) (k.blk q.out id) (k.blk r.out id)))
 refine(pY w6 (-1) qb 5 2 #[.func (.func 113) #[.pointer a] #[],.func (.func 114) #[.pointer a] #[],.func (.func 170) #[] #[.pointer p0,.pointer p1,.pointer p2],.func (.func 172) #[] #[.pointer q0,.pointer q1],.func (.func 117) #[] #[.pointer X,.pointer b4]] (fun k=>if k=2 then 5 else 0) (fun _ wr=>aA aB w6 wr) (by decide) (by decide) (fun k wr j=>j.blk V.out id) (by intro k j;match k,j with
  | 0,_=>rfl
  | 1,_=>rfl
  | 2,_=>rfl
  | 3,_=>rfl
  | 4,_=>rfl) (aA.refl _ _) (by intro k j;match k,j with
  | 0,_=>rfl
  | 1,_=>rfl) (by decide) U.out).mono ?_
 rintro e w7 ⟨h1,h2,j⟩;clear U V;obtain rfl:=h2 (by decide);clear h1 h2;have Q:=E.out _ ((m _ P).trans j);replace u:=kL u j;replace t:=O (t.keep j fun _ h=>h.elim);replace o:=O (j.blk o.out id);replace q:=O (j.blk q.out id);replace r:=O (j.blk r.out id);replace z:=O (j.blk z.out id);replace A:=O (j.blk A.out id);clear P j;go_wp2_with fail;refine⟨Q,?_⟩;refine tna 15 (.iface 245 (.agg #[.int .i64 5,.int .i64 (-1)])) rfl Q ?_;refine wpAnyH_done (by kernel_rfl) ?_ _;clear Q m E y qa;go_wp2_with fail;refine(EE w7 (-1)).mono ?_;rintro e w8 ⟨rfl,j⟩;replace u:=kL u j;replace t:=O (t.keep j fun _ h=>h.elim);replace o:=O (j.blk o.out id);replace q:=O (j.blk q.out id);replace r:=O (j.blk r.out id);replace z:=O (j.blk z.out id);replace A:=O (j.blk A.out id);clear j;go_wp2
 go_ret2
 exact⟨rfl,u.keep⟩
variable {w:World}{a dv dc D Z:Nat}{lv:Value}{st:Int}{f:Nat->Nat}{F:Nat->Nat->List UInt8}{W:List Lw}
theorem bU.ne(h:bU w a dv dc lv st f F W D Z):a≠dv/\(∀d,d<D->a≠f d)/\∀k,lv.ownBlock=some k->a≠k:=by
 have i:=h.top;refine⟨?_,?_,?_⟩
 ·rintro rfl
  obtain⟨cur,e⟩:=aJ h.devs (k:=a) rfl;rw[i] at e;simp[fO,gA] at e
 ·rintro d j rfl
  have e:=h.firm d j;rw[i] at e;simp[fO,iI] at e
 ·rintro k l rfl
  obtain⟨cur,e⟩:=aJ h.loose l;rw[i] at e;simp[fO,WrT] at e
theorem bU.ne2(h:bU w a dv dc lv st f F W D Z):∀k,lv.ownBlock=some k->k≠dv/\∀d,d<D->k≠f d:=by
 intro k m;obtain⟨cur,j⟩:=aJ h.loose m;refine⟨?_,?_⟩
 ·rintro rfl
  obtain⟨i,e⟩:=aJ h.devs (k:=k) rfl;rw[j] at e;simp[WrT,gA] at e
 ·rintro d l rfl
  have e:=h.firm d l;rw[j] at e;simp[WrT,iI] at e
theorem bU.top2(h:bU w a dv dc lv st f F W D Z){j:Int}(k:aA (fun i=>i=a) w w')(o:w'.heap[a]?=some (.cells #[.slice dv D dc,lv,.int .i64 (-1),.bool false,.int .i64 j] fO (0,0))):bU w' a dv dc lv j f F W D Z:=by
 obtain⟨q,r,t⟩:=h.ne;exact⟨o,k.owns h.devs fun i l e=>q (by cases l;exact e.symm),fun d m=>k.blk (h.firm d m) fun e=>r d m e.symm,h.inj,k.owns h.loose fun i l e=>t i l e.symm,h.wok,h.fok,h.bd⟩
theorem P2(l:List Value)(n:Nat)(h:l.length=n):l=(List.range n).map fun i=>l.getD i undef:=by
 subst h;apply List.ext_getElem?;intro i;rw[List.getElem?_map]
 by_cases e:i<l.length
 ·rw[List.getElem?_range e,List.getElem?_eq_getElem e]
  simp[List.getD,List.getElem?_eq_getElem e]
 ·rw[List.getElem?_eq_none (by omega),List.getElem?_eq_none (by simp;omega)];rfl
theorem MM(g:Nat->Value)(x y:Int):prog.built 209 [(0,.int .i64 x),(1,.int .i64 y),(2,.agg ((List.range 256).map g).toArray)]=some (.int .i64 x::.int .i64 y::(List.range 256).map g).toArray:=by kernel_rfl
theorem ON(e:List Value)(h:e.length=256)(x y:Int)(w:World):(Instr.build 209 #[(0,.int .i64 x),(1,.int .i64 y),(2,.agg e.toArray)]).run prog w=.ok (.agg (.int .i64 x::.int .i64 y::e).toArray) w:=by
 refine run_build w 209 _ _ ?_;rw[P2 e 256 h];exact MM _ x y
theorem Kv(g o c:Nat)(w:World):(Instr.arrayAt 207 (.slice (some ⟨g,o,none⟩) 256 c)).run prog w=.ok (.pointer (some ⟨g,o,none⟩)) w:=by kernel_rfl
theorem pD:(prog.info? 209).map (fun i=>(i.zero,i.size,i.bytes))=some (some (.agg nK.toArray),258,272):=by kernel_rfl
def EF(w:World)(a dv dc D:Nat)(lv:Value)(e:Ending)(w':World):Prop:=e=.returned (.int .i64 0)/\aA (fun k=>k=a) w w'/\∃h,w'.heap[a]?=some (.cells #[.slice dv D dc,lv,.int .i64 (-1),.bool false,.int .i64 h] fO (0,0))
theorem EG(e:w.heap[a]?=some (.cells #[.slice dv D dc,lv,.int .i64 (-1),.bool false,.int .i64 st] fO (0,0))):Calls prog 137 #[.pointer a] w (EF w a dv dc D lv):=by
 have c2:=aC (i:=2) e rfl;have c4:=aC (i:=4) e rfl;have o:=O e;obtain⟨s2,h⟩:=zX9 (IntKind.i64.wrap (st+1))
 clear e;go_in
 go_wp2_with ((with_reducible show WL _ _);refine sta 3 (.tmp 29) (.tmp 27) a 4 [.int .i64 s2] o.out (by simp) (by kernel_rfl) (one9) ?_ (hy:=by rw[←h];rfl))
 intro q l j;have m:Hid (EF w a dv dc D lv (.returned (.int .i64 0)) q):=O ⟨rfl,l,s2,j⟩;clear l j;go_wp2;go_ret;exact m.out
theorem aA.same(k:aA (fun i=>i=b) w w')(h:w'.heap[b]?=w.heap[b]?):aA aB w w':=
 ⟨k.os,k.tape,k.output,k.size,fun i j _=>by
  by_cases e:i=b
  ·rw[e];exact h
  ·exact k.block i j e⟩
theorem MN(cs:Array Value)(o:Nat)(v:Value)(h:cs[o]?=some v):spl cs o [v]=cs:=by
 show cs.setIfInBounds o v=cs;apply Array.ext_getElem?;intro j;rw[Array.getElem?_setIfInBounds];split
 ·rename_i e
  subst e;obtain⟨i,l⟩:=Array.getElem?_eq_some_iff.1 h;rw[if_pos i,h]
 ·rfl
theorem MO(w:World)(m:Int)(e:m=1\/m=2):Calls prog 183 #[.int .u8 0,.int .u8 m] w (aH w (.bool false)):=by
 rcases e with rfl|rfl
 all_goals
  go_in;go_wp2;go_ret;exact aH.of (aA.refl _ _)
theorem EH(w:World)(b o:Nat)(m:Int)(t:m=1\/m=2)(fs:Array Value)(h:w.heap[b]?=some (.cells fs gA (0,0)))(l:fs[o]?=some (.int .u8 0)):Calls prog 138 #[.pointer (some ⟨b,o,none⟩),.int .u8 m] w (aH w (.bool false)):=by
 have c0:=aC h l;have y:=O h;have z:=O l;have r:o<fs.size:=(Array.getElem?_eq_some_iff.1 l).1;have u:=O (MO w m t);have C:bits .andNot .u8 0 m=0:=by rcases t with rfl|rfl<;>decide +kernel
 clear h l t;go_in;go_wp2_with fail;refine u.mono ?_;rintro e E ⟨rfl,i⟩;have c1:=i.cell c0 id;have j:=O (i.blk y.out id);have A:=O i;clear i c0 u
 go_wp2_with ((with_reducible show WL _ _);refine sta 98 (.tmp 16) (.tmp 15) b o [.int .u8 0] j.out r (by kernel_rfl) (one9) ?_ (hy:=by first|rfl|(show Value.cells (.int .u8 (bits .andNot .u8 0 m))=_;rw[C];rfl)))
 intro H i h;rw[MN _ _ _ z.out] at h;have q:=O (A.trans (i.same (h.trans j.symm)));clear i h c1;go_wp2;go_ret;exact aH.of q.out
theorem bU.lt(h:bU w a dv dc lv st f F W D Z)(i:dU a dv lv f D k):k<w.heap.size:=by
 rcases i with rfl|rfl|i|⟨d,j,rfl⟩
 ·exact lt_of_block h.top
 ·obtain⟨cur,e⟩:=aJ h.devs (k:=k) rfl
  exact lt_of_block e
 ·obtain⟨cur,e⟩:=aJ h.loose i
  exact lt_of_block e
 ·exact lt_of_block (h.firm d j)
theorem bU.next(h:bU w a dv dc lv st f F W D Z)(q:d<D):∃cur,w.heap[dv]?=some (.cells cur gA (0,0))/\cur[d*5+2]?=some (.int .u8 0):=by
 rcases h.devs.2 with⟨e,-⟩|⟨g,l,cur,e,-,o,r,t,u,m⟩
 ·cases e
 ·cases e
  refine⟨cur,o,?_⟩;have:=gP (c:=AX f Z) (n:=5) (fun x _=>rfl) (jA q) (j:=2) (v:=.int .u8 0) rfl;have i:(iH f Z D)[d*5+2]?=some (.int .u8 0):=this;rw[←m,List.getElem?_take] at i;split at i
  ·rwa [Array.getElem?_toList] at i
  ·cases i
def WI(W:World)(a dv dc D:Nat)(lv:Value)(k:Nat)(wr:World):Prop:=(k≤5/\aA aB W wr)\/(k=6/\aA (fun i=>i=a) W wr/\∃e,wr.heap[a]?=some (.cells #[.slice dv D dc,lv,.int .i64 (-1),.bool false,.int .i64 e] fO (0,0)))
theorem ckw{W:World}(q:k≤4){x:Array Value}(m:v=.func (.func G) #[] x\/v=.func (.func G) x #[])(l:∀w,Sem.run prog (callFunc G x) w=.ok (.enter G x) w)(j:∀wr,aA aB W wr->Calls prog G x wr (aH wr (.int .i64 0))) :
 ∃G x,(v=.func (.func G) #[] x\/v=.func (.func G) x #[])/\(∀w,Sem.run prog (callFunc G x) w=.ok (.enter G x) w)/\∀wr,WI W a dv dc D lv k wr->Calls prog G x wr fun e w'=>e=.returned (.int .i64 0)/\WI W a dv dc D lv (k+1) w':=
 ⟨G,x,m,l,fun wr o=>by
  rcases o with⟨-,i⟩|⟨e,-⟩
  ·exact(j wr i).mono fun e w' h=>⟨h.1,.inl ⟨by omega,i.trans h.2⟩⟩
  ·omega⟩
def kB(w:World)(a:Nat)(B:Nat->Prop)(D Z:Nat)(M:Nat->Nat->List UInt8)(nw d s:Nat)(b:List UInt8)(e:Ending)(w':World):Prop:=
 e=.returned (.int .i64 0)/\∃h,bQ w' a h D Z (gM M d s b) (nw+1)/\(∀k,h k->B k\/w.heap.size≤k)/\aA B w w'
theorem aA.rangeAt2{S:Nat->Prop}(h:aA S w w'){o:Nat}(i:w.rangeAt b o cs)(e:¬S b):w'.rangeAt b o cs:=fun j v l=>h.cell (i j v l) e
theorem MP{F:Nat->Nat->List UInt8}(o:∀d s,d<D->s<Z->M d s=eB W d s (F d s))(d s:Nat)(b:List UInt8):∀i j,i<D->j<Z->gM M d s b i j=eB (W++[⟨d,s,b⟩]) i j (F i j):=by
 intro i j l m;rw[pX];unfold gM
 by_cases e:i=d/\j=s
 ·rw[if_pos e,if_pos ⟨e.1.symm,e.2.symm⟩]
 ·rw[if_neg e,if_neg (fun h=>e ⟨h.1.symm,h.2.symm⟩),o i j l m]
theorem A4{w0:World}{o j l:Nat}{C:Option Addr}{b:List UInt8}{T:List Value}(h:bU w a dv dc lv st f F W D Z)(E:aA aB w we)(R:aA (fun k=>(Value.slice C n l).ownBlock=some k) we w8)(m:lv=.slice C n l)(hn:W.length=n)
 (ho:w8.ownsRow 0 WrT 258 (.slice o (n+1) j) (n+1) (dH W++cs)) (H:(Value.slice o (n+1) j).ownBlock=(Value.slice C n l).ownBlock\/(Value.slice o (n+1) j).ownBlock=some we.heap.size)
 (S:aA (fun k=>k=a) w8 w9) (I:w9.heap[a]?=some (.cells #[.slice dv D dc,(.slice o (n+1) j),.int .i64 (-1),.bool false,.int .i64 st] fO (0,0))) (hd:d<D) (hs:s<Z) (J:b.length=256) (L:(.int .i64 (d:Int)::.int .i64 (s:Int)::T:List Value)=cs) (K:b.map vb=T)
 (hM:∀d s,d<D->s<Z->M d s=eB W d s (F d s)) (hW:W.length=nw) (X:aA (dU a dv lv f D) w0 w):kB w0 a (dU a dv lv f D) D Z M nw d s b (.returned (.int .i64 0)) w9:=by
 have U:∀k,(dU a dv lv f D) k->k≠a->¬(Value.slice C n l).ownBlock=some k->w9.heap[k]?=w.heap[k]?:=fun k u h1 h2=>by
  have V:=h.lt u;have z:=Nat.lt_of_lt_of_le V E.size;rw[S.block k (Nat.lt_of_lt_of_le z R.size) h1,R.block k z h2,E.block k V id]
 have t:(Value.slice C n l).ownBlock=some o\/w.heap.size≤o:=by
  rcases H with e|e
  ·exact .inl e.symm
  ·right;cases e;exact E.size
 have P:a≠o:=by
  rcases t with e|e
  ·exact h.ne.2.2 o (by rw[m];exact e)
  ·have:=h.lt (.inl rfl:(dU a dv lv f D) a);omega
 refine⟨rfl,dU a dv (.slice o (n+1) j) f D,⟨dv,dc,_,st,f,F,W++[⟨d,s,b⟩],⟨I,?_,?_,h.inj,?_,?_,h.fok,h.bd⟩,rfl,by rw[List.length_append,hW];rfl,MP hM d s b⟩,?_,?_⟩
 ·rcases h.devs.2 with⟨e,-⟩|⟨gg,qa,cur,e,Q,hx,hr⟩
  ·cases e
  ·cases e
   refine⟨h.devs.1,.inr ⟨dv,dc,cur,rfl,Q,?_,hr⟩⟩;rw[U dv (.inr (.inl rfl)) (fun e=>h.ne.1 e.symm) (fun e=>(h.ne2 dv (by rw[m];exact e)).1 rfl)];exact hx
 ·intro r q
  rw[U (f r) (.inr (.inr (.inr ⟨r,q,rfl⟩))) (fun e=>h.ne.2.1 r q e.symm) (fun e=>(h.ne2 _ (by rw[m];exact e)).2 r q rfl)];exact h.firm r q
 ·have:=S.owns ho (fun i hi e=>by cases hi;exact P e.symm)
  rw[List.length_append,hn]
  have e:dH (W++[⟨d,s,b⟩])=dH W++cs:=by
   unfold dH;rw[List.flatMap_append,←L,←K];simp[eX]
  rw[e];exact this
 ·intro y A
  rcases List.mem_append.1 A with A|A
  ·exact h.wok y A
  ·rw[List.mem_singleton.1 A];exact⟨J,hd,hs⟩
 ·rintro k (rfl|rfl|u|u)
  ·exact .inl (.inl rfl)
  ·exact .inl (.inr (.inl rfl))
  ·cases u
   rcases t with e|e
   ·exact .inl (.inr (.inr (.inl (by rw[m];exact e))))
   ·exact .inr (Nat.le_trans X.size e)
  ·exact .inl (.inr (.inr (.inr u)))
 ·have ka:aA (dU a dv lv f D) w we:=E.any
  have kb:aA (dU a dv lv f D) we w8:=R.mono fun k _ e=>.inr (.inr (.inl (by rw[m];exact e)))
  have kc:aA (dU a dv lv f D) w8 w9:=S.mono fun k _ e=>.inl e
  exact((X.trans ka).trans kb).trans kc
theorem qA(h:bQ w a B D Z M nw)(hd:d<D)(hs:s<Z)(b:List UInt8)(q3:b.length=256)(v:Value)(hr:Rd w 1 v 256 (b.map vb))(hv:∀k,v.ownBlock=some k->¬B k)(hn:nw<100000000000) :
 Calls prog 89 #[.pointer a,.int .i64 (d:Int),.int .i64 (s:Int),v] w (kB w a B D Z M nw d s b):=by
 obtain⟨dv,dc,lv,st,f,F,W,h,rfl,hW,hM⟩:=h
 obtain⟨g,o,c,rfl,zm⟩:∃g o c,v=.slice (some ⟨g,o,none⟩) 256 c/\w.rangeAt g o (b.map vb):=by
  obtain⟨h1,a',c',rfl,-,-,-,h4⟩:=hr;obtain⟨g,o,rfl,hc⟩:=h4 (by rw[h1];decide);exact⟨g,o,c',rfl,hc⟩
 have hg:¬(dU a dv lv f D) g:=hv g rfl;have r:=O (Loc.nil (dU a dv lv f D) (dU a dv lv f D) w);have m:=O h;have I:=O zm;have qv:nL d s D Z=true:=by unfold nL;simp only[Bool.and_eq_true,decide_eq_true_eq];omega
 replace qv:=O qv;obtain⟨bs,q⟩:=zX9 (b.map vb)
 have q5:bs.length=256:=by rw[←q,List.length_map,q3]
 have HO:Hid (∀u∈bs,u.oneCell'=true):=O (by rw[←q];exact bR _);rw[q] at I;have zf:=O q;have HM:=O hM;have HW:=O hW;have zt:(d:Int)<(D:Int):=by omega
 have zr:(0:Int)≤(d:Int):=by omega
 clear h hr hv zm q hM hW;go_in
 go_wp2_with refine bxA (#[.slice (some ⟨g,o,none⟩) 256 c]) ?_
 intro b7 w1 q j hb;replace r:=O (r.new (fun _ j=>m.lt j) q j hb);replace m:=O (m.keep j fun _ h=>h.elim);replace I:=O (j.rangeAt I.out);clear q j hb;go_wp2_with fail;refine(xE w1 a (d:Int) (s:Int)).mono ?_;rintro e w2 hp;obtain⟨p0,p1,p2,rfl,J,K,L,j⟩:=hp.three;replace r:=kL r j;replace m:=O (m.keep j fun _ h=>h.elim);replace I:=O (j.rangeAt I.out);clear j;replace J:=O J;replace K:=O K;replace L:=O L;go_wp2_with fail;refine(pZ w2 a (d:Int)).mono ?_;rintro e w3 hp;obtain⟨q0,q1,rfl,qa,qb,j⟩:=hp.two;replace r:=kL r j;replace m:=O (m.keep j fun _ h=>h.elim);replace I:=O (j.rangeAt I.out);replace J:=O (j.blk J.out id);replace K:=O (j.blk K.out id);replace L:=O (j.blk L.out id);clear j;replace qa:=O qa;replace qb:=O qb;obtain⟨w4,ze,j,hb,-⟩:=aP w3 #[.func (.func 113) #[.pointer a] #[],.func (.func 114) #[.pointer a] #[],.func (.func 170) #[] #[.pointer p0,.pointer p1,.pointer p2],.func (.func 135) #[] #[.pointer b7],.func (.func 172) #[] #[.pointer q0,.pointer q1],.func (.func 137) #[.pointer a] #[]] 131;obtain⟨zl,q⟩:=zX9 w3.heap.size
 rw[q] at hb;replace r:=O (r.new (fun _ j=>m.lt j) q j hb);have qk:=O q;replace m:=O (m.keep j fun _ h=>h.elim);replace I:=O (j.rangeAt I.out);replace J:=O (j.blk J.out id);replace K:=O (j.blk K.out id);replace L:=O (j.blk L.out id);replace qa:=O (j.blk qa.out id);replace qb:=O (j.blk qb.out id);clear j hb q;go_wp2_with fail;clear ze;rw[qk.out];have qq:=O (r.b 0)
 have HI:Hid (∀k wr,WI w4 a dv dc D lv k wr->wr.heap[zl]?=some (.cells #[.func (.func 113) #[.pointer a] #[],.func (.func 114) #[.pointer a] #[],.func (.func 170) #[] #[.pointer p0,.pointer p1,.pointer p2],.func (.func 135) #[] #[.pointer b7],.func (.func 172) #[] #[.pointer q0,.pointer q1],.func (.func 137) #[.pointer a] #[]] 131 (0,0))):=O (by
  rintro k wr (⟨-,j⟩|⟨-,j,-⟩)
  ·exact j.blk qq.out id
  ·exact j.blk qq.out (fun e=>(r.aq 0) (.inl e)))
 have zg:Hid (∀k,k<6->k≤6->∃G x,((#[.func (.func 113) #[.pointer a] #[],.func (.func 114) #[.pointer a] #[],.func (.func 170) #[] #[.pointer p0,.pointer p1,.pointer p2],.func (.func 135) #[] #[.pointer b7],.func (.func 172) #[] #[.pointer q0,.pointer q1],.func (.func 137) #[.pointer a] #[]]:Array Value).getD k .nilFunc=.func (.func G) #[] x\/(#[.func (.func 113) #[.pointer a] #[],.func (.func 114) #[.pointer a] #[],.func (.func 170) #[] #[.pointer p0,.pointer p1,.pointer p2],.func (.func 135) #[] #[.pointer b7],.func (.func 172) #[] #[.pointer q0,.pointer q1],.func (.func 137) #[.pointer a] #[]]:Array Value).getD k .nilFunc=.func (.func G) x #[])/\(∀w,Sem.run prog (callFunc G x) w=.ok (.enter G x) w)/\∀wr,WI w4 a dv dc D lv k wr->Calls prog G x wr fun e w'=>e=.returned (.int .i64 0)/\WI w4 a dv dc D lv (k+1) w'):=O (by
  intro k j hm
  match k,j,hm with
  | 0,_,_=>exact ckw (by decide) (.inr rfl) (fun w=>by rfl) fun wr k=>DS (m.keep k fun _ h=>h.elim)
  | 1,_,_=>exact ckw (by decide) (.inr rfl) (fun w=>by rfl) fun wr k=>DT (m.keep k fun _ h=>h.elim)
  | 2,_,_=>exact ckw (by decide) (.inl rfl) (fun w=>by rfl) fun wr k=>rki (by rw[qv.out];rfl) (uS (m.keep k fun _ h=>h.elim) (d:Int) (s:Int) p0 p1 p2 (k.blk J.out id) (k.blk K.out id) (k.blk L.out id))
  | 3,_,_=>exact ckw (by decide) (.inl rfl) (fun w=>by rfl) fun wr k=>Kr wr b7 256 c _ (k.blk (r.b 1) id)
  | 4,_,_=>exact ckw (by decide) (.inl rfl) (fun w=>by rfl) fun wr k=>sO (m.keep k fun _ h=>h.elim) hd q0 q1 (k.blk qa.out id) (k.blk qb.out id)
  | 5,_,_ =>
    refine⟨137,#[.pointer a],.inr rfl,fun w=>by rfl,fun wr hw=>?_⟩;rcases hw with⟨-,k1⟩|⟨e,-⟩
    ·refine(EG (k1.blk m.top id)).mono ?_
     rintro e w' ⟨h1,h2,h3⟩;exact⟨h1,.inr ⟨rfl,k1.trans' h2 (fun _ _ h=>h.elim) (fun _ _ h=>h),h3⟩⟩
    ·exact absurd e (by decide))
 refine(pY w4 (d:Int) zl 6 6 #[.func (.func 113) #[.pointer a] #[],.func (.func 114) #[.pointer a] #[],.func (.func 170) #[] #[.pointer p0,.pointer p1,.pointer p2],.func (.func 135) #[] #[.pointer b7],.func (.func 172) #[] #[.pointer q0,.pointer q1],.func (.func 137) #[.pointer a] #[]] (fun _=>0) (WI w4 a dv dc D lv) (by decide) (by decide) HI.out (by intro k j;match k,j with
  | 0,_=>rfl
  | 1,_=>rfl
  | 2,_=>rfl
  | 3,_=>rfl
  | 4,_=>rfl
  | 5,_=>rfl) (.inl ⟨by decide,aA.refl _ _⟩) (fun _ _=>rfl) (fun h=>absurd h (by decide)) zg.out).mono ?_
 rintro e w5 ⟨h1,h2,zn⟩;clear zg qq HI J K L qa qb;obtain rfl:=h1 rfl
 obtain⟨j,qm,qo⟩:aA (fun i=>i=a) w4 w5/\∃qm,w5.heap[a]?=some (.cells #[.slice dv D dc,lv,.int .i64 (-1),.bool false,.int .i64 qm] fO (0,0)):=by
  rcases zn with⟨h6,-⟩|⟨-,h6⟩
  ·exact absurd h6 (by decide)
  ·exact h6
 clear h1 h2 zn;replace r:=O (r.turn (B:=(dU a dv lv f D)) (B':=(dU a dv lv f D)) (j.mono fun _ _ e=>.inl e) (fun _ _ h=>h) (fun _ _ h=>h));replace I:=O (j.rangeAt2 I.out fun e=>hg (.inl e));replace m:=O (m.top2 j qo);clear j qo;have c1:w5.cell? ⟨a,0,none⟩=some (.slice dv D dc):=(aC (i:=0) m.top rfl)
 go_wp2_with fail;clear c1;obtain⟨cur,E,C⟩:=m.next hd;replace E:=O E;replace C:=O C;refine(EH w5 dv (d*5+2) 1 (by decide) cur E.out C.out).mono ?_;rintro e w6 ⟨rfl,j⟩;replace r:=kL r j;replace m:=O (m.keep j fun _ h=>h.elim);replace I:=O (j.rangeAt I.out);clear j;clear E C cur;go_wp2_with fail;obtain⟨cur,E,C⟩:=m.next hd;replace E:=O E;replace C:=O C;refine(EH w6 dv (d*5+2) 2 (by decide) cur E.out C.out).mono ?_;rintro e w7 ⟨rfl,j⟩;replace r:=kL r j;replace m:=O (m.keep j fun _ h=>h.elim);replace I:=O (j.rangeAt I.out);clear j;clear E C cur;go_wp2_with fail;obtain⟨p2,y,qi⟩:=m.lv;obtain⟨n,qj⟩:=zX9 W.length
 have HN:=O qj;rw[qj] at qi;have qy:=m.loose;rw[qj,qi] at qy;have qt:=O qy;have zu:n<100000000000:=by rw[←qj,HW.out];exact hn
 have X:=O qi;have ht:=m.top;rw[qi] at ht;have HT:=O ht;clear qy qi qj ht;refine dwA (dU a dv lv f D) (by kernel_rfl) ?_;intro wd S z Q V qd;replace r:=kL r qd;replace m:=O (m.keep qd fun _ h=>h.elim);replace I:=O (qd.rangeAt I.out);replace qt:=O (qd.owns qt.out fun _ _=>id);replace HT:=O (qd.blk HT.out id);clear qd;have zo:¬(dU a dv lv f D) b7:=(r.aq 1);refine tna 0 (.pointer a) rfl V ?_;refine tna 1 (.pointer a) rfl V ?_;refine tnb 2 (.pointer a) rfl V ?_;refine tnb 3 (.pointer (some ⟨a,1,none⟩)) rfl V ?_;refine tna 5 (.int .i64 (d:Int)) rfl V ?_;refine tna 6 (.int .i64 (s:Int)) rfl V ?_;refine tnd 7 (.slice (some ⟨g,o,none⟩) 256 c) rfl (.inl ⟨by rfl,fun w' zp=>by have c:=(z w' zp).cell (aC (i:=0) (r.b 1) rfl) zo;go_simp⟩) V ?_;refine tnd 8 (.pointer (some ⟨g,o,none⟩)) rfl (.inl ⟨by rfl,fun w' _=>by have hb:=Kv g o c w';go_simp⟩) V ?_;refine tnd 9 (.agg bs.toArray) rfl (yieldsIf_load_mid (by rfl) 207 (.tmp 62) rfl g o rfl bs _ (fun w' h=>(z w' h).rangeAt2 I.out hg) underlying207 rfl (by rw[q5];exact lT)) V ?_;refine tnd 10 (.agg (.int .i64 (d:Int)::.int .i64 (s:Int)::bs).toArray) rfl (fC 209 #[(0,.tmp 59),(1,.tmp 60),(2,.tmp 63)] [(0,.int .i64 (d:Int)),(1,.int .i64 (s:Int)),(2,.agg bs.toArray)] _ (ON bs q5 _ _)) V ?_;obtain⟨cs,qg⟩:=zX9 ((.int .i64 (d:Int)::.int .i64 (s:Int)::bs:List Value))
 have q9:cs.length=258:=by rw[←qg,List.length_cons,List.length_cons,q5]
 have zj:Hid (∀u∈cs,u.oneCell'=true):=O (by
  rw[←qg];intro u hu;rcases List.mem_cons.1 hu with rfl|hu
  ·rfl
  rcases List.mem_cons.1 hu with rfl|hu
  ·rfl
  exact HO.out u hu)
 rw[qg];have zh:=O qg;obtain⟨we,ql,qh,qz,-⟩:=aP wd cs.toArray WrT;obtain⟨bx,qc⟩:=zX9 wd.heap.size
 rw[qc] at qz;have zq:¬(dU a dv lv f D) bx:=fun j=>by have:=m.lt j;omega
 have zk:Hid (Rd we 258 (.slice bx 1 1) 1 cs):=O (dX (n:=1) (size:=258) qz (by rw[q9]) (by unfold maxLen;omega));have R:S we:=Q.out _ ((z _ V).trans qh.any);have zi:=O qh;have HX:=O qc;have qx:=O (qh.blk HT.out id);have qn:=O (qh.owns qt.out fun _ _=>id);clear qz qh qg;refine gL (k:=4) (l:=11) rfl rfl (by kernel_rfl) ?_ ?_
 ·have c1:wd.cell? ⟨a,1,none⟩=some (.slice p2 n y):=aC HT.out rfl
  go_wp2_with fail;refine⟨V,?_⟩;clear c1;refine wA9 11 ?_;refine bZ rfl 94 WrT (.tmp 64) rfl underlying94 pD (by decide) cs q9 (by decide) rfl ?_;rw[ql,qc];clear ql qc V;refine wpList_nil ?_;refine⟨R,?_⟩;refine wA9 12 ?_;refine aM rfl (.tmp 58) (.tmp 65) 94 rfl 0 WrT (.agg nK.toArray) 258 272 underlying94 pD rfl (by decide) (.slice p2 n y) n (dH W) rfl qn.out (.slice bx 1 1) 1 cs rfl zk.out zj.out (by unfold maxLen;omega) (by omega) (Nat.zero_le _) ?_;intro v' w8 U H zb qf;obtain⟨g',P,rfl⟩:=ownsRow_succ U;have qu:=O U;have qp:=O qf;have za:aA (dU a dv lv f D) we w8:=H.mono fun k _ e=>.inr (.inr (.inl (by rw[X.out];exact e)))
  have qr:=O H;have t:S w8:=Q.out _ ((z _ R).trans za);have zd:¬(Value.slice p2 n y).ownBlock=some a:=fun e=>m.ne.2.2 a (by rw[X.out];exact e) rfl
  have qw:=O (H.blk qx.out zd);clear U H zb qf;refine wpList_nil ?_;refine⟨t,?_⟩;clear R;refine tnb 13 (.pointer a) rfl t ?_;refine tnb 14 (.pointer (some ⟨a,1,none⟩)) rfl t ?_;refine wA9 15 ?_;refine sta 94 (.tmp 68) (.tmp 66) a 1 [.slice g' (n+1) P] qw.out (by simp) (by kernel_rfl) (one9) ?_;intro w9 T A;replace A:w9.heap[a]?=some (.cells #[.slice dv D dc,(.slice g' (n+1) P),.int .i64 (-1),.bool false,.int .i64 qm] fO (0,0)):=A;have HP:Hid (kB w a (dU a dv lv f D) D Z M nw d s b (.returned (.int .i64 0)) w9):=O (A4 m.out zi.out qr.out X.out HN.out qu.out qp.out T A hd hs q3 zh.out zf.out HM.out HW.out r.keep);have qe:S w9:=Q.out _ (((z _ t).trans (T.mono fun _ _ e=>.inl e)));clear T A t;refine wpList_nil ?_;refine⟨qe,?_⟩;refine wpAnyH_done (by kernel_rfl) ?_ _;clear qe z Q;go_wp2;go_ret;exact HP.out
 ·refine bZ rfl 94 WrT (.tmp 64) rfl underlying94 pD (by decide) cs q9 (by decide) rfl ?_
  rw[ql,qc];clear ql qc V;refine wpList_nil ?_;refine⟨R,?_⟩;refine wA9 4 ?_;have c1:we.cell? ⟨a,1,none⟩=some (.slice p2 n y):=aC qx.out rfl;go_wp2_with fail;refine⟨R,?_⟩;clear c1;refine wA9 12 ?_;refine aM rfl (.tmp 58) (.tmp 65) 94 rfl 0 WrT (.agg nK.toArray) 258 272 underlying94 pD rfl (by decide) (.slice p2 n y) n (dH W) rfl qn.out (.slice bx 1 1) 1 cs rfl zk.out zj.out (by unfold maxLen;omega) (by omega) (Nat.zero_le _) ?_;intro v' w8 U H zb qf;obtain⟨g',P,rfl⟩:=ownsRow_succ U;have qu:=O U;have qp:=O qf;have za:aA (dU a dv lv f D) we w8:=H.mono fun k _ e=>.inr (.inr (.inl (by rw[X.out];exact e)))
  have qr:=O H;have t:S w8:=Q.out _ ((z _ R).trans za);have zd:¬(Value.slice p2 n y).ownBlock=some a:=fun e=>m.ne.2.2 a (by rw[X.out];exact e) rfl
  have qw:=O (H.blk qx.out zd);clear U H zb qf;refine wpList_nil ?_;refine⟨t,?_⟩;clear R;refine tnb 13 (.pointer a) rfl t ?_;refine tnb 14 (.pointer (some ⟨a,1,none⟩)) rfl t ?_;refine wA9 15 ?_;refine sta 94 (.tmp 68) (.tmp 66) a 1 [.slice g' (n+1) P] qw.out (by simp) (by kernel_rfl) (one9) ?_;intro w9 T A;replace A:w9.heap[a]?=some (.cells #[.slice dv D dc,(.slice g' (n+1) P),.int .i64 (-1),.bool false,.int .i64 qm] fO (0,0)):=A;have HP:Hid (kB w a (dU a dv lv f D) D Z M nw d s b (.returned (.int .i64 0)) w9):=O (A4 m.out zi.out qr.out X.out HN.out qu.out qp.out T A hd hs q3 zh.out zf.out HM.out HW.out r.keep);have qe:S w9:=Q.out _ (((z _ t).trans (T.mono fun _ _ e=>.inl e)));clear T A t;refine wpList_nil ?_;refine⟨qe,?_⟩;refine wpAnyH_done (by kernel_rfl) ?_ _;clear qe z Q;go_wp2;go_ret;exact HP.out
theorem N7(r:Rd w 258 (.slice p n c) n (dH W))(e:yH D Z W)(h:W[k]?=some x):∃g o,p=some ⟨g,o,none⟩/\w.rangeAt g (o+k*258) (eX x):=by
 have q:=(List.getElem?_eq_some_iff.1 h).1;obtain⟨C,z,A,m,-,-,-,i⟩:=r;obtain⟨g,o,rfl,l⟩:=i (by rw[PX e];omega);cases m
 refine⟨g,o,rfl,fun j v t=>?_⟩;have:=l (k*258+j) v (gP (c:=eX) (n:=258) (fun y u=>lS (e y u).1) h t)
 rwa [←Nat.add_assoc] at this
theorem IJ(w:World)(k:Int)(x:Lw)(t:x.b.length=256)(p d:Nat)(m:w.heap[p]?=some (.cells #[.int .i64 (d:Int)] 3 (0,0))):Calls prog 141 #[.int .i64 k,.agg (eX x).toArray,.pointer p] w (aH w (.bool (decide (x.dev=d)))):=by
 have r:=lS t;have j:=O m;have h:=lN w;have q:((x.dev:Int) == (d:Int))=decide (x.dev=d):=by rw[Bool.eq_iff_iff,beq_iff_eq,decide_eq_true_eq];omega
 obtain⟨bb,e⟩:=zX9 (decide (x.dev=d))
 rw[e] at q ⊢;clear m e;go_in
 go_wp2_with refine bxM h ((eX x).toArray) ?_
 intro o u l h;replace j:=O (l.blk j.out id);clear l;have c1:u.cell? ⟨o,0,none⟩=some (.int .i64 (x.dev:Int)):=aC (i:=0) (h.b 0) (by rw[List.getElem?_toArray];rfl);have c2:=aC (i:=0) j.out rfl;go_wp2;go_ret;exact aH.of h.keep
def EI(w:World)(W:List Lw)(d:Nat)(e:Ending)(w':World):Prop:=∃yv nv,e=.returned (.tuple #[yv,nv])/\w'.ownsRow w.heap.size WrT 258 yv (W.filter fun x=>decide (x.dev=d)).length (dH (W.filter fun x=>decide (x.dev=d)))/\w'.ownsRow w.heap.size WrT 258 nv (W.filter fun x=>!decide (x.dev=d)).length (dH (W.filter fun x=>!decide (x.dev=d)))/\aA aB w w'
structure PaI(w wr:World)(W:List Lw)(d k:Nat)(yv nv:Value)(Y N:List Lw):Prop where
 y:Y=(W.take k).filter fun x=>decide (x.dev=d)
 n:N=(W.take k).filter fun x=>!decide (x.dev=d)
 oy:wr.ownsRow w.heap.size WrT 258 yv Y.length (dH Y)
 on:wr.ownsRow w.heap.size WrT 258 nv N.length (dH N)
 ne:∀i,yv.ownBlock=some i->¬nv.ownBlock=some i
 keep:aA aB w wr
theorem PaI.lens{wr:World}(h:PaI w wr W d k yv nv Y N):Y.length≤W.length/\N.length≤W.length:=by
 rw[h.y,h.n];have e:=List.length_take_le k W;have i:=List.length_filter_le (fun x:Lw=>decide (x.dev=d)) (W.take k);have j:=List.length_filter_le (fun x:Lw=>!decide (x.dev=d)) (W.take k);have l:(W.take k).length≤W.length:=by rw[List.length_take];omega
 omega
theorem xF(Y:List Lw)(x:Lw):dH (Y++[x])=dH Y++eX x:=by unfold dH;rw[List.flatMap_append];simp
theorem PaI.yes{wr:World}(h:PaI w wr W d k yv nv Y N)(y:W[k]?=some x)(o:x.dev=d)(m:aA aB wr we)(u:w8.ownsRow w.heap.size WrT 258 (.slice g (Y.length+1) c) (Y.length+1) (dH Y++eX x))
 (r:aA (fun k=>yv.ownBlock=some k) we w8) (j:(Value.slice g (Y.length+1) c).ownBlock=yv.ownBlock\/(Value.slice g (Y.length+1) c).ownBlock=some we.heap.size):PaI w w8 W d (k+1) (.slice g (Y.length+1) c) nv (Y++[x]) N:=by
 have q:W.take (k+1)=W.take k++[x]:=by rw[List.take_add_one,y];rfl
 refine⟨?_,?_,?_,?_,?_,?_⟩
 ·rw[q,List.filter_append,←h.y];simp[o]
 ·rw[q,List.filter_append,←h.n];simp[o]
 ·rw[List.length_append,xF];exact u
 ·exact r.owns (m.owns h.on fun _ _=>id) fun i l e=>h.ne i e l
 ·intro i l e
  rcases j with j|j
  ·exact h.ne i (j▸l) e
  ·obtain⟨cur,t⟩:=aJ h.on e
   have:=lt_of_block t;have:=m.size;rw[l] at j;cases j
   omega
 ·exact(h.keep.trans m).tT r fun i l e=>by
   have:=aW h.oy e;omega
theorem PaI.no{wr:World}(h:PaI w wr W d k yv nv Y N)(y:W[k]?=some x)(o:¬x.dev=d)(m:aA aB wr we)(u:w8.ownsRow w.heap.size WrT 258 (.slice g (N.length+1) c) (N.length+1) (dH N++eX x))
 (r:aA (fun k=>nv.ownBlock=some k) we w8) (j:(Value.slice g (N.length+1) c).ownBlock=nv.ownBlock\/(Value.slice g (N.length+1) c).ownBlock=some we.heap.size):PaI w w8 W d (k+1) yv (.slice g (N.length+1) c) Y (N++[x]):=by
 have q:W.take (k+1)=W.take k++[x]:=by rw[List.take_add_one,y];rfl
 refine⟨?_,?_,?_,?_,?_,?_⟩
 ·rw[q,List.filter_append,←h.y];simp[o]
 ·rw[q,List.filter_append,←h.n];simp[o]
 ·exact r.owns (m.owns h.oy fun _ _=>id) fun i l e=>h.ne i l e
 ·rw[List.length_append,xF];exact u
 ·intro i l e
  rcases j with j|j
  ·exact h.ne i l (j▸e)
  ·obtain⟨cur,t⟩:=aJ h.oy l
   have:=lt_of_block t;have:=m.size;rw[e] at j;cases j
   omega
 ·exact(h.keep.trans m).tT r fun i l e=>by
   have:=aW h.on e;omega
theorem PaI.same{wr:World}(h:PaI w wr W d k yv nv Y N)(e:aA aB wr we):PaI w we W d k yv nv Y N:=
 ⟨h.y,h.n,e.owns h.oy fun _ _=>id,e.owns h.on fun _ _=>id,h.ne,h.keep.trans e⟩
theorem DB(w:World)(W:List Lw)(d:Nat)(p:Option Addr)(c:Nat)(hr:Rd w 258 (.slice p W.length c) W.length (dH W))(H:yH D Z W)(hn:W.length<100000000000)(q:Nat)(hq:w.heap[q]?=some (.cells #[.int .i64 (d:Int)] 3 (0,0))) :
 Calls prog 140 #[.slice p W.length c,.func (.func 141) #[] #[.pointer q]] w (EI w W d):=by
 obtain⟨n,qi⟩:=zX9 W.length
 have HN:=O qi;rw[qi] at hr hn ⊢;have HR:=O hr;have HQ:=O hq;have qj:=O H;clear hr hq H qi;go_in;go_wp2_with fail
 go_loopw [4,5,10] (fun y z i wr=>∃(k:Nat) (Y N:List Lw) (py pn:Option Addr) (cy cn:Nat),k≤n/\i=.int .i64 k/\y=.slice py Y.length cy/\z=.slice pn N.length cn/\Hid (PaI w wr W d k (.slice py Y.length cy) (.slice pn N.length cn) Y N)) (fun _ _ i _=>n-(intOf i).toNat)
 case atStart=>exact⟨0,[],[],none,none,0,0,by omega,rfl,rfl,rfl,O ⟨by simp,by simp,World.ownsRow_nil _ _ _ _,World.ownsRow_nil _ _ _ _,(fun i h=>by cases h),aA.refl _ _⟩⟩
 case round =>
  obtain⟨k,Y,N,py,pn,cy,cn,T,rfl,rfl,rfl,HI⟩:=hrel
  by_cases qp:k<n
  ·obtain⟨x,hx⟩:∃x,W[k]?=some x:=⟨W[k]'(by rw[HN.out];exact qp),List.getElem?_eq_getElem _⟩
   have H:=qj.out x (List.mem_of_getElem? hx);have m:=lS H.1;obtain⟨g,o,rfl,ql⟩:=N7 (by have:=HR.out;rwa [←HN.out] at this) qj.out hx;have HX:=O (HI.keep.rangeAt ql);have qk:=O hx;have V:=HI.lens;rw[HN.out] at V;have HL:=lN wr;have L:=O (HI.keep.blk HQ.out id);have qf:(0:Int)≤(k:Int):=by omega
   have qq:(k:Int)<(n:Int):=by omega
   obtain⟨ny,qc⟩:=zX9 Y.length
   obtain⟨nn,qb⟩:=zX9 N.length
   have l:=O qc;have j:=O qb;rw[qc,qb] at V;rw[qc,qb];have qn:=H.1;clear ql hx H qc qb
   go_wp2_with (first
    | refine ldM g (o+k*258) (eX x) HX.out qG (by rw[m];exact kU) ?_
    | refine alA BT ?_)
   intro b7 w1 qm qf qd
   go_wp2_with ((with_reducible show WL _ _);refine stW qd m sN (by rw[m];exact kU) (uQ x) ?_)
   intro w2 T hb;replace T:=tX qf T (fun i hi e=>by omega);replace HL:=lW HL qm T hb;replace HX:=O (T.rangeAt HX.out);replace L:=O (T.blk L.out id);clear qm T hb qf qd;clear HX
   go_wp2_with ((with_reducible show WL _ _);refine ldR (HL.b 0) qG (by rw[m];exact kU) ?_)
   refine(IJ w2 (k:Int) x qn q d L.out).mono ?_;rintro e w3 ⟨rfl,T⟩;replace HL:=kL HL T;replace L:=O (T.blk L.out id);clear T;have A:=O (HI.same HL.keep);have HP:=O A.out
   by_cases hd:x.dev=d
   ·have S:decide (x.dev=d)=true:=decide_eq_true hd
    rw[S];clear S;have HO:=O A.oy;rw[l.out] at HO;have qo:Hid (∀u∈eX x,u.oneCell'=true):=O (uQ x);have R:=A.keep.size;obtain⟨we,qa,t,C,-⟩:=aP w3 (eX x).toArray 209;obtain⟨bx,r⟩:=zX9 w3.heap.size
    rw[r] at C;have P:Hid (Rd we 258 (.slice bx 1 1) 1 (eX x)):=O (dX (n:=1) (size:=258) C (by rw[m]) (by unfold maxLen;omega));have K:=O (t.owns HO.out fun _ _=>id);have X:=t.size;have J:=O t;have qe:=O r;clear C t
    go_wp2_with (first
     | ((with_reducible show WL (some 20) (.load 209 _));refine ldR (HL.b 0) qG (by rw[m];exact kU) ?_)
     | ((with_reducible show WL _ (.buildSlice _ 1 _));refine bZ rfl 94 209 (.tmp 20) rfl underlying94 pD (by decide) (eX x) m (by decide) rfl ?_;rw[qa,r])
     | (at_builtin;refine aM rfl (.tmp 19) (.tmp 21) 94 rfl w.heap.size 209 (.agg nK.toArray) 258 272 underlying94 pD rfl (by decide) (.slice py ny cy) ny (dH Y) rfl K.out (.slice bx 1 1) 1 (eX x) rfl P.out (uQ x) (by unfold maxLen;omega) (by omega) (by omega) ?_))
    intro v2 w8 E U qh Q;obtain⟨gq,cq,rfl⟩:=ownsRow_succ E;clear qa r qh P K;have I:=O (A.yes qk.out hd J.out (by rw[l.out];exact E) (by rw[l.out];exact U) (by rw[l.out];exact Q));rw[l.out,j.out] at I;clear E U Q J qe X R;go_wp2
    go_roundw
    case rel=>exact⟨k+1,Y++[x],N,some ⟨gq,0,none⟩,pn,cq,cn,by omega,by go_num,by rw[List.length_append,l.out];rfl,by rw[j.out],by rw[List.length_append,l.out,j.out];exact I⟩
    case measure=>simp[intOf];omega
   ·have S:decide (x.dev=d)=false:=decide_eq_false hd
    rw[S];clear S;have HO:=O A.on;rw[j.out] at HO;have qo:Hid (∀u∈eX x,u.oneCell'=true):=O (uQ x);have R:=A.keep.size;obtain⟨we,qa,t,C,-⟩:=aP w3 (eX x).toArray 209;obtain⟨bx,r⟩:=zX9 w3.heap.size
    rw[r] at C;have P:Hid (Rd we 258 (.slice bx 1 1) 1 (eX x)):=O (dX (n:=1) (size:=258) C (by rw[m]) (by unfold maxLen;omega));have K:=O (t.owns HO.out fun _ _=>id);have X:=t.size;have J:=O t;have qe:=O r;clear C t
    go_wp2_with (first
     | ((with_reducible show WL (some 24) (.load 209 _));refine ldR (HL.b 0) qG (by rw[m];exact kU) ?_)
     | ((with_reducible show WL _ (.buildSlice _ 1 _));refine bZ rfl 94 209 (.tmp 24) rfl underlying94 pD (by decide) (eX x) m (by decide) rfl ?_;rw[qa,r])
     | (at_builtin;refine aM rfl (.tmp 23) (.tmp 25) 94 rfl w.heap.size 209 (.agg nK.toArray) 258 272 underlying94 pD rfl (by decide) (.slice pn nn cn) nn (dH N) rfl K.out (.slice bx 1 1) 1 (eX x) rfl P.out (uQ x) (by unfold maxLen;omega) (by omega) (by omega) ?_))
    intro v2 w8 E U qh Q;obtain⟨gq,cq,rfl⟩:=ownsRow_succ E;clear qa r qh P K;have I:=O (A.no qk.out hd J.out (by rw[j.out];exact E) (by rw[j.out];exact U) (by rw[j.out];exact Q));rw[j.out,l.out] at I;clear E U Q J qe X R;go_wp2
    go_roundw
    case rel=>exact⟨k+1,Y,N++[x],py,some ⟨gq,0,none⟩,cy,cq,by omega,by go_num,by rw[l.out],by rw[List.length_append,j.out];rfl,by rw[List.length_append,l.out,j.out];exact I⟩
    case measure=>simp[intOf];omega
  ·obtain rfl:n=k:=by omega
   have hi:=HI.out;have hy:=hi.y;have qg:=hi.n;rw[List.take_of_length_le (by rw[HN.out];exact Nat.le_refl _)] at hy qg;have HP:Hid (EI w W d (.returned (.tuple #[.slice py Y.length cy,.slice pn N.length cn])) wr):=O ⟨_,_,rfl,by rw[←hy];exact hi.oy,by rw[←qg];exact hi.on,hi.keep⟩;clear hi hy qg;go_wp2
   go_ret2
   exact HP.out
variable {w:World}{a dv dc D Z:Nat}{lv:Value}{st:Int}{f:Nat->Nat}{F:Nat->Nat->List UInt8}{W:List Lw}
def WJ(W:World)(a dv dc D:Nat)(lv:Value)(k:Nat)(wr:World):Prop:=(k≤4/\aA aB W wr)\/(k=5/\aA (fun i=>i=a) W wr/\∃e,wr.heap[a]?=some (.cells #[.slice dv D dc,lv,.int .i64 (-1),.bool false,.int .i64 e] fO (0,0)))
theorem ckj{W:World}(q:k≤3){x:Array Value}(m:v=.func (.func G) #[] x\/v=.func (.func G) x #[])(l:∀w,Sem.run prog (callFunc G x) w=.ok (.enter G x) w)(j:∀wr,aA aB W wr->Calls prog G x wr (aH wr (.int .i64 0))) :
 ∃G x,(v=.func (.func G) #[] x\/v=.func (.func G) x #[])/\(∀w,Sem.run prog (callFunc G x) w=.ok (.enter G x) w)/\∀wr,WJ W a dv dc D lv k wr->Calls prog G x wr fun e w'=>e=.returned (.int .i64 0)/\WJ W a dv dc D lv (k+1) w':=
 ⟨G,x,m,l,fun wr o=>by
  rcases o with⟨-,i⟩|⟨e,-⟩
  ·exact(j wr i).mono fun e w' h=>⟨h.1,.inl ⟨by omega,i.trans h.2⟩⟩
  ·omega⟩
theorem bU.ne3(h:bU w a dv dc lv st f F W D Z):∀d,d<D->dv≠f d:=by
 rintro d j rfl;obtain⟨cur,i⟩:=aJ h.devs (k:=f d) rfl;have e:=h.firm d j;rw[i] at e;simp[iI,gA] at e
def jB(F:Nat->Nat->List UInt8)(d s:Nat)(b:List UInt8):Nat->Nat->List UInt8:=fun e h=>if e=d/\h=s then b else F e h
theorem EJ(F:Nat->Nat->List UInt8)(K:s<Z)(b:List UInt8)(o:b.length=256)(hF:∀s,s<Z->(F d s).length=256):spl (dI (F d) Z).toArray (s*256) (b.map vb)=(dI (jB F d s b d) Z).toArray:=by
 have E:(dI (F d) Z).length=Z*256:=by
  have:=pB (c:=fun s=>(F d s).map vb) (n:=256) (l:=List.range Z) fun x m=>by rw[List.length_map];exact hF x (List.mem_range.1 m)
  rw[List.length_range] at this;exact this
 have H:(dI (jB F d s b d) Z).length=Z*256:=by
  have:=pB (c:=fun t=>(jB F d s b d t).map vb) (n:=256) (l:=List.range Z) fun x m=>by
   rw[List.length_map];unfold jB;split
   ·exact o
   ·exact hF x (List.mem_range.1 m)
  rw[List.length_range] at this;exact this
 have I:s*256+256≤Z*256:=by omega
 apply Array.ext_getElem?;intro j;rw[mY _ _ _ _ (by rw[List.size_toArray,E,List.length_map,o];exact I)];simp only[List.getElem?_toArray,List.length_map,o]
 by_cases J:j<Z*256
 ·obtain⟨q,r,rfl,z⟩:∃q r,j=q*256+r/\r<256:=⟨j / 256,j % 256,by omega,by omega⟩
  have y:q<Z:=by omega
  have C:(dI (jB F d s b d) Z)[q*256+r]?=((jB F d s b d q).map vb)[r]?:=by
   have i:((jB F d s b d q).map vb).length=256:=by
    rw[List.length_map];unfold jB;split
    ·exact o
    ·exact hF q y
   obtain⟨v,u⟩:∃v,((jB F d s b d q).map vb)[r]?=some v:=⟨_,List.getElem?_eq_getElem (by rw[i];exact z)⟩
   rw[u]
   exact gP (c:=fun t=>(jB F d s b d t).map vb) (n:=256) (l:=List.range Z) (fun x m=>by
    rw[List.length_map];unfold jB;split
    ·exact o
    ·exact hF x (List.mem_range.1 m)) (jA y) u
  have A:(dI (F d) Z)[q*256+r]?=((F d q).map vb)[r]?:=by
   have i:((F d q).map vb).length=256:=by rw[List.length_map];exact hF q y
   obtain⟨v,u⟩:∃v,((F d q).map vb)[r]?=some v:=⟨_,List.getElem?_eq_getElem (by rw[i];exact z)⟩
   rw[u];exact gP (c:=fun t=>(F d t).map vb) (n:=256) (l:=List.range Z) (fun x m=>by rw[List.length_map];exact hF x (List.mem_range.1 m)) (jA y) u
  rw[A,C];unfold jB
  by_cases e:q=s
  ·subst e
   rw[if_pos (by omega),if_pos ⟨rfl,rfl⟩,show q*256+r-q*256=r by omega]
  ·rw[if_neg (by omega),if_neg (fun h=>e h.2)]
 ·rw[if_neg (by omega),List.getElem?_eq_none (by omega),List.getElem?_eq_none (by omega)]
theorem xG{G:Nat->List UInt8}(e:∀s,s<Z->(G s).length=256):(dI G Z).length=Z*256:=by
 have:=pB (c:=fun s=>(G s).map vb) (n:=256) (l:=List.range Z) fun x h=>by rw[List.length_map];exact e x (List.mem_range.1 h)
 rw[List.length_range] at this;exact this
theorem bU.turn(h:bU w a dv dc lv st f F W D Z){b:List UInt8}(l:d<D)(C:s<Z)(u:b.length=256)(k:aA (fun i=>i=f d) w w')(y:w'.heap[f d]?=some (.cells (dI (jB F d s b d) Z).toArray iI (0,0))):bU w' a dv dc lv st f (jB F d s b) W D Z:=by
 obtain⟨E,A,H⟩:=h.ne;refine⟨k.blk h.top fun e=>A d l e,k.owns h.devs fun i o e=>h.ne3 d l (by cases o;exact e),fun e m=>?_,h.inj,k.owns h.loose fun i o e=>(h.ne2 i o).2 d l e,h.wok,?_,h.bd⟩
 ·by_cases j:e=d
  ·subst j;exact y
  ·have q:jB F d s b e=F e:=by
    funext t;unfold jB;rw[if_neg (fun h=>j h.1)]
   rw[q];exact k.blk (h.firm e m) fun r=>j (h.inj e d m l r)
 ·intro e t m z
  unfold jB;split
  ·exact u
  ·exact h.fok e t m z
theorem sP:∀(l:List Lw) (b:List UInt8),eB (l.filter fun x=>decide (x.dev=d)) d s b=eB l d s b
 | [],b=>rfl
 | x::l,b=>by
   by_cases e:x.dev=d
   ·rw[List.filter_cons_of_pos (by simpa using e)]
    exact sP l _
   ·rw[List.filter_cons_of_neg (by simpa using e),sP l b]
    show _=eB l d s (if x.dev=d/\x.at_=s then x.b else b);rw[if_neg (fun h=>e h.1)]
theorem uV{i:Nat}(j:i≠d):∀(l:List Lw) (b:List UInt8),eB (l.filter fun x=>!decide (x.dev=d)) i s b=eB l i s b
 | [],b=>rfl
 | x::l,b=>by
   by_cases e:x.dev=d
   ·rw[List.filter_cons_of_neg (by simpa using e),uV j l b]
    show _=eB l i s (if x.dev=i/\x.at_=s then x.b else b);rw[if_neg (fun h=>j (h.1.symm.trans e))]
   ·rw[List.filter_cons_of_pos (by simpa using e)]
    exact uV j l _
theorem xH:∀(l:List Lw) (b:List UInt8),eB (l.filter fun x=>!decide (x.dev=d)) d s b=b
 | [],b=>rfl
 | x::l,b=>by
   by_cases e:x.dev=d
   ·rw[List.filter_cons_of_neg (by simpa using e)]
    exact xH l b
   ·rw[List.filter_cons_of_pos (by simpa using e)]
    show eB _ d s (if x.dev=d/\x.at_=s then x.b else b)=b;rw[if_neg (fun h=>e h.1)];exact xH l b
def oK(F:Nat->Nat->List UInt8)(d:Nat)(Y:List Lw):Nat->Nat->List UInt8:=fun e h=>if e=d then eB Y e h (F e h) else F e h
theorem Kw(F:Nat->Nat->List UInt8)(d:Nat)(Y:List Lw)(x:Lw)(j:x.dev=d):jB (oK F d Y) d x.at_ x.b=oK F d (Y++[x]):=by
 funext d' s'
 unfold jB oK
 by_cases e:d'=d
 ·subst e
  rw[if_pos rfl,if_pos rfl,pX]
  by_cases i:s'=x.at_
  ·rw[if_pos ⟨rfl,i⟩,if_pos ⟨j,i.symm⟩]
  ·rw[if_neg (fun h=>i h.2),if_neg (fun h=>i h.2.symm)]
 ·rw[if_neg (fun h=>e h.1),if_neg e,if_neg e]
theorem MQ(F:Nat->Nat->List UInt8)(d:Nat)(W:List Lw):∀h i,eB (W.filter fun x=>!decide (x.dev=d)) h i (oK F d (W.filter fun x=>decide (x.dev=d)) h i)=eB W h i (F h i):=by
 intro h i;unfold oK
 by_cases e:h=d
 ·subst e;rw[if_pos rfl,xH,sP]
 ·rw[if_neg e,uV e]
def CI(w:World)(a:Nat)(B:Nat->Prop)(D Z:Nat)(M:Nat->Nat->List UInt8)(nw:Nat)(e:Ending)(w':World):Prop:=
 e=.returned (.int .i64 0)/\∃i h,bQ w' a i D Z M h/\h≤nw/\(∀k,i k->B k\/w.heap.size≤k)/\aA B w w'
theorem A5(h:bQ w a B D Z M nw)(hd:d<D)(hn:nw<100000000000):Calls prog 90 #[.pointer a,.int .i64 (d:Int)] w (CI w a B D Z M nw):=by
 obtain⟨dv,dc,lv,st,f,F,W,h,rfl,hW,hM⟩:=h;obtain⟨p2,qb,zo⟩:=h.lv;have r:=O (Loc.nil (dU a dv lv f D) (dU a dv lv f D) w);have m:=O h;have qp:(decide (0≤(d:Int)) && decide ((d:Int)<(D:Int)))=true:=by simp only[Bool.and_eq_true,decide_eq_true_eq];omega
 replace qp:=O qp;have HM:=O hM;have HW:=O hW;have zd:=O zo;have z2:(d:Int)<(D:Int):=by omega
 have z1:(0:Int)≤(d:Int):=by omega
 clear h hM hW zo;go_in
 go_wp2_with refine bxA (#[.int .i64 (d:Int)]) ?_
 intro b3 w1 H j V;replace r:=O (r.new (fun _ j=>m.lt j) H j V);replace m:=O (m.keep j fun _ h=>h.elim);clear H j V;go_wp2_with fail;refine dwA (dU a dv lv f D) (by kernel_rfl) ?_;intro w2 S q L A I;replace r:=kL r I;replace m:=O (m.keep I fun _ h=>h.elim);clear I;have u:=r;have Q:=m;refine tnd 0 (.int .i64 (d:Int)) rfl (.inl ⟨by rfl,fun w' E=>by have c:=aC (i:=0) ((q w' E).blk (u.b 0) ((u.aq 0))) rfl;go_simp⟩) A ?_;refine tna 1 (.pointer a) rfl A ?_;refine tnb 2 (.func (.func 113) #[.pointer a] #[]) rfl A ?_;refine tna 3 (.pointer a) rfl A ?_;refine tnb 4 (.func (.func 114) #[.pointer a] #[]) rfl A ?_;refine tna 5 (.pointer a) rfl A ?_;refine tnd 6 (.int .i64 (d:Int)) rfl (.inl ⟨by rfl,fun w' E=>by have c:=aC (i:=0) ((q w' E).blk (u.b 0) ((u.aq 0))) rfl;go_simp⟩) A ?_;refine tna 8 (.pointer a) rfl A ?_;refine tnd 9 (.int .i64 (d:Int)) rfl (.inl ⟨by rfl,fun w' E=>by have c:=aC (i:=0) ((q w' E).blk (u.b 0) ((u.aq 0))) rfl;go_simp⟩) A ?_;refine tna 11 (.pointer a) rfl A ?_;refine tnb 12 (.func (.func 137) #[.pointer a] #[]) rfl A ?_;refine wA9 7 ?_;go_wp2_with fail;refine(IF w2 a (d:Int)).mono ?_;rintro e w3 hp;obtain⟨p0,p1,rfl,J,K,j⟩:=hp.two;have U:=L.out _ ((q _ A).trans j.any);replace r:=kL r j;replace m:=O (m.keep j fun _ h=>h.elim);clear A j;replace J:=O J;replace K:=O K;go_wp2_with fail;refine⟨U,?_⟩;refine wA9 10 ?_;go_wp2_with fail;refine(pZ w3 a (d:Int)).mono ?_;rintro e w4 hp;obtain⟨q0,q1,rfl,R,T,j⟩:=hp.two;have qu:=L.out _ ((q _ U).trans j.any);replace r:=kL r j;replace m:=O (m.keep j fun _ h=>h.elim);replace J:=O (j.blk J.out id);replace K:=O (j.blk K.out id);clear U j;replace R:=O R;replace T:=O T;go_wp2_with fail;refine⟨qu,?_⟩;refine wA9 13 ?_;obtain⟨w5,q5,j,V,-⟩:=aP w4 #[.func (.func 113) #[.pointer a] #[],.func (.func 114) #[.pointer a] #[],.func (.func 184) #[] #[.pointer p0,.pointer p1],.func (.func 172) #[] #[.pointer q0,.pointer q1],.func (.func 137) #[.pointer a] #[]] 131;obtain⟨zm,H⟩:=zX9 w4.heap.size
 rw[H] at V;have qv:=L.out _ ((q _ qu).trans j.any);clear qu;replace r:=O (r.new (fun _ j=>m.lt j) H j V);have qg:=O H;replace m:=O (m.keep j fun _ h=>h.elim);replace J:=O (j.blk J.out id);replace K:=O (j.blk K.out id);replace R:=O (j.blk R.out id);replace T:=O (j.blk T.out id);clear j V H;go_wp2_with fail;clear q5;rw[qg.out];refine⟨qv,?_⟩;refine wA9 14 ?_;go_wp2_with fail;have qq:=O (r.b 0)
 have HI:Hid (∀k wr,WJ w5 a dv dc D lv k wr->wr.heap[zm]?=some (.cells #[.func (.func 113) #[.pointer a] #[],.func (.func 114) #[.pointer a] #[],.func (.func 184) #[] #[.pointer p0,.pointer p1],.func (.func 172) #[] #[.pointer q0,.pointer q1],.func (.func 137) #[.pointer a] #[]] 131 (0,0))):=O (by
  rintro k wr (⟨-,j⟩|⟨-,j,-⟩)
  ·exact j.blk qq.out id
  ·exact j.blk qq.out (fun e=>(r.aq 0) (.inl e)))
 have q9:Hid (∀k,k<5->k≤5->∃G x,((#[.func (.func 113) #[.pointer a] #[],.func (.func 114) #[.pointer a] #[],.func (.func 184) #[] #[.pointer p0,.pointer p1],.func (.func 172) #[] #[.pointer q0,.pointer q1],.func (.func 137) #[.pointer a] #[]]:Array Value).getD k .nilFunc=.func (.func G) #[] x\/(#[.func (.func 113) #[.pointer a] #[],.func (.func 114) #[.pointer a] #[],.func (.func 184) #[] #[.pointer p0,.pointer p1],.func (.func 172) #[] #[.pointer q0,.pointer q1],.func (.func 137) #[.pointer a] #[]]:Array Value).getD k .nilFunc=.func (.func G) x #[])/\(∀w,Sem.run prog (callFunc G x) w=.ok (.enter G x) w)/\∀wr,WJ w5 a dv dc D lv k wr->Calls prog G x wr fun e w'=>e=.returned (.int .i64 0)/\WJ w5 a dv dc D lv (k+1) w'):=O (by
  intro k j hm
  match k,j,hm with
  | 0,_,_=>exact ckj (by decide) (.inr rfl) (fun w=>by rfl) fun wr k=>DS (m.keep k fun _ h=>h.elim)
  | 1,_,_=>exact ckj (by decide) (.inr rfl) (fun w=>by rfl) fun wr k=>DT (m.keep k fun _ h=>h.elim)
  | 2,_,_=>exact ckj (by decide) (.inl rfl) (fun w=>by rfl) fun wr k=>rki (by rw[qp.out];rfl) (Gc (m.keep k fun _ h=>h.elim) (d:Int) p0 p1 (k.blk J.out id) (k.blk K.out id))
  | 3,_,_=>exact ckj (by decide) (.inl rfl) (fun w=>by rfl) fun wr k=>sO (m.keep k fun _ h=>h.elim) hd q0 q1 (k.blk R.out id) (k.blk T.out id)
  | 4,_,_ =>
    refine⟨137,#[.pointer a],.inr rfl,fun w=>by rfl,fun wr hw=>?_⟩;rcases hw with⟨-,k1⟩|⟨e,-⟩
    ·refine(EG (k1.blk m.top id)).mono ?_
     rintro e w' ⟨h1,h2,h3⟩;exact⟨h1,.inr ⟨rfl,k1.trans' h2 (fun _ _ h=>h.elim) (fun _ _ h=>h),h3⟩⟩
    ·exact absurd e (by decide))
 refine(pY w5 (d:Int) zm 5 5 #[.func (.func 113) #[.pointer a] #[],.func (.func 114) #[.pointer a] #[],.func (.func 184) #[] #[.pointer p0,.pointer p1],.func (.func 172) #[] #[.pointer q0,.pointer q1],.func (.func 137) #[.pointer a] #[]] (fun _=>0) (WJ w5 a dv dc D lv) (by decide) (by decide) HI.out (by intro k j;match k,j with
  | 0,_=>rfl
  | 1,_=>rfl
  | 2,_=>rfl
  | 3,_=>rfl
  | 4,_=>rfl) (.inl ⟨by decide,aA.refl _ _⟩) (fun _ _=>rfl) (fun h=>absurd h (by decide)) q9.out).mono ?_
 rintro e w6 ⟨h1,h2,zr⟩;clear q9 qq HI J K R T;obtain rfl:=h1 rfl
 obtain⟨j,qa,qn⟩:aA (fun i=>i=a) w5 w6/\∃qa,w6.heap[a]?=some (.cells #[.slice dv D dc,lv,.int .i64 (-1),.bool false,.int .i64 qa] fO (0,0)):=by
  rcases zr with⟨h6,-⟩|⟨-,h6⟩
  ·exact absurd h6 (by decide)
  ·exact h6
 have qy:aA (dU a dv lv f D) w5 w6:=j.mono fun _ _ e=>.inl e
 have qw:=L.out _ ((q _ qv).trans qy);replace r:=O (r.turn (B:=(dU a dv lv f D)) (B':=(dU a dv lv f D)) qy (fun _ _ h=>h) (fun _ _ h=>h));replace m:=O (m.top2 j qn);clear h1 h2 zr j qy qn qv;go_wp2_with fail;refine⟨qw,?_⟩;refine tna 15 .nilIface rfl qw ?_;refine wpAnyH_done (by kernel_rfl) ?_ _;clear qw q L u Q;obtain⟨n,q3⟩:=zX9 W.length
 have HN:=O q3;have zt:Hid (lv=.slice p2 n qb):=O (by rw[←q3];exact zd.out);have zx:W.length<100000000000:=by rw[HW.out];exact hn
 clear q3;have c1:w6.cell? ⟨a,1,none⟩=some (.slice p2 n qb):=(by rw[←zt.out];exact aC (i:=1) m.top rfl)
 go_wp2_with fail;clear c1;have zb:=O r.keep.size;have hr:=Rd.of_owns m.loose;rw[zd.out] at hr;have zi:=DB w6 W d p2 qb hr m.wok zx b3 (r.b 1);rw[HN.out] at zi;clear hr;refine(zi).mono ?_;rintro e w7 ⟨yv,nv,rfl,X,qd,j⟩;replace r:=kL r j;replace m:=O (m.keep j fun _ h=>h.elim);clear j;obtain⟨Y,hY⟩:=zX9 ((W.filter fun x=>decide (x.dev=d)))
 obtain⟨N,hN⟩:=zX9 ((W.filter fun x=>!decide (x.dev=d)))
 rw[hY] at X;rw[hN] at qd;obtain⟨py,cy,rfl,-,-⟩:=(Rd.of_owns X).form;obtain⟨pn,cn,rfl,-,-⟩:=(Rd.of_owns qd).form;have zk:=O hY;have qt:=O hN;obtain⟨my,qk⟩:=zX9 Y.length
 obtain⟨mn,qj⟩:=zX9 N.length
 have zf:=O qk;have qr:=O qj;have zw:my≤maxLen:=by obtain⟨_,a',c',h1,h2,h3,-⟩:=Rd.of_owns X;omega
 unfold maxLen at zw;rw[qk] at X;rw[qj] at qd;rw[qk,qj];have C:=O X;have z:=O qd;clear hY hN qk qj X qd;go_wp2_with fail;obtain⟨B0,z0⟩:=zX9 w7.heap.size
 have ze:=O r.tail
 have zl:Hid (∀y∈Y,y.dev=d/\y.b.length=256/\y.at_<Z):=O (by
  intro y hy;rw[←zk.out,List.mem_filter] at hy;have:=m.wok y hy.1;exact⟨by simpa using hy.2,this.1,this.2.2⟩)
 have za:=O (show bU w7 a dv dc lv qa f (oK F d (Y.take 0)) W D Z from by
  have e:oK F d (Y.take 0)=F:=by funext d' s';unfold oK;split<;>rfl
  rw[e];exact m.out)
 go_loopw [40] (fun i wr=>∃k:Nat,k≤my/\i=.int .i64 k/\Hid (Loc (dU a dv lv f D) (dU a dv lv f D) w wr [(b3,#[.int .i64 (d:Int)],3)])/\Hid (bU wr a dv dc lv qa f (oK F d (Y.take k)) W D Z)/\Hid (wr.ownsRow w.heap.size WrT 258 (.slice py my cy) my (dH Y))/\Hid (wr.ownsRow w.heap.size WrT 258 (.slice pn mn cn) mn (dH N))) (fun i _=>my-(intOf i).toNat)
 case atStart=>exact⟨0,by omega,rfl,ze,za,O (bA C.out zb.out),O (bA z.out zb.out)⟩
 case round =>
  clear r m C z ze za;obtain⟨k,j,rfl,r,m,C,z⟩:=hrel
  by_cases zv:k<my
  ·obtain⟨x,hx⟩:∃x,Y[k]?=some x:=⟨Y[k]'(by rw[zf.out];exact zv),List.getElem?_eq_getElem _⟩
   have qf:=zl.out x (List.mem_of_getElem? hx);have ql:yH D Z Y:=fun y hy=>by have:=zl.out y hy;exact⟨this.2.1,by omega,this.2.2⟩
   obtain⟨g,o,rfl,zn⟩:=N7 (by have:=Rd.of_owns C.out;exact this) ql hx;have HX:=O zn;have zu:=O hx;have qz:=lS qf.2.1;have qe:(x.b.map vb).length=256:=by rw[List.length_map];exact qf.2.1
   have zy:=qf.1;have z5:(x.at_:Int)<(Z:Int):=by omega
   have qo:x.at_<Z:=qf.2.2;have zz:(0:Int)≤(x.at_:Int):=by omega
   have qx:(0:Int)≤(k:Int):=by omega
   have z3:(k:Int)<(my:Int):=by omega
   have qi:(dU a dv lv f D) (f d):=.inr (.inr (.inr ⟨d,hd,rfl⟩))
   have zq:∀i,(Value.slice (some ⟨g,o,none⟩) my cy).ownBlock=some i->¬i=f d:=fun i hi e=>by
    obtain⟨cur,hc⟩:=aJ C.out hi;have P:=m.firm d hd;rw[←e,hc] at P;simp[WrT,iI] at P
   have zp:∀i,(Value.slice pn mn cn).ownBlock=some i->¬i=f d:=fun i hi e=>by
    obtain⟨cur,hc⟩:=aJ z.out hi;have P:=m.firm d hd;rw[←e,hc] at P;simp[WrT,iI] at P
   clear zn hx qf ql
   go_wp2_with (first
    | refine ldM g (o+k*258) (eX x) HX.out qG (by rw[qz];exact kU) ?_
    | refine alA BT ?_)
   intro b9 w8 H qx qm
   go_wp2_with ((with_reducible show WL _ _);refine stW qm qz sN (by rw[qz];exact kU) (uQ x) ?_)
   intro w9 j V;replace j:=tX qx j (fun i hi e=>by omega);replace r:=O (r.new (fun _ j=>m.lt j) H j V);replace HX:=O (j.rangeAt HX.out);replace m:=O (m.keep j fun _ h=>h.elim);replace C:=O (j.owns C.out fun _ _=>id);replace z:=O (j.owns z.out fun _ _=>id);clear H j V qx qm;clear HX;go_wp2_with fail;go_wp2_with fail;refine dwA (fun k=>k=f d) (by kernel_rfl) ?_;intro wa S q L A I;replace r:=kL r I;replace m:=O (m.keep I fun _ h=>h.elim);replace C:=O (I.owns C.out fun _ _=>id);replace z:=O (I.owns z.out fun _ _=>id);clear I;have u:=r;have Q:=m;have zh:=C;have zg:=z;refine tna 0 (.pointer a) rfl A ?_;refine tnb 1 (.pointer a) rfl A ?_;refine tnb 2 (.pointer a) rfl A ?_;refine tnd 3 (.slice dv D dc) rfl (.inl ⟨by rfl,fun w' E=>by have c:=(q w' E).cell (aC (i:=0) Q.top rfl) (Q.ne.2.1 d hd);go_simp⟩) A ?_;refine tnd 4 (.int .i64 (d:Int)) rfl (.inl ⟨by rfl,fun w' E=>by have c:=aC (i:=0) ((q w' E).blk (u.b 1) (u.nin qi 1)) rfl;go_simp⟩) A ?_;refine tnb 5 (.pointer (some ⟨dv,d*5,none⟩)) rfl A ?_;refine tnb 6 (.pointer (some ⟨dv,d*5,none⟩)) rfl A ?_;refine tnd 7 (.slice (some ⟨f d,0,none⟩) Z Z) rfl (.inl ⟨by rfl,fun w' E=>by have c:=(q w' E).cell (show World.cell? _ ⟨dv,d*5,none⟩=some (.slice (some ⟨f d,0,none⟩) Z Z) from Q.dev hd 0 _ rfl) (Q.ne3 d hd);go_simp⟩) A ?_;refine tnb 8 (.pointer (some ⟨b9,1,none⟩)) rfl A ?_;refine tnd 9 (.int .i64 (x.at_:Int)) rfl (.inl ⟨by rfl,fun w' E=>by have c:=(aC (i:=1) ((q w' E).blk (u.b 0) (u.nin qi 0)) (by rw[List.getElem?_toArray];rfl));go_simp⟩) A ?_;refine tnb 10 (.pointer (some ⟨b9,2,none⟩)) rfl A ?_;refine tnd 11 (.agg (x.b.map vb).toArray) rfl (yieldsIf_load_mid (by rfl) 207 (.tmp 54) rfl b9 2 rfl (x.b.map vb) _ (fun w' h=>(ED ((q w' h).blk (u.b 0) (u.nin qi 0)))) underlying207 rfl (by rw[qe];exact lT)) A ?_;refine tnb 12 (.pointer (some ⟨f d,x.at_*256,none⟩)) rfl A ?_;refine wA9 13 ?_;refine sta iI (.tmp 56) (.tmp 55) (f d) (x.at_*256) (x.b.map vb) (m.firm d hd) (by rw[qe,List.size_toArray,xG fun t ht=>m.fok d t hd ht];omega) (by rw[qe];exact lT) (bR _) ?_;intro wb j V;rw[EJ _ qo x.b (by rw[←List.length_map (f:=vb)];exact qe) fun t ht=>m.fok d t hd ht] at V;have U:=L.out _ ((q _ A).trans j);have HT:=O (m.turn hd qo (by rw[←List.length_map (f:=vb)];exact qe) j V);rw[Kw F d (Y.take k) x zy,show Y.take k++[x]=Y.take (k+1) by rw[List.take_add_one,zu.out];rfl] at HT;replace r:=O (r.turn (B:=(dU a dv lv f D)) (B':=(dU a dv lv f D)) (j.mono fun _ _ e=>e▸qi) (fun _ _ h=>h) (fun _ _ h=>h));replace C:=O (j.owns C.out zq);replace z:=O (j.owns z.out zp);clear j V A;refine wpList_nil ?_;refine⟨U,?_⟩;refine wpAnyH_done (by kernel_rfl) ?_ _;clear U q L u Q zh zg;clear m;go_wp2
   go_roundw
   case rel=>exact⟨k+1,by omega,by go_num,O r.tail,HT,C,z⟩
   case measure=>simp[intOf];omega
  ·obtain rfl:my=k:=by omega
   rw[List.take_of_length_le (by rw[zf.out];exact Nat.le_refl _)] at m;have zj:=O m.top
   go_wp2_with ((with_reducible show WL _ _);refine sta 94 (.tmp 61) (.tmp 59) a 1 [.slice pn mn cn] zj.out (by simp) (by kernel_rfl) (one9) ?_)
   intro w9 qc qh;replace qh:w9.heap[a]?=some (.cells #[.slice dv D dc,.slice pn mn cn,.int .i64 (-1),.bool false,.int .i64 qa] fO (0,0)):=qh
   have HP:Hid (CI w a (dU a dv lv f D) D Z M nw (.returned (.int .i64 0)) w9):=O (by
    have h:=m.out;refine⟨rfl,dU a dv (.slice pn mn cn) f D,mn,⟨dv,dc,_,qa,f,oK F d Y,N,⟨qh,?_,?_,h.inj,?_,?_,h.fok,h.bd⟩,rfl,qr.out,?_⟩,?_,?_,?_⟩
    ·exact qc.owns h.devs fun i hi e=>h.ne.1 (by cases hi;exact e.symm)
    ·exact fun e he=>qc.blk (h.firm e he) fun e2=>h.ne.2.1 e he e2.symm
    ·rw[qr.out]
     refine qc.owns (bA z.out (Nat.zero_le _)) fun i hi e=>?_
     obtain⟨cur,hc⟩:=aJ z.out hi;have P:=h.top;rw[←e,hc] at P;simp[WrT,fO] at P
    ·intro y hy
     rw[←qt.out,List.mem_filter] at hy;exact h.wok y hy.1
    ·intro d' s' h1 h2
     rw[←qt.out,←zk.out,MQ];exact HM.out d' s' h1 h2
    ·rw[←qr.out,←qt.out,←HW.out]
     exact List.length_filter_le _ _
    ·rintro k (rfl|rfl|j|j)
     ·exact .inl (.inl rfl)
     ·exact .inl (.inr (.inl rfl))
     ·exact .inr (aW z.out j)
     ·exact .inl (.inr (.inr (.inr j)))
    ·exact r.keep.trans (qc.mono fun _ _ e=>.inl e))
   clear qc qh;go_wp2;go_ret;exact HP.out
def zB:List UInt8:=List.replicate 256 0
theorem EK(Z:Nat):(madeCells dV.toArray (Z*256)).toList=dI (fun _=>zB) Z:=by
 have t:(dI (fun _=>zB) Z).length=Z*256:=xG fun s u=>rfl
 apply List.ext_getElem?;intro j
 by_cases i:j<Z*256
 ·obtain⟨q,r,rfl,e⟩:∃q r,j=q*256+r/\r<256:=⟨j / 256,j % 256,by omega,by omega⟩
  have m:q<Z:=by omega
  have h:(dI (fun _=>zB) Z)[q*256+r]?=some (.int .u8 0):=gP (c:=fun _=>zB.map vb) (n:=256) (l:=List.range Z) (fun x y=>rfl) (jA m) (by
   have:zB.map vb=List.replicate 256 (.int .u8 0):=by rfl
   rw[this,List.getElem?_replicate,if_pos e])
  rw[h];unfold madeCells;rw[Array.getElem?_toList,Array.getElem?_map,Array.getElem?_range,if_pos i];have o:dV.toArray.size=256:=rfl;show some (dV.toArray[(q*256+r) % dV.toArray.size]!)=_;rw[o,show (q*256+r) % 256=r by omega]
  have:dV.toArray[r]?=some (.int .u8 0):=by
   unfold dV;rw[List.getElem?_toArray,List.getElem?_replicate,if_pos e]
  rw[getElem!_def,this]
 ·rw[List.getElem?_eq_none (by rw[Array.length_toList,size_madeCells];omega),List.getElem?_eq_none (by omega)]
theorem DC(f:Nat->Nat)(Z k g:Nat):iH (fun d=>if d=k then g else f d) Z (k+1)=iH f Z k++[.slice g Z Z,.bool false,.int .u8 0,.int .i64 0,.int .i64 0]:=by
 unfold iH;rw[List.range_succ,List.flatMap_append]
 congr 1
 ·rw[List.flatMap_def,List.flatMap_def]
  congr 1
  refine List.map_congr_left fun d e=>?_
  have:=List.mem_range.1 e;show ([.slice (some ⟨if d=k then g else f d,0,none⟩) Z Z,.bool false,.int .u8 0,.int .i64 0,.int .i64 0]:List Value)=_;rw[if_neg (by omega)];rfl
 ·simp[AX]
structure NwI(w wr:World)(a k Z:Nat)(p:Option Addr)(c:Nat)(f:Nat->Nat):Prop where
 top:wr.heap[a]?=some (.cells #[.slice p k c,.slice none 0 0,.int .i64 (-1),.bool false,.int .i64 0] fO (0,0))
 own:wr.ownsRow w.heap.size gA 5 (.slice p k c) k (iH f Z k)
 firm:∀d,d<k->wr.heap[f d]?=some (.cells (dI (fun _=>zB) Z).toArray iI (0,0))
 inj:∀d e,d<k->e<k->f d=f e->d=e
 ge:w.heap.size≤a/\∀d,d<k->w.heap.size≤f d
 keep:aA aB w wr
theorem NwI.next{wr P:World}{a o c2:Nat}{f:Nat->Nat}(h:NwI w wr a k Z p c f)(hg:wr.heap.size=g)(L:aA aB wr P)(S:P.heap[g]?=some (.cells (dI (fun _=>zB) Z).toArray iI (0,0)))(y:aA aB P we)
 (Q:w8.ownsRow w.heap.size gA 5 (.slice o (k+1) c2) (k+1) (iH f Z k++[.slice g Z Z,.bool false,.int .u8 0,.int .i64 0,.int .i64 0])) (z:aA (fun i=>(Value.slice p k c).ownBlock=some i) we w8)
 (X:(Value.slice o (k+1) c2).ownBlock=(Value.slice p k c).ownBlock\/(Value.slice o (k+1) c2).ownBlock=some we.heap.size)
 (A:aA (fun i=>i=a) w8 w9) (T:w9.heap[a]?=some (.cells #[.slice o (k+1) c2,.slice none 0 0,.int .i64 (-1),.bool false,.int .i64 0] fO (0,0))):NwI w w9 a (k+1) Z o c2 (fun d=>if d=k then g else f d):=by
 have u:∀i,(Value.slice p k c).ownBlock=some i->i≠g/\∀d,d<k->i≠f d:=fun i r=>by
  obtain⟨cur,m⟩:=aJ h.own r;refine⟨fun e=>?_,fun d j e=>?_⟩
  ·have:=lt_of_block m;omega
  ·have:=h.firm d j
   rw[←e,m] at this;simp[gA,iI] at this
 have H:a≠g:=fun e=>by have:=lt_of_block h.top;omega
 have E:∀d,d<k->a≠f d:=fun d j e=>by
  have:=h.firm d j;rw[←e,h.top] at this;simp[fO,iI] at this
 have J:w9.heap[g]?=some (.cells (dI (fun _=>zB) Z).toArray iI (0,0)):=A.blk (z.blk (y.blk S id) fun e=>(u g e).1 rfl) fun e=>H e.symm
 have I:∀d,d<k->w9.heap[f d]?=some (.cells (dI (fun _=>zB) Z).toArray iI (0,0)):=fun d j=>A.blk (z.blk (y.blk (L.blk (h.firm d j) id) id) fun e=>(u _ e).2 d j rfl) fun e=>E d j e.symm
 have K:o≠a:=by
  intro e;obtain⟨cur,m⟩:=aJ Q (k:=o) rfl
  have R:w8.heap[a]?=some (.cells #[.slice p k c,.slice none 0 0,.int .i64 (-1),.bool false,.int .i64 0] fO (0,0)):=z.blk (y.blk (L.blk h.top id) id) fun q=>by
   obtain⟨cur,m⟩:=aJ h.own q;rw[h.top] at m;simp[fO,gA] at m
  rw[e,R] at m;simp[fO,gA] at m
 have t:∀d,d<k->f d<g:=fun d j=>by have:=lt_of_block (h.firm d j);omega
 refine⟨T,?_,?_,?_,⟨h.ge.1,?_⟩,?_⟩
 ·rw[DC]
  exact A.owns Q fun i r e=>K (by cases r;exact e)
 ·intro d j
  by_cases e:d=k
  ·rw[if_pos e];exact J
  ·rw[if_neg e];exact I d (by omega)
 ·intro d e j he l
  by_cases C:d=k
  ·by_cases q:e=k
   ·omega
   ·rw[if_pos C,if_neg q] at l
    have:=t e (by omega);omega
  ·by_cases q:e=k
   ·rw[if_neg C,if_pos q] at l
    have:=t d (by omega);omega
   ·rw[if_neg C,if_neg q] at l
    exact h.inj d e (by omega) (by omega) l
 ·intro d j
  by_cases e:d=k
  ·rw[if_pos e];have:=h.keep.size;omega
  ·rw[if_neg e];exact h.ge.2 d (by omega)
 ·have V:=((h.keep.trans L).trans y).trans' z (U:=aB) (fun _ _ h=>h) fun i r e=>by have:=aW h.own e;omega
  exact V.tT A fun i r e=>by have:=h.ge.1;omega
def EL(w:World)(D Z:Nat)(e:Ending)(w':World):Prop:=∃a B,e=.returned (.tuple #[.pointer (some ⟨a,0,none⟩),.int .i64 0])/\bQ w' a B D Z (fun _ _=>zB) 0/\(∀k,B k->w.heap.size≤k)/\aA aB w w'
theorem qH:(prog.info? gA).map (fun i=>(i.zero,i.size,i.bytes))=some (some (.agg #[.slice none 0 0,.bool false,.int .u8 0,.int .i64 0,.int .i64 0]),5,48):=by kernel_rfl
theorem OO:∃i,prog.info? iI=some i/\i.zero=some (.agg dV.toArray)/\i.size=256/\i.bytes=256:=by
 have h:(prog.info? iI).map (fun i=>(i.zero,i.size,i.bytes))=some (some (.agg dV.toArray),256,256):=by kernel_rfl
 obtain⟨i,o,m⟩:=Option.map_eq_some_iff.1 h;injection m with j e
 injection e with e l
 exact⟨i,o,j,e,l⟩
theorem EM(g Z:Nat)(w:World):(Instr.build gA #[(0,.slice g Z Z)]).run prog w=.ok (.agg ([.slice g Z Z,.bool false,.int .u8 0,.int .i64 0,.int .i64 0]:List Value).toArray) w:=by kernel_rfl
theorem MR(w:World):(Instr.build fO #[(2,.int .i64 (-1))]).run prog w=.ok (.agg #[.slice none 0 0,.slice none 0 0,.int .i64 (-1),.bool false,.int .i64 0]) w:=by kernel_rfl
theorem MS(w:World)(D Z:Nat)(hb:2≤D/\D≤8/\8≤Z/\Z≤4096):Calls prog 19 #[.int .i64 (D:Int),.int .i64 (Z:Int)] w (EL w D Z):=by
 have qe:=O hb;obtain⟨h1,h2,h3,h4⟩:=hb;have e1:¬((D:Int)<2):=by omega
 have e2:¬(8<(D:Int)):=by omega
 have e3:¬((Z:Int)<8):=by omega
 have e4:¬(4096<(Z:Int)):=by omega
 have HL:=lN w;have qu:=MR;go_in;obtain⟨w1,qw,qn,qm,qv⟩:=aP w #[.slice none 0 0,.slice none 0 0,.int .i64 (-1),.bool false,.int .i64 0] fO;obtain⟨a,ha⟩:=zX9 w.heap.size
 rw[ha] at qm;have HA:=O ha;have H0:Hid (NwI w w1 a 0 Z none 0 fun _=>0):=O ⟨qm,World.ownsRow_nil _ _ _ _,fun d hd=>absurd hd (by omega),fun d e hd=>absurd hd (by omega),⟨by omega,fun d hd=>absurd hd (by omega)⟩,qn⟩;clear qm qn qv h1 h2 h3 h4;go_wp2_with fail;clear qw qu e1 e2 e3 e4
 try rw[ha]
 clear ha
 go_loopw [24] (fun i wr=>∃(k:Nat) (p:Option Addr) (c:Nat) (f:Nat->Nat),k≤D/\i=.int .i64 k/\Hid (NwI w wr a k Z p c f)) (fun i _=>D-(intOf i).toNat)
 case atStart=>exact⟨0,none,0,fun _=>0,by omega,rfl,H0⟩
 case round =>
  clear H0;obtain⟨k,p,c,f,hk,rfl,HI⟩:=hrel
  by_cases q1:k<D
  ·have qy:=qe.2.1
   have qz:=qe.2.2.2;have q0:(0:Int)≤(k:Int):=by omega
   have qn:(k:Int)<(D:Int):=by omega
   go_wp2_with fail;obtain⟨S,qp⟩:∃S:World->Prop,S=fun _=>True:=⟨_,rfl⟩
   have o:Hid (∀w,S w):=O (fun w=>by rw[qp];trivial);clear qp;refine wp_region_held (S:=S) (by kernel_rfl) ?_;change wpAnyH _ _ _ _ _ _ _ _ wr.drew;have T:=(aA.refl aB wr).drew;have hS:=o.out wr.drew;generalize wr.drew=wd at T hS ⊢;have q:Hid (NwI w wd a k Z p c f):=O ⟨T.blk HI.top id,T.owns HI.own fun _ _=>id,fun d hd=>T.blk (HI.firm d hd) id,HI.inj,HI.ge,HI.keep.trans T⟩;clear T HI;obtain⟨g,hg⟩:=zX9 wd.heap.size
   have HG:=O hg;clear hg;refine tna 0 (.pointer (some ⟨a,0,none⟩)) rfl hS ?_;refine tna 1 (.pointer (some ⟨a,0,none⟩)) rfl hS ?_;refine tnb 2 (.pointer (some ⟨a,0,none⟩)) rfl hS ?_;refine tnb 3 (.pointer (some ⟨a,0,none⟩)) rfl hS ?_;refine tna 5 (.int .i64 (Z:Int)) rfl hS ?_;obtain⟨i,hi,qq,qr,qt⟩:=OO;refine gL (k:=4) (l:=6) rfl rfl (by kernel_rfl) ?_ ?_
   ·have c0:wd.cell? ⟨a,0,none⟩=some (.slice p k c):=aC q.top rfl
    go_wp2_with fail;refine⟨o _,?_⟩;clear c0;refine wA9 6 ?_;refine wpList_make_full wd rfl (.tmp 31) (.tmp 31) 97 rfl 0 iI i _ 256 underlying97 hi qq qr .i64 .i64 (Z:Int) (Z:Int) Z rfl rfl rfl rfl (by rw[qt];omega) (by unfold maxLen;omega) (Nat.zero_le _) ?_;intro wm P qc;have m:=aA.of_grown qc;replace m:aA aB wd wm:=m.mono fun _ _ h=>by cases h
    rw[HG.out] at P ⊢
    have qb:wm.heap[g]?=some (.cells (dI (fun _=>zB) Z).toArray iI (0,0)):=by
     rcases P.2 with⟨e,-⟩|⟨g',qo,cur,e,-,hb,h1,h2,h3,h4⟩
     ·cases e
     ·cases e
      have:cur.toList=dI (fun _=>zB) Z:=by
       rw[←EK];rw[List.take_of_length_le (by rw[Array.length_toList,h3];exact Nat.le_refl _)] at h4;exact h4
      rw[←this];exact hb
    have J:=O m;have qf:=O qb;have qk:=O (m.blk q.top id);have ql:=O (m.owns q.own fun _ _=>id);clear P qc m qb;refine wpList_nil ?_;refine⟨o _,?_⟩;refine tnd 7 (.agg ([.slice (some ⟨g,0,none⟩) Z Z,.bool false,.int .u8 0,.int .i64 0,.int .i64 0]:List Value).toArray) rfl (fC gA #[(0,.tmp 32)] [(0,.slice (some ⟨g,0,none⟩) Z Z)] _ (EM g Z)) (o _) ?_;obtain⟨dc,t⟩:=zX9 (([.slice (some ⟨g,0,none⟩) Z Z,.bool false,.int .u8 0,.int .i64 0,.int .i64 0]:List Value))
    rw[t];have qg:=O t;have R:dc.length=5:=by rw[←t];rfl
    have qi:Hid (∀u∈dc,u.oneCell'=true):=O (by rw[←t];intro u hu;simp only[List.mem_cons,List.not_mem_nil,or_false] at hu;rcases hu with rfl|rfl|rfl|rfl|rfl<;>rfl);obtain⟨we,Q,z,L,-⟩:=aP wm dc.toArray gA;obtain⟨bx,A⟩:=zX9 wm.heap.size
    rw[A] at L;have qj:Hid (Rd we 5 (.slice bx 1 1) 1 dc):=O (dX (n:=1) (size:=5) L (by rw[R]) (by unfold maxLen;omega));have qh:=O z;have C:=O (z.blk qk.out id);have K:=O (z.owns ql.out fun _ _=>id);have qx:=z.size;clear L z t;refine wA9 8 ?_;refine bZ rfl 93 gA (.tmp 33) rfl underlying93 qH (by decide) dc R (by decide) rfl ?_;rw[Q,A];clear Q A;refine wpList_nil ?_;refine⟨o _,?_⟩;have r:w.heap.size≤we.heap.size:=by have h1:=q.keep.size;have h2:=J.size;omega
    refine wA9 9 ?_;refine aM rfl (.tmp 30) (.tmp 34) 93 rfl w.heap.size gA _ 5 48 underlying93 qH rfl (by decide) (.slice p k c) k (iH f Z k) rfl K.out (.slice bx 1 1) 1 dc rfl qj.out qi.out (by unfold maxLen;omega) (by omega) r ?_;intro v' w8 j y qd E;obtain⟨g2,c2,rfl⟩:=ownsRow_succ j
    have qa:=O (y.blk C.out fun e=>by
     obtain⟨cur,hc⟩:=aJ K.out e;rw[C.out] at hc;simp[fO,gA] at hc)
    rw[←qg.out] at j;have X:=O j;have V:=O y;have U:=O E;clear j y qd E;refine wpList_nil ?_;refine⟨o _,?_⟩;refine tnb 10 (.pointer (some ⟨a,0,none⟩)) rfl (o _) ?_;refine tnb 11 (.pointer (some ⟨a,0,none⟩)) rfl (o _) ?_;refine wA9 12 ?_;refine sta 93 (.tmp 37) (.tmp 35) a 0 [.slice g2 (k+1) c2] qa.out (by simp) (by kernel_rfl) (one9) ?_;intro w9 I H;have HN:=O (q.next HG.out J.out qf.out qh.out X.out V.out U.out I H);clear I H;refine wpList_nil ?_;refine⟨o _,?_⟩;refine wpAnyH_done (by kernel_rfl) ?_ _;clear o;go_wp2
    go_roundw
    case rel=>exact⟨k+1,_,_,_,by omega,by go_num,HN⟩
    case measure=>simp[intOf];omega
   ·refine wpList_make_full wd rfl (.tmp 31) (.tmp 31) 97 rfl 0 iI i _ 256 underlying97 hi qq qr .i64 .i64 (Z:Int) (Z:Int) Z rfl rfl rfl rfl (by rw[qt];omega) (by unfold maxLen;omega) (Nat.zero_le _) ?_
    intro wm P qc;have m:=aA.of_grown qc;replace m:aA aB wd wm:=m.mono fun _ _ h=>by cases h
    rw[HG.out] at P ⊢
    have qb:wm.heap[g]?=some (.cells (dI (fun _=>zB) Z).toArray iI (0,0)):=by
     rcases P.2 with⟨e,-⟩|⟨g',qo,cur,e,-,hb,h1,h2,h3,h4⟩
     ·cases e
     ·cases e
      have:cur.toList=dI (fun _=>zB) Z:=by
       rw[←EK];rw[List.take_of_length_le (by rw[Array.length_toList,h3];exact Nat.le_refl _)] at h4;exact h4
      rw[←this];exact hb
    have J:=O m;have qf:=O qb;have qk:=O (m.blk q.top id);have ql:=O (m.owns q.own fun _ _=>id);clear P qc m qb;refine wpList_nil ?_;refine⟨o _,?_⟩;refine tnd 7 (.agg ([.slice (some ⟨g,0,none⟩) Z Z,.bool false,.int .u8 0,.int .i64 0,.int .i64 0]:List Value).toArray) rfl (fC gA #[(0,.tmp 32)] [(0,.slice (some ⟨g,0,none⟩) Z Z)] _ (EM g Z)) (o _) ?_;obtain⟨dc,t⟩:=zX9 (([.slice (some ⟨g,0,none⟩) Z Z,.bool false,.int .u8 0,.int .i64 0,.int .i64 0]:List Value))
    rw[t];have qg:=O t;have R:dc.length=5:=by rw[←t];rfl
    have qi:Hid (∀u∈dc,u.oneCell'=true):=O (by rw[←t];intro u hu;simp only[List.mem_cons,List.not_mem_nil,or_false] at hu;rcases hu with rfl|rfl|rfl|rfl|rfl<;>rfl);obtain⟨we,Q,z,L,-⟩:=aP wm dc.toArray gA;obtain⟨bx,A⟩:=zX9 wm.heap.size
    rw[A] at L;have qj:Hid (Rd we 5 (.slice bx 1 1) 1 dc):=O (dX (n:=1) (size:=5) L (by rw[R]) (by unfold maxLen;omega));have qh:=O z;have C:=O (z.blk qk.out id);have K:=O (z.owns ql.out fun _ _=>id);have qx:=z.size;clear L z t;refine gL (k:=4) (l:=8) rfl rfl (by kernel_rfl) ?_ ?_
    ·have c0:wm.cell? ⟨a,0,none⟩=some (.slice p k c):=aC qk.out rfl
     go_wp2_with fail;refine⟨o _,?_⟩;clear c0;refine wA9 8 ?_;refine bZ rfl 93 gA (.tmp 33) rfl underlying93 qH (by decide) dc R (by decide) rfl ?_;rw[Q,A];clear Q A;refine wpList_nil ?_;refine⟨o _,?_⟩;have r:w.heap.size≤we.heap.size:=by have h1:=q.keep.size;have h2:=J.size;omega
     refine wA9 9 ?_;refine aM rfl (.tmp 30) (.tmp 34) 93 rfl w.heap.size gA _ 5 48 underlying93 qH rfl (by decide) (.slice p k c) k (iH f Z k) rfl K.out (.slice bx 1 1) 1 dc rfl qj.out qi.out (by unfold maxLen;omega) (by omega) r ?_;intro v' w8 j y qd E;obtain⟨g2,c2,rfl⟩:=ownsRow_succ j
     have qa:=O (y.blk C.out fun e=>by
      obtain⟨cur,hc⟩:=aJ K.out e;rw[C.out] at hc;simp[fO,gA] at hc)
     rw[←qg.out] at j;have X:=O j;have V:=O y;have U:=O E;clear j y qd E;refine wpList_nil ?_;refine⟨o _,?_⟩;refine tnb 10 (.pointer (some ⟨a,0,none⟩)) rfl (o _) ?_;refine tnb 11 (.pointer (some ⟨a,0,none⟩)) rfl (o _) ?_;refine wA9 12 ?_;refine sta 93 (.tmp 37) (.tmp 35) a 0 [.slice g2 (k+1) c2] qa.out (by simp) (by kernel_rfl) (one9) ?_;intro w9 I H;have HN:=O (q.next HG.out J.out qf.out qh.out X.out V.out U.out I H);clear I H;refine wpList_nil ?_;refine⟨o _,?_⟩;refine wpAnyH_done (by kernel_rfl) ?_ _;clear o;go_wp2
     go_roundw
     case rel=>exact⟨k+1,_,_,_,by omega,by go_num,HN⟩
     case measure=>simp[intOf];omega
    ·refine bZ rfl 93 gA (.tmp 33) rfl underlying93 qH (by decide) dc R (by decide) rfl ?_
     rw[Q,A];clear Q A;refine wpList_nil ?_;refine⟨o _,?_⟩;refine wA9 4 ?_;have c0:we.cell? ⟨a,0,none⟩=some (.slice p k c):=aC C.out rfl;go_wp2_with fail;refine⟨o _,?_⟩;clear c0;have r:w.heap.size≤we.heap.size:=by have h1:=q.keep.size;have h2:=J.size;omega
     refine wA9 9 ?_;refine aM rfl (.tmp 30) (.tmp 34) 93 rfl w.heap.size gA _ 5 48 underlying93 qH rfl (by decide) (.slice p k c) k (iH f Z k) rfl K.out (.slice bx 1 1) 1 dc rfl qj.out qi.out (by unfold maxLen;omega) (by omega) r ?_;intro v' w8 j y qd E;obtain⟨g2,c2,rfl⟩:=ownsRow_succ j
     have qa:=O (y.blk C.out fun e=>by
      obtain⟨cur,hc⟩:=aJ K.out e;rw[C.out] at hc;simp[fO,gA] at hc)
     rw[←qg.out] at j;have X:=O j;have V:=O y;have U:=O E;clear j y qd E;refine wpList_nil ?_;refine⟨o _,?_⟩;refine tnb 10 (.pointer (some ⟨a,0,none⟩)) rfl (o _) ?_;refine tnb 11 (.pointer (some ⟨a,0,none⟩)) rfl (o _) ?_;refine wA9 12 ?_;refine sta 93 (.tmp 37) (.tmp 35) a 0 [.slice g2 (k+1) c2] qa.out (by simp) (by kernel_rfl) (one9) ?_;intro w9 I H;have HN:=O (q.next HG.out J.out qf.out qh.out X.out V.out U.out I H);clear I H;refine wpList_nil ?_;refine⟨o _,?_⟩;refine wpAnyH_done (by kernel_rfl) ?_ _;clear o;go_wp2
     go_roundw
     case rel=>exact⟨k+1,_,_,_,by omega,by go_num,HN⟩
     case measure=>simp[intOf];omega
  ·obtain rfl:D=k:=by omega
   have HP:Hid (EL w D Z (.returned (.tuple #[.pointer (some ⟨a,0,none⟩),.int .i64 0])) wr):=O (by
    have h:=HI.out
    have hp:∃dv,p=some ⟨dv,0,none⟩:=by
     rcases h.own.2 with⟨-,e⟩|⟨g,qo,cur,e,-⟩
     ·have:=qe.1;omega
     ·cases e;exact⟨_,rfl⟩
    obtain⟨dv,rfl⟩:=hp;refine⟨a,dU a dv (.slice none 0 0) f D,rfl,⟨dv,c,.slice none 0 0,0,f,fun _ _=>zB,[],⟨h.top,bA h.own (Nat.zero_le _),h.firm,h.inj,World.ownsRow_nil _ _ _ _,(fun x hx=>by cases hx),fun _ _ _ _=>rfl,qe.out⟩,rfl,rfl,fun _ _ _ _=>rfl⟩,?_,h.keep⟩;rintro k (rfl|rfl|hk|⟨d,hd,rfl⟩)
    ·exact h.ge.1
    ·exact aW h.own (k:=k) rfl
    ·cases hk
    ·exact h.ge.2 d hd)
   clear HI;go_wp2
   go_ret2
   exact HP.out
end
end Go.Proofs.YtoeinblfcbpcmaaGreat
