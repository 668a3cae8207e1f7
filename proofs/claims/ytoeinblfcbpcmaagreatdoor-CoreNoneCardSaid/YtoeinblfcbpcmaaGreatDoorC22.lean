import Derived.Test.YtoeinblfcbpcmaaGreatDoorC21
import Derived.Stop.Asserts
import Derived.LaidEql
import Derived.Lib.IfaceEq
namespace Go.Proofs.YtoeinblfcbpcmaaGreatDoor
open Tryz
set_option maxHeartbeats 0
set_option maxRecDepth 100000
set_option linter.unusedVariables false
section
open Go.RowKit Go.Maps Go.ChangeMaps
variable{w' w we w8 w9:World}{b k d G D Z nw n s c g a:Nat}{W Y N:List Lw}{x:Lw}{v yv nv:Value}{cs:List Value}{M:Nat->Nat->List UInt8}{B P:Nat->Prop}{p:Option Addr}
theorem KF(v:Value)(w:World):(Extern.ReflectliteType.typeOf #[.iface 37 v]).run prog w=.ok (.iface 307 (.agg #[.pointer (some ⟨3,37,none⟩)])) w:=by kernel_rfl
theorem DM(w : World) : ((Extern.ReflectliteType.method fun t => do Extern.Rtype.noPackHeld "Comparable" t; (fun a => Value.bool a.comparable) <$> typeInfo t) #[.agg #[.pointer (some ⟨3, 37, none⟩)]]).run prog w = .ok (.bool true) w := by kernel_rfl
theorem wK(v : Value)(w : World) : (Go.method 527 307 v "Comparable").run prog w = .ok (320, v) w := by kernel_rfl
theorem Bq(v : Value)(w : World) : (Go.method 527 188 v "Unwrap").run prog w = .ok (308, v) w := by kernel_rfl
theorem QN(v:Value)(e:TypeId)(w:World):(Instr.typeAssert (.iface 188 v) e 309 true).run prog w=.ok (.tuple #[.nilIface,.bool false]) w:=run_typeAssert_lacksB underlying309 (by kernel_rfl) (by kernel_rfl) v e w
theorem IC(v:Value)(e:TypeId)(w:World):(Instr.typeAssert (.iface 188 v) e 312 true).run prog w=.ok (.tuple #[.iface 188 v,.bool true]) w:=run_typeAssert_hasB underlying312 (by kernel_rfl) v e w
theorem QO(v:Value)(e:TypeId)(w:World):(Instr.typeAssert (.iface 37 v) e 309 true).run prog w=.ok (.tuple #[.nilIface,.bool false]) w:=run_typeAssert_lacksB underlying309 (by kernel_rfl) (by kernel_rfl) v e w
theorem KG(v:Value)(e:TypeId)(w:World):(Instr.typeAssert (.iface 37 v) e 312 true).run prog w=.ok (.tuple #[.nilIface,.bool false]) w:=run_typeAssert_lacksB underlying312 (by kernel_rfl) (by kernel_rfl) v e w
theorem ID(v:Value)(e:TypeId)(w:World):(Instr.typeAssert (.iface 37 v) e 314 true).run prog w=.ok (.tuple #[.nilIface,.bool false]) w:=run_typeAssert_lacksB underlying314 (by kernel_rfl) (by kernel_rfl) v e w
theorem Gi(w:World)(c d:Int):Calls prog 308 #[.agg #[.int .i64 c,.int .i64 d]] w (aN w (.iface 37 (.int .i64 c))):=by
 obtain⟨l,j,h,e,-⟩:=aM w #[.int .i64 c,.int .i64 d] 188;have c0:l.cell? ⟨w.heap.size,0,none⟩=some (.int .i64 c):=aC e rfl;have i:=O h;clear h e;go_in;go_wp2;go_ret;exact aN.of i.out
theorem Pc(w:World)(c d t:Int):Calls prog 172 #[.iface 188 (.agg #[.int .i64 c,.int .i64 d]),.iface 37 (.int .i64 t),.bool true] w (aN w (.bool (decide (c=t)))):=by
 obtain⟨m,h⟩:=zX9 (decide (c=t))
 have i:=O h;rw[h];clear h;have u:=QN;have y:=IC;have r:=Bq;have j:=run_eql_iface_types (P:=prog) 188 37 (.agg #[.int .i64 c,.int .i64 d]) (.int .i64 t) underlying118 (by decide) w;go_in
 go_wp2
 refine wp_loop_rounds 2 ?_;rw[rounds_succ];go_wp2_with fail;refine(Gi w c d).mono ?_;rintro e l ⟨rfl,o⟩;have q:=O o;clear o j u y r;have z:=QO;have A:=KG;have C:=ID
 have j:(binOp .eql 118 (.iface 37 (.int .i64 c)) (.iface 37 (.int .i64 t))).run prog l=.ok (.bool m) l:=by
  have:=Go.Lib.run_eql_iface_int (P:=prog) (k:=.i64) l c t underlying118 (by kernel_rfl) underlying37;rw[this,←i.out]
  congr 2
 clear i;cases m
 all_goals
  go_wp2_with fail;rw[rounds_succ];go_wp2;go_ret;exact aN.of q.out
theorem Cr(w:World)(c d t:Int):Calls prog 116 #[.iface 188 (.agg #[.int .i64 c,.int .i64 d]),.iface 37 (.int .i64 t)] w (aN w (.bool (decide (c=t)))):=by
 have H:=O (Pc w c d t);have m:=@run_callFunc_extern prog 171 _ Extern.ReflectliteType.typeOf func171 (by kernel_rfl) (by kernel_rfl) (by kernel_rfl) (by kernel_rfl);have j := @run_callFunc_extern prog 320 _ (Extern.ReflectliteType.method fun t => do Extern.Rtype.noPackHeld "Comparable" t; pure (.bool (← typeInfo t).comparable)) func320 (by kernel_rfl) (by kernel_rfl) (by kernel_rfl) (by kernel_rfl);have q:=KF;have l:=DM;have o:=wK;go_in;go_wp2_with fail;refine H.mono ?_;rintro e w' ⟨rfl,h⟩;have i:=O h;clear h;go_wp2;go_ret;exact aN.of i.out
theorem EW(w:World)(d:Int):Calls prog 55 #[.iface 188 (.agg #[.int .i64 5,.int .i64 d])] w (aN w (.int .i64 5)):=by
 have m:∀w,(Instr.index 189 (.agg #[.int .i64 1,.int .i64 10,.int .i64 5,.int .i64 2,.int .i64 14,.int .i64 13]) (.int .i64 0)).run prog w=.ok (.int .i64 1) w:=fun w=>by kernel_rfl
 have o:∀w,(Instr.index 189 (.agg #[.int .i64 1,.int .i64 10,.int .i64 5,.int .i64 2,.int .i64 14,.int .i64 13]) (.int .i64 1)).run prog w=.ok (.int .i64 10) w:=fun w=>by kernel_rfl
 have q:∀w,(Instr.index 189 (.agg #[.int .i64 1,.int .i64 10,.int .i64 5,.int .i64 2,.int .i64 14,.int .i64 13]) (.int .i64 2)).run prog w=.ok (.int .i64 5) w:=fun w=>by kernel_rfl
 go_in;go_wp2_with fail;refine wp_loop_rounds 3 ?_;rw[rounds_succ];go_wp2_with fail;refine(Cr w 5 d 1).mono ?_;rintro e r ⟨rfl,h⟩;go_wp2_with fail;rw[rounds_succ];go_wp2_with fail;refine(Cr r 5 d 10).mono ?_;rintro e t ⟨rfl,i⟩;go_wp2_with fail;rw[rounds_succ];go_wp2_with fail;refine(Cr t 5 d 5).mono ?_;rintro e u ⟨rfl,j⟩;have l:=O ((h.trans i).trans j);clear h i j;go_wp2;go_ret;exact aN.of l.out
variable {w:World}{a dv dc D Z:Nat}{lv:Value}{st:Int}{f:Nat->Nat}{F:Nat->Nat->List UInt8}{W:List Lw}
theorem Pd(h:bQ w a dv dc lv st f F W D Z):Calls prog 129 #[.pointer a,.int .i64 (-1),.int .i64 0] w (aN w (.tuple #[.slice none 0 0,.int .i64 5])):=by
 have J:oB (-1) 0 D Z=false:=by unfold oB;simp
 replace J:=O J;have u:=lN w;have t:=O h;clear h;go_in
 go_wp2_with refine bxM u (#[.pointer a]) ?_
 intro b3 w1 j u;replace t:=O (t.keep j fun _ h=>h.elim);clear j
 go_wp2_with refine bxM u (#[.int .i64 (-1)]) ?_
 intro b4 w2 j u;replace t:=O (t.keep j fun _ h=>h.elim);clear j;go_wp2_with fail;refine dwA aB (by kernel_rfl) ?_;intro w3 S m E C T;replace u:=kL u T;replace t:=O (t.keep T fun _ h=>h.elim);clear T;have y:=u;have qa:=t;refine tnd 0 (.int .i64 (-1)) rfl (.inl ⟨by rfl,fun w' l=>by have c:=aC (i:=0) ((m w' l).blk (y.b 0) id) rfl;go_simp⟩) C ?_;refine tnd 1 (.pointer a) rfl (.inl ⟨by rfl,fun w' l=>by have c:=aC (i:=0) ((m w' l).blk (y.b 1) id) rfl;go_simp⟩) C ?_;refine tnb 2 (.func (.func 54) #[.pointer a] #[]) rfl C ?_;refine tnd 3 (.pointer a) rfl (.inl ⟨by rfl,fun w' l=>by have c:=aC (i:=0) ((m w' l).blk (y.b 1) id) rfl;go_simp⟩) C ?_;refine tnb 4 (.func (.func 146) #[.pointer a] #[]) rfl C ?_;refine tnd 5 (.pointer a) rfl (.inl ⟨by rfl,fun w' l=>by have c:=aC (i:=0) ((m w' l).blk (y.b 1) id) rfl;go_simp⟩) C ?_;refine tnd 6 (.int .i64 (-1)) rfl (.inl ⟨by rfl,fun w' l=>by have c:=aC (i:=0) ((m w' l).blk (y.b 0) id) rfl;go_simp⟩) C ?_;refine tna 7 (.int .i64 0) rfl C ?_;refine tnd 9 (.pointer a) rfl (.inl ⟨by rfl,fun w' l=>by have c:=aC (i:=0) ((m w' l).blk (y.b 1) id) rfl;go_simp⟩) C ?_;refine tnd 10 (.int .i64 (-1)) rfl (.inl ⟨by rfl,fun w' l=>by have c:=aC (i:=0) ((m w' l).blk (y.b 0) id) rfl;go_simp⟩) C ?_;refine tnb 12 (.func (.func 194) #[] #[.pointer b3,.pointer b4]) rfl C ?_;refine wA9 8 ?_;go_wp2_with fail;refine(xK w3 a (-1) 0).mono ?_;rintro e w4 hp;obtain⟨p0,p1,p2,rfl,o,q,r,j⟩:=hp.three;have K:=E.out _ ((m _ C).trans j);replace u:=kL u j;replace t:=O (t.keep j fun _ h=>h.elim);clear C j;replace o:=O o;replace q:=O q;replace r:=O r;go_wp2_with fail;refine⟨K,?_⟩;refine wA9 11 ?_;go_wp2_with fail;refine(qF w4 a (-1)).mono ?_;rintro e w5 hp;obtain⟨q0,q1,rfl,z,A,j⟩:=hp.two;have L:=E.out _ ((m _ K).trans j);replace u:=kL u j;replace t:=O (t.keep j fun _ h=>h.elim);replace o:=O (j.blk o.out id);replace q:=O (j.blk q.out id);replace r:=O (j.blk r.out id);clear K j;replace z:=O z;replace A:=O A;go_wp2_with fail;refine⟨L,?_⟩;refine wA9 13 ?_;obtain⟨w6,U,j,hb,-⟩:=aM w5 #[.func (.func 54) #[.pointer a] #[],.func (.func 146) #[.pointer a] #[],.func (.func 208) #[] #[.pointer p0,.pointer p1,.pointer p2],.func (.func 161) #[] #[.pointer q0,.pointer q1],.func (.func 194) #[] #[.pointer b3,.pointer b4]] 43;obtain⟨qc,I⟩:=zX9 w5.heap.size
 rw[I] at hb;have Q:=E.out _ ((m _ L).trans j);clear L;replace u:=lW u I j hb;have H:=O I;replace t:=O (t.keep j fun _ h=>h.elim);replace o:=O (j.blk o.out id);replace q:=O (j.blk q.out id);replace r:=O (j.blk r.out id);replace z:=O (j.blk z.out id);replace A:=O (j.blk A.out id);clear j hb I;go_wp2_with fail;clear U;rw[H.out];refine⟨Q,?_⟩;refine wA9 14 ?_;go_wp2_with fail;have X:=O (u.b 0)
 have V:Hid (∀k,k<5->k≤2->∃G x,((#[.func (.func 54) #[.pointer a] #[],.func (.func 146) #[.pointer a] #[],.func (.func 208) #[] #[.pointer p0,.pointer p1,.pointer p2],.func (.func 161) #[] #[.pointer q0,.pointer q1],.func (.func 194) #[] #[.pointer b3,.pointer b4]]:Array Value).getD k .nilFunc=.func (.func G) #[] x\/(#[.func (.func 54) #[.pointer a] #[],.func (.func 146) #[.pointer a] #[],.func (.func 208) #[] #[.pointer p0,.pointer p1,.pointer p2],.func (.func 161) #[] #[.pointer q0,.pointer q1],.func (.func 194) #[] #[.pointer b3,.pointer b4]]:Array Value).getD k .nilFunc=.func (.func G) x #[])/\(∀w,Sem.run prog (callFunc G x) w=.ok (.enter G x) w)/\∀wr,aA aB w6 wr->Calls prog G x wr fun e w'=>e=.returned (.int .i64 (if k=2 then 5 else 0))/\aA aB w6 w'):=O (by
  intro k j hm
  match k,j,hm with
  | 0,_,_=>exact ckc (.inr rfl) (fun w=>by rfl) fun wr k=>Bo (t.keep k fun _ h=>h.elim)
  | 1,_,_=>exact ckc (.inr rfl) (fun w=>by rfl) fun wr k=>Ec (t.keep k fun _ h=>h.elim)
  | 2,_,_=>exact ckc (.inl rfl) (fun w=>by rfl) fun wr k=>rki (by rw[J.out];rfl) (vB (t.keep k fun _ h=>h.elim) (-1) 0 p0 p1 p2 (k.blk o.out id) (k.blk q.out id) (k.blk r.out id)))
 refine(mY w6 (-1) qc 5 2 #[.func (.func 54) #[.pointer a] #[],.func (.func 146) #[.pointer a] #[],.func (.func 208) #[] #[.pointer p0,.pointer p1,.pointer p2],.func (.func 161) #[] #[.pointer q0,.pointer q1],.func (.func 194) #[] #[.pointer b3,.pointer b4]] (fun k=>if k=2 then 5 else 0) (fun _ wr=>aA aB w6 wr) (by decide) (by decide) (fun k wr j=>j.blk X.out id) (by intro k j;match k,j with
  | 0,_=>rfl
  | 1,_=>rfl
  | 2,_=>rfl
  | 3,_=>rfl
  | 4,_=>rfl) (aA.refl _ _) (by intro k j;match k,j with
  | 0,_=>rfl
  | 1,_=>rfl) (by decide) V.out).mono ?_
 rintro e w7 ⟨h1,h2,j⟩;clear V X;obtain rfl:=h2 (by decide);clear h1 h2;have R:=E.out _ ((m _ Q).trans j);replace u:=kL u j;replace t:=O (t.keep j fun _ h=>h.elim);replace o:=O (j.blk o.out id);replace q:=O (j.blk q.out id);replace r:=O (j.blk r.out id);replace z:=O (j.blk z.out id);replace A:=O (j.blk A.out id);clear Q j;go_wp2_with fail;refine⟨R,?_⟩;refine tna 15 (.iface 188 (.agg #[.int .i64 5,.int .i64 (-1)])) rfl R ?_;refine wpAnyH_done (by kernel_rfl) ?_ _;clear R m E y qa;go_wp2_with fail;refine(EW w7 (-1)).mono ?_;rintro e w8 ⟨rfl,j⟩;replace u:=kL u j;replace t:=O (t.keep j fun _ h=>h.elim);replace o:=O (j.blk o.out id);replace q:=O (j.blk q.out id);replace r:=O (j.blk r.out id);replace z:=O (j.blk z.out id);replace A:=O (j.blk A.out id);clear j;go_wp2
 go_ret2
 exact⟨rfl,u.keep⟩
variable {w:World}{a dv dc D Z:Nat}{lv:Value}{st:Int}{f:Nat->Nat}{F:Nat->Nat->List UInt8}{W:List Lw}
theorem bQ.ne(h:bQ w a dv dc lv st f F W D Z):a≠dv/\(∀d,d<D->a≠f d)/\∀k,lv.ownBlock=some k->a≠k:=by
 have i:=h.top;refine⟨?_,?_,?_⟩
 ·rintro rfl
  obtain⟨cur,e⟩:=aH h.devs (k:=a) rfl;rw[i] at e;simp[fO,fS] at e
 ·rintro d j rfl
  have e:=h.firm d j;rw[i] at e;simp[fO,iJ] at e
 ·rintro k l rfl
  obtain⟨cur,e⟩:=aH h.loose l;rw[i] at e;simp[fO,WrT] at e
theorem bQ.ne2(h:bQ w a dv dc lv st f F W D Z):∀k,lv.ownBlock=some k->k≠dv/\∀d,d<D->k≠f d:=by
 intro k m;obtain⟨cur,j⟩:=aH h.loose m;refine⟨?_,?_⟩
 ·rintro rfl
  obtain⟨i,e⟩:=aH h.devs (k:=k) rfl;rw[j] at e;simp[WrT,fS] at e
 ·rintro d l rfl
  have e:=h.firm d l;rw[j] at e;simp[WrT,iJ] at e
theorem bQ.top2(h:bQ w a dv dc lv st f F W D Z){j:Int}(k:aA (fun i=>i=a) w w')(o:w'.heap[a]?=some (.cells #[.slice dv D dc,lv,.int .i64 (-1),.bool false,.int .i64 j] fO (0,0))):bQ w' a dv dc lv j f F W D Z:=by
 obtain⟨q,r,t⟩:=h.ne;exact⟨o,k.owns h.devs fun i l e=>q (by cases l;exact e.symm),fun d m=>k.blk (h.firm d m) fun e=>r d m e.symm,h.inj,k.owns h.loose fun i l e=>t i l e.symm,h.wok,h.fok,h.bd⟩
theorem Qj(l:List Value)(n:Nat)(h:l.length=n):l=(List.range n).map fun i=>l.getD i undef:=by
 subst h;apply List.ext_getElem?;intro i;rw[List.getElem?_map]
 by_cases e:i<l.length
 ·rw[List.getElem?_range e,List.getElem?_eq_getElem e]
  simp[List.getD,List.getElem?_eq_getElem e]
 ·rw[List.getElem?_eq_none (by omega),List.getElem?_eq_none (by simp;omega)];rfl
theorem M7(g:Nat->Value)(x y:Int):prog.built 148 [(0,.int .i64 x),(1,.int .i64 y),(2,.agg ((List.range 256).map g).toArray)]=some (.int .i64 x::.int .i64 y::(List.range 256).map g).toArray:=by kernel_rfl
theorem Pe(e:List Value)(h:e.length=256)(x y:Int)(w:World):(Instr.build 148 #[(0,.int .i64 x),(1,.int .i64 y),(2,.agg e.toArray)]).run prog w=.ok (.agg (.int .i64 x::.int .i64 y::e).toArray) w:=by
 refine run_build w 148 _ _ ?_;rw[Qj e 256 h];exact M7 _ x y
theorem KH(g o c:Nat)(w:World):(Instr.arrayAt 146 (.slice (some ⟨g,o,none⟩) 256 c)).run prog w=.ok (.pointer (some ⟨g,o,none⟩)) w:=by kernel_rfl
theorem pG:(prog.info? 148).map (fun i=>(i.zero,i.size,i.bytes))=some (some (.agg nZ.toArray),258,272):=by kernel_rfl
def EX(w:World)(a dv dc D:Nat)(lv:Value)(e:Ending)(w':World):Prop:=e=.returned (.int .i64 0)/\aA (fun k=>k=a) w w'/\∃h,w'.heap[a]?=some (.cells #[.slice dv D dc,lv,.int .i64 (-1),.bool false,.int .i64 h] fO (0,0))
theorem EY(e:w.heap[a]?=some (.cells #[.slice dv D dc,lv,.int .i64 (-1),.bool false,.int .i64 st] fO (0,0))):Calls prog 148 #[.pointer a] w (EX w a dv dc D lv):=by
 have c2:=aC (i:=2) e rfl;have t:=aC (i:=4) e rfl;have q:=O e;obtain⟨m,h⟩:=zX9 (IntKind.i64.wrap (st+1))
 clear e;go_in
 go_wp2_with ((with_reducible show WL _ _);refine sta 3 (.tmp 29) (.tmp 27) a 4 [.int .i64 m] q.out (by simp) (by kernel_rfl) (one9) ?_ (hy:=by rw[←h];rfl))
 intro r l j;have o:Hid (EX w a dv dc D lv (.returned (.int .i64 0)) r):=O ⟨rfl,l,m,j⟩;clear l j;go_wp2;go_ret;exact o.out
theorem aA.same(k:aA (fun i=>i=b) w w')(h:w'.heap[b]?=w.heap[b]?):aA aB w w':=
 ⟨k.os,k.tape,k.output,k.size,fun i j _=>by
  by_cases e:i=b
  ·rw[e];exact h
  ·exact k.block i j e⟩
theorem EZ(cs:Array Value)(o:Nat)(v:Value)(h:cs[o]?=some v):spl cs o [v]=cs:=by
 show cs.setIfInBounds o v=cs;apply Array.ext_getElem?;intro j;rw[Array.getElem?_setIfInBounds];split
 ·rename_i e
  subst e;obtain⟨i,l⟩:=Array.getElem?_eq_some_iff.1 h;rw[if_pos i,h]
 ·rfl
theorem M8(w:World)(m:Int)(e:m=1\/m=2):Calls prog 209 #[.int .u8 0,.int .u8 m] w (aN w (.bool false)):=by
 rcases e with rfl|rfl
 all_goals
  go_in;go_wp2;go_ret;exact aN.of (aA.refl _ _)
theorem E0(w:World)(b o:Nat)(m:Int)(t:m=1\/m=2)(fs:Array Value)(h:w.heap[b]?=some (.cells fs fS (0,0)))(l:fs[o]?=some (.int .u8 0)):Calls prog 149 #[.pointer (some ⟨b,o,none⟩),.int .u8 m] w (aN w (.bool false)):=by
 have c0:=aC h l;have y:=O h;have z:=O l;have r:o<fs.size:=(Array.getElem?_eq_some_iff.1 l).1;have u:=O (M8 w m t);have C:bits .andNot .u8 0 m=0:=by rcases t with rfl|rfl<;>decide +kernel
 clear h l t;go_in;go_wp2_with fail;refine u.mono ?_;rintro e E ⟨rfl,i⟩;have c1:=i.cell c0 id;have j:=O (i.blk y.out id);have A:=O i;clear i c0 u
 go_wp2_with ((with_reducible show WL _ _);refine sta 105 (.tmp 16) (.tmp 15) b o [.int .u8 0] j.out r (by kernel_rfl) (one9) ?_ (hy:=by first|rfl|(show Value.cells (.int .u8 (bits .andNot .u8 0 m))=_;rw[C];rfl)))
 intro H i h;rw[EZ _ _ _ z.out] at h;have q:=O (A.trans (i.same (h.trans j.symm)));clear i h c1;go_wp2;go_ret;exact aN.of q.out
theorem bQ.lt(h:bQ w a dv dc lv st f F W D Z)(i:dN a dv lv f D k):k<w.heap.size:=by
 rcases i with rfl|rfl|i|⟨d,j,rfl⟩
 ·exact lt_of_block h.top
 ·obtain⟨cur,e⟩:=aH h.devs (k:=k) rfl
  exact lt_of_block e
 ·obtain⟨cur,e⟩:=aH h.loose i
  exact lt_of_block e
 ·exact lt_of_block (h.firm d j)
theorem bQ.next(h:bQ w a dv dc lv st f F W D Z)(q:d<D):∃cur,w.heap[dv]?=some (.cells cur fS (0,0))/\cur[d*5+2]?=some (.int .u8 0):=by
 rcases h.devs.2 with⟨e,-⟩|⟨g,l,cur,e,-,o,r,t,u,m⟩
 ·cases e
 ·cases e
  refine⟨cur,o,?_⟩;have:=gP (c:=uZ f Z) (n:=5) (fun x _=>rfl) (jI q) (j:=2) (v:=.int .u8 0) rfl;have i:(gS f Z D)[d*5+2]?=some (.int .u8 0):=this;rw[←m,List.getElem?_take] at i;split at i
  ·rwa [Array.getElem?_toList] at i
  ·cases i
def WI(W:World)(a dv dc D:Nat)(lv:Value)(k:Nat)(wr:World):Prop:=(k≤5/\aA aB W wr)\/(k=6/\aA (fun i=>i=a) W wr/\∃e,wr.heap[a]?=some (.cells #[.slice dv D dc,lv,.int .i64 (-1),.bool false,.int .i64 e] fO (0,0)))
theorem ckw{W:World}(q:k≤4){x:Array Value}(m:v=.func (.func G) #[] x\/v=.func (.func G) x #[])(l:∀w,Sem.run prog (callFunc G x) w=.ok (.enter G x) w)(j:∀wr,aA aB W wr->Calls prog G x wr (aN wr (.int .i64 0))) :
 ∃G x,(v=.func (.func G) #[] x\/v=.func (.func G) x #[])/\(∀w,Sem.run prog (callFunc G x) w=.ok (.enter G x) w)/\∀wr,WI W a dv dc D lv k wr->Calls prog G x wr fun e w'=>e=.returned (.int .i64 0)/\WI W a dv dc D lv (k+1) w':=
 ⟨G,x,m,l,fun wr o=>by
  rcases o with⟨-,i⟩|⟨e,-⟩
  ·exact(j wr i).mono fun e w' h=>⟨h.1,.inl ⟨by omega,i.trans h.2⟩⟩
  ·omega⟩
def kK(w:World)(a:Nat)(B:Nat->Prop)(D Z:Nat)(M:Nat->Nat->List UInt8)(nw d s:Nat)(b:List UInt8)(e:Ending)(w':World):Prop:=
 e=.returned (.int .i64 0)/\∃h,bE w' a h D Z (fN M d s b) (nw+1)/\(∀k,h k->B k\/w.heap.size≤k)/\aA B w w'
theorem aA.rangeAt2{S:Nat->Prop}(h:aA S w w'){o:Nat}(i:w.rangeAt b o cs)(e:¬S b):w'.rangeAt b o cs:=fun j v l=>h.cell (i j v l) e
theorem M9{F:Nat->Nat->List UInt8}(o:∀d s,d<D->s<Z->M d s=eB W d s (F d s))(d s:Nat)(b:List UInt8):∀i j,i<D->j<Z->fN M d s b i j=eB (W++[⟨d,s,b⟩]) i j (F i j):=by
 intro i j l m;rw[qE];unfold fN
 by_cases e:i=d/\j=s
 ·rw[if_pos e,if_pos ⟨e.1.symm,e.2.symm⟩]
 ·rw[if_neg e,if_neg (fun h=>e ⟨h.1.symm,h.2.symm⟩),o i j l m]
theorem Br{w0:World}{o j l:Nat}{C:Option Addr}{b:List UInt8}{U:List Value}(h:bQ w a dv dc lv st f F W D Z)(E:aA aB w we)(S:aA (fun k=>(Value.slice C n l).ownBlock=some k) we w8)(m:lv=.slice C n l)(hn:W.length=n)
 (ho:w8.ownsRow 0 WrT 258 (.slice o (n+1) j) (n+1) (dJ W++cs)) (H:(Value.slice o (n+1) j).ownBlock=(Value.slice C n l).ownBlock\/(Value.slice o (n+1) j).ownBlock=some we.heap.size)
 (T:aA (fun k=>k=a) w8 w9) (I:w9.heap[a]?=some (.cells #[.slice dv D dc,(.slice o (n+1) j),.int .i64 (-1),.bool false,.int .i64 st] fO (0,0))) (hd:d<D) (hs:s<Z) (J:b.length=256) (L:(.int .i64 (d:Int)::.int .i64 (s:Int)::U:List Value)=cs) (K:b.map vb=U)
 (hM:∀d s,d<D->s<Z->M d s=eB W d s (F d s)) (hW:W.length=nw) (k0:aA (dN a dv lv f D) w0 w):kK w0 a (dN a dv lv f D) D Z M nw d s b (.returned (.int .i64 0)) w9:=by
 have V:∀k,(dN a dv lv f D) k->k≠a->¬(Value.slice C n l).ownBlock=some k->w9.heap[k]?=w.heap[k]?:=fun k u h1 h2=>by
  have X:=h.lt u;have z:=Nat.lt_of_lt_of_le X E.size;rw[T.block k (Nat.lt_of_lt_of_le z S.size) h1,S.block k z h2,E.block k X id]
 have t:(Value.slice C n l).ownBlock=some o\/w.heap.size≤o:=by
  rcases H with e|e
  ·exact .inl e.symm
  ·right;cases e;exact E.size
 have Q:a≠o:=by
  rcases t with e|e
  ·exact h.ne.2.2 o (by rw[m];exact e)
  ·have:=h.lt (.inl rfl:(dN a dv lv f D) a);omega
 refine⟨rfl,dN a dv (.slice o (n+1) j) f D,⟨dv,dc,_,st,f,F,W++[⟨d,s,b⟩],⟨I,?_,?_,h.inj,?_,?_,h.fok,h.bd⟩,rfl,by rw[List.length_append,hW];rfl,M9 hM d s b⟩,?_,?_⟩
 ·rcases h.devs.2 with⟨e,-⟩|⟨gg,qa,cur,e,R,hx,hr⟩
  ·cases e
  ·cases e
   refine⟨h.devs.1,.inr ⟨dv,dc,cur,rfl,R,?_,hr⟩⟩;rw[V dv (.inr (.inl rfl)) (fun e=>h.ne.1 e.symm) (fun e=>(h.ne2 dv (by rw[m];exact e)).1 rfl)];exact hx
 ·intro r q
  rw[V (f r) (.inr (.inr (.inr ⟨r,q,rfl⟩))) (fun e=>h.ne.2.1 r q e.symm) (fun e=>(h.ne2 _ (by rw[m];exact e)).2 r q rfl)];exact h.firm r q
 ·have:=T.owns ho (fun i hi e=>by cases hi;exact Q e.symm)
  rw[List.length_append,hn]
  have e:dJ (W++[⟨d,s,b⟩])=dJ W++cs:=by
   unfold dJ;rw[List.flatMap_append,←L,←K];simp[eO]
  rw[e];exact this
 ·intro y A
  rcases List.mem_append.1 A with A|A
  ·exact h.wok y A
  ·rw[List.mem_singleton.1 A];exact⟨J,hd,hs⟩
 ·rintro k (rfl|rfl|u|u)
  ·exact .inl (.inl rfl)
  ·exact .inl (.inr (.inl rfl))
  ·cases u
   rcases t with e|e
   ·exact .inl (.inr (.inr (.inl (by rw[m];exact e))))
   ·exact .inr (Nat.le_trans k0.size e)
  ·exact .inl (.inr (.inr (.inr u)))
 ·have ka:aA (dN a dv lv f D) w we:=E.any
  have kb:aA (dN a dv lv f D) we w8:=S.mono fun k _ e=>.inr (.inr (.inl (by rw[m];exact e)))
  have kc:aA (dN a dv lv f D) w8 w9:=T.mono fun k _ e=>.inl e
  exact((k0.trans ka).trans kb).trans kc
theorem qG(h:bE w a B D Z M nw)(hd:d<D)(hs:s<Z)(b:List UInt8)(q5:b.length=256)(v:Value)(hr:Rd w 1 v 256 (b.map vb))(hv:∀k,v.ownBlock=some k->¬B k)(hn:nw<100000000000) :
 Calls prog 100 #[.pointer a,.int .i64 (d:Int),.int .i64 (s:Int),v] w (kK w a B D Z M nw d s b):=by
 obtain⟨dv,dc,lv,st,f,F,W,h,rfl,hW,hM⟩:=h
 obtain⟨g,o,c,rfl,zm⟩:∃g o c,v=.slice (some ⟨g,o,none⟩) 256 c/\w.rangeAt g o (b.map vb):=by
  obtain⟨h1,a',c',rfl,-,-,-,h4⟩:=hr;obtain⟨g,o,rfl,hc⟩:=h4 (by rw[h1];decide);exact⟨g,o,c',rfl,hc⟩
 have hg:¬(dN a dv lv f D) g:=hv g rfl;have r:=O (Loc.nil (dN a dv lv f D) (dN a dv lv f D) w);have m:=O h;have I:=O zm;have qx:oB d s D Z=true:=by unfold oB;simp only[Bool.and_eq_true,decide_eq_true_eq];omega
 replace qx:=O qx;obtain⟨bs,q⟩:=zX9 (b.map vb)
 have q7:bs.length=256:=by rw[←q,List.length_map,q5]
 have HO:Hid (∀u∈bs,u.oneCell'=true):=O (by rw[←q];exact bA _);rw[q] at I;have zf:=O q;have HM:=O hM;have HW:=O hW;have zt:(d:Int)<(D:Int):=by omega
 have zr:(0:Int)≤(d:Int):=by omega
 clear h hr hv zm q hM hW;go_in
 go_wp2_with refine bxA (#[.slice (some ⟨g,o,none⟩) 256 c]) ?_
 intro b7 w1 q j hb;replace r:=O (r.new (fun _ j=>m.lt j) q j hb);replace m:=O (m.keep j fun _ h=>h.elim);replace I:=O (j.rangeAt I.out);clear q j hb;go_wp2_with fail;refine(xK w1 a (d:Int) (s:Int)).mono ?_;rintro e w2 hp;obtain⟨p0,p1,p2,rfl,J,K,L,j⟩:=hp.three;replace r:=kL r j;replace m:=O (m.keep j fun _ h=>h.elim);replace I:=O (j.rangeAt I.out);clear j;replace J:=O J;replace K:=O K;replace L:=O L;go_wp2_with fail;refine(qF w2 a (d:Int)).mono ?_;rintro e w3 hp;obtain⟨q0,q1,rfl,qc,qd,j⟩:=hp.two;replace r:=kL r j;replace m:=O (m.keep j fun _ h=>h.elim);replace I:=O (j.rangeAt I.out);replace J:=O (j.blk J.out id);replace K:=O (j.blk K.out id);replace L:=O (j.blk L.out id);clear j;replace qc:=O qc;replace qd:=O qd;obtain⟨w4,ze,j,hb,-⟩:=aM w3 #[.func (.func 54) #[.pointer a] #[],.func (.func 146) #[.pointer a] #[],.func (.func 208) #[] #[.pointer p0,.pointer p1,.pointer p2],.func (.func 145) #[] #[.pointer b7],.func (.func 161) #[] #[.pointer q0,.pointer q1],.func (.func 148) #[.pointer a] #[]] 43;obtain⟨zl,q⟩:=zX9 w3.heap.size
 rw[q] at hb;replace r:=O (r.new (fun _ j=>m.lt j) q j hb);have qm:=O q;replace m:=O (m.keep j fun _ h=>h.elim);replace I:=O (j.rangeAt I.out);replace J:=O (j.blk J.out id);replace K:=O (j.blk K.out id);replace L:=O (j.blk L.out id);replace qc:=O (j.blk qc.out id);replace qd:=O (j.blk qd.out id);clear j hb q;go_wp2_with fail;clear ze;rw[qm.out];have qt:=O (r.b 0)
 have HI:Hid (∀k wr,WI w4 a dv dc D lv k wr->wr.heap[zl]?=some (.cells #[.func (.func 54) #[.pointer a] #[],.func (.func 146) #[.pointer a] #[],.func (.func 208) #[] #[.pointer p0,.pointer p1,.pointer p2],.func (.func 145) #[] #[.pointer b7],.func (.func 161) #[] #[.pointer q0,.pointer q1],.func (.func 148) #[.pointer a] #[]] 43 (0,0))):=O (by
  rintro k wr (⟨-,j⟩|⟨-,j,-⟩)
  ·exact j.blk qt.out id
  ·exact j.blk qt.out (fun e=>(r.aq 0) (.inl e)))
 have zg:Hid (∀k,k<6->k≤6->∃G x,((#[.func (.func 54) #[.pointer a] #[],.func (.func 146) #[.pointer a] #[],.func (.func 208) #[] #[.pointer p0,.pointer p1,.pointer p2],.func (.func 145) #[] #[.pointer b7],.func (.func 161) #[] #[.pointer q0,.pointer q1],.func (.func 148) #[.pointer a] #[]]:Array Value).getD k .nilFunc=.func (.func G) #[] x\/(#[.func (.func 54) #[.pointer a] #[],.func (.func 146) #[.pointer a] #[],.func (.func 208) #[] #[.pointer p0,.pointer p1,.pointer p2],.func (.func 145) #[] #[.pointer b7],.func (.func 161) #[] #[.pointer q0,.pointer q1],.func (.func 148) #[.pointer a] #[]]:Array Value).getD k .nilFunc=.func (.func G) x #[])/\(∀w,Sem.run prog (callFunc G x) w=.ok (.enter G x) w)/\∀wr,WI w4 a dv dc D lv k wr->Calls prog G x wr fun e w'=>e=.returned (.int .i64 0)/\WI w4 a dv dc D lv (k+1) w'):=O (by
  intro k j hm
  match k,j,hm with
  | 0,_,_=>exact ckw (by decide) (.inr rfl) (fun w=>by rfl) fun wr k=>Bo (m.keep k fun _ h=>h.elim)
  | 1,_,_=>exact ckw (by decide) (.inr rfl) (fun w=>by rfl) fun wr k=>Ec (m.keep k fun _ h=>h.elim)
  | 2,_,_=>exact ckw (by decide) (.inl rfl) (fun w=>by rfl) fun wr k=>rki (by rw[qx.out];rfl) (vB (m.keep k fun _ h=>h.elim) (d:Int) (s:Int) p0 p1 p2 (k.blk J.out id) (k.blk K.out id) (k.blk L.out id))
  | 3,_,_=>exact ckw (by decide) (.inl rfl) (fun w=>by rfl) fun wr k=>KD wr b7 256 c _ (k.blk (r.b 1) id)
  | 4,_,_=>exact ckw (by decide) (.inl rfl) (fun w=>by rfl) fun wr k=>sY (m.keep k fun _ h=>h.elim) hd q0 q1 (k.blk qc.out id) (k.blk qd.out id)
  | 5,_,_ =>
    refine⟨148,#[.pointer a],.inr rfl,fun w=>by rfl,fun wr hw=>?_⟩;rcases hw with⟨-,k1⟩|⟨e,-⟩
    ·refine(EY (k1.blk m.top id)).mono ?_
     rintro e w' ⟨h1,h2,h3⟩;exact⟨h1,.inr ⟨rfl,k1.trans' h2 (fun _ _ h=>h.elim) (fun _ _ h=>h),h3⟩⟩
    ·exact absurd e (by decide))
 refine(mY w4 (d:Int) zl 6 6 #[.func (.func 54) #[.pointer a] #[],.func (.func 146) #[.pointer a] #[],.func (.func 208) #[] #[.pointer p0,.pointer p1,.pointer p2],.func (.func 145) #[] #[.pointer b7],.func (.func 161) #[] #[.pointer q0,.pointer q1],.func (.func 148) #[.pointer a] #[]] (fun _=>0) (WI w4 a dv dc D lv) (by decide) (by decide) HI.out (by intro k j;match k,j with
  | 0,_=>rfl
  | 1,_=>rfl
  | 2,_=>rfl
  | 3,_=>rfl
  | 4,_=>rfl
  | 5,_=>rfl) (.inl ⟨by decide,aA.refl _ _⟩) (fun _ _=>rfl) (fun h=>absurd h (by decide)) zg.out).mono ?_
 rintro e w5 ⟨h1,h2,zn⟩;clear zg qt HI J K L qc qd;obtain rfl:=h1 rfl
 obtain⟨j,qo,qq⟩:aA (fun i=>i=a) w4 w5/\∃qo,w5.heap[a]?=some (.cells #[.slice dv D dc,lv,.int .i64 (-1),.bool false,.int .i64 qo] fO (0,0)):=by
  rcases zn with⟨h6,-⟩|⟨-,h6⟩
  ·exact absurd h6 (by decide)
  ·exact h6
 clear h1 h2 zn;replace r:=O (r.turn (B:=(dN a dv lv f D)) (B':=(dN a dv lv f D)) (j.mono fun _ _ e=>.inl e) (fun _ _ h=>h) (fun _ _ h=>h));replace I:=O (j.rangeAt2 I.out fun e=>hg (.inl e));replace m:=O (m.top2 j qq);clear j qq;have c1:w5.cell? ⟨a,0,none⟩=some (.slice dv D dc):=(aC (i:=0) m.top rfl)
 go_wp2_with fail;clear c1;obtain⟨cur,E,C⟩:=m.next hd;replace E:=O E;replace C:=O C;refine(E0 w5 dv (d*5+2) 1 (by decide) cur E.out C.out).mono ?_;rintro e w6 ⟨rfl,j⟩;replace r:=kL r j;replace m:=O (m.keep j fun _ h=>h.elim);replace I:=O (j.rangeAt I.out);clear j;clear E C cur;go_wp2_with fail;obtain⟨cur,E,C⟩:=m.next hd;replace E:=O E;replace C:=O C;refine(E0 w6 dv (d*5+2) 2 (by decide) cur E.out C.out).mono ?_;rintro e w7 ⟨rfl,j⟩;replace r:=kL r j;replace m:=O (m.keep j fun _ h=>h.elim);replace I:=O (j.rangeAt I.out);clear j;clear E C cur;go_wp2_with fail;obtain⟨p2,y,qk⟩:=m.lv;obtain⟨n,ql⟩:=zX9 W.length
 have HN:=O ql;rw[ql] at qk;have q3:=m.loose;rw[ql,qk] at q3;have qv:=O q3;have zu:n<100000000000:=by rw[←ql,HW.out];exact hn
 have qa:=O qk;have ht:=m.top;rw[qk] at ht;have HT:=O ht;clear q3 qk ql ht;refine dwA (dN a dv lv f D) (by kernel_rfl) ?_;intro wd S z R X qf;replace r:=kL r qf;replace m:=O (m.keep qf fun _ h=>h.elim);replace I:=O (qf.rangeAt I.out);replace qv:=O (qf.owns qv.out fun _ _=>id);replace HT:=O (qf.blk HT.out id);clear qf;have zo:¬(dN a dv lv f D) b7:=(r.aq 1);refine tna 0 (.pointer a) rfl X ?_;refine tna 1 (.pointer a) rfl X ?_;refine tnb 2 (.pointer a) rfl X ?_;refine tnb 3 (.pointer (some ⟨a,1,none⟩)) rfl X ?_;refine tna 5 (.int .i64 (d:Int)) rfl X ?_;refine tna 6 (.int .i64 (s:Int)) rfl X ?_;refine tnd 7 (.slice (some ⟨g,o,none⟩) 256 c) rfl (.inl ⟨by rfl,fun w' zp=>by have c:=(z w' zp).cell (aC (i:=0) (r.b 1) rfl) zo;go_simp⟩) X ?_;refine tnd 8 (.pointer (some ⟨g,o,none⟩)) rfl (.inl ⟨by rfl,fun w' _=>by have hb:=KH g o c w';go_simp⟩) X ?_;refine tnd 9 (.agg bs.toArray) rfl (yieldsIf_load_mid (by rfl) 146 (.tmp 62) rfl g o rfl bs _ (fun w' h=>(z w' h).rangeAt2 I.out hg) underlying146 rfl (by rw[q7];exact mA)) X ?_;refine tnd 10 (.agg (.int .i64 (d:Int)::.int .i64 (s:Int)::bs).toArray) rfl (lO 148 #[(0,.tmp 59),(1,.tmp 60),(2,.tmp 63)] [(0,.int .i64 (d:Int)),(1,.int .i64 (s:Int)),(2,.agg bs.toArray)] _ (Pe bs q7 _ _)) X ?_;obtain⟨cs,qi⟩:=zX9 ((.int .i64 (d:Int)::.int .i64 (s:Int)::bs:List Value))
 have q9:cs.length=258:=by rw[←qi,List.length_cons,List.length_cons,q7]
 have zj:Hid (∀u∈cs,u.oneCell'=true):=O (by
  rw[←qi];intro u hu;rcases List.mem_cons.1 hu with rfl|hu
  ·rfl
  rcases List.mem_cons.1 hu with rfl|hu
  ·rfl
  exact HO.out u hu)
 rw[qi];have zh:=O qi;obtain⟨we,qn,qj,q4,-⟩:=aM wd cs.toArray WrT;obtain⟨bx,qe⟩:=zX9 wd.heap.size
 rw[qe] at q4;have zq:¬(dN a dv lv f D) bx:=fun j=>by have:=m.lt j;omega
 have zk:Hid (Rd we 258 (.slice bx 1 1) 1 cs):=O (eL (n:=1) (size:=258) q4 (by rw[q9]) (by unfold maxLen;omega));have T:S we:=R.out _ ((z _ X).trans qj.any);have zi:=O qj;have HX:=O qe;have qz:=O (qj.blk HT.out id);have qp:=O (qj.owns qv.out fun _ _=>id);clear q4 qj qi;refine kT (k:=4) (l:=11) rfl rfl (by kernel_rfl) ?_ ?_
 ·have c1:wd.cell? ⟨a,1,none⟩=some (.slice p2 n y):=aC HT.out rfl
  go_wp2_with fail;refine⟨X,?_⟩;clear c1;refine wA9 11 ?_;refine bX rfl 76 WrT (.tmp 64) rfl underlying76 pG (by decide) cs q9 (by decide) rfl ?_;rw[qn,qe];clear qn qe X;refine wpList_nil ?_;refine⟨T,?_⟩;refine wA9 12 ?_;refine aK rfl (.tmp 58) (.tmp 65) 76 rfl 0 WrT (.agg nZ.toArray) 258 272 underlying76 pG rfl (by decide) (.slice p2 n y) n (dJ W) rfl qp.out (.slice bx 1 1) 1 cs rfl zk.out zj.out (by unfold maxLen;omega) (by omega) (Nat.zero_le _) ?_;intro v' w8 V H zb qh;obtain⟨g',Q,rfl⟩:=ownsRow_succ V;have qw:=O V;have qr:=O qh;have za:aA (dN a dv lv f D) we w8:=H.mono fun k _ e=>.inr (.inr (.inl (by rw[qa.out];exact e)))
  have qu:=O H;have t:S w8:=R.out _ ((z _ T).trans za);have zd:¬(Value.slice p2 n y).ownBlock=some a:=fun e=>m.ne.2.2 a (by rw[qa.out];exact e) rfl
  have qy:=O (H.blk qz.out zd);clear V H zb qh;refine wpList_nil ?_;refine⟨t,?_⟩;clear T;refine tnb 13 (.pointer a) rfl t ?_;refine tnb 14 (.pointer (some ⟨a,1,none⟩)) rfl t ?_;refine wA9 15 ?_;refine sta 76 (.tmp 68) (.tmp 66) a 1 [.slice g' (n+1) Q] qy.out (by simp) (by kernel_rfl) (one9) ?_;intro w9 U A;replace A:w9.heap[a]?=some (.cells #[.slice dv D dc,(.slice g' (n+1) Q),.int .i64 (-1),.bool false,.int .i64 qo] fO (0,0)):=A;have HP:Hid (kK w a (dN a dv lv f D) D Z M nw d s b (.returned (.int .i64 0)) w9):=O (Br m.out zi.out qu.out qa.out HN.out qw.out qr.out U A hd hs q5 zh.out zf.out HM.out HW.out r.keep);have qg:S w9:=R.out _ (((z _ t).trans (U.mono fun _ _ e=>.inl e)));clear U A t;refine wpList_nil ?_;refine⟨qg,?_⟩;refine wpAnyH_done (by kernel_rfl) ?_ _;clear qg z R;go_wp2;go_ret;exact HP.out
 ·refine bX rfl 76 WrT (.tmp 64) rfl underlying76 pG (by decide) cs q9 (by decide) rfl ?_
  rw[qn,qe];clear qn qe X;refine wpList_nil ?_;refine⟨T,?_⟩;refine wA9 4 ?_;have c1:we.cell? ⟨a,1,none⟩=some (.slice p2 n y):=aC qz.out rfl;go_wp2_with fail;refine⟨T,?_⟩;clear c1;refine wA9 12 ?_;refine aK rfl (.tmp 58) (.tmp 65) 76 rfl 0 WrT (.agg nZ.toArray) 258 272 underlying76 pG rfl (by decide) (.slice p2 n y) n (dJ W) rfl qp.out (.slice bx 1 1) 1 cs rfl zk.out zj.out (by unfold maxLen;omega) (by omega) (Nat.zero_le _) ?_;intro v' w8 V H zb qh;obtain⟨g',Q,rfl⟩:=ownsRow_succ V;have qw:=O V;have qr:=O qh;have za:aA (dN a dv lv f D) we w8:=H.mono fun k _ e=>.inr (.inr (.inl (by rw[qa.out];exact e)))
  have qu:=O H;have t:S w8:=R.out _ ((z _ T).trans za);have zd:¬(Value.slice p2 n y).ownBlock=some a:=fun e=>m.ne.2.2 a (by rw[qa.out];exact e) rfl
  have qy:=O (H.blk qz.out zd);clear V H zb qh;refine wpList_nil ?_;refine⟨t,?_⟩;clear T;refine tnb 13 (.pointer a) rfl t ?_;refine tnb 14 (.pointer (some ⟨a,1,none⟩)) rfl t ?_;refine wA9 15 ?_;refine sta 76 (.tmp 68) (.tmp 66) a 1 [.slice g' (n+1) Q] qy.out (by simp) (by kernel_rfl) (one9) ?_;intro w9 U A;replace A:w9.heap[a]?=some (.cells #[.slice dv D dc,(.slice g' (n+1) Q),.int .i64 (-1),.bool false,.int .i64 qo] fO (0,0)):=A;have HP:Hid (kK w a (dN a dv lv f D) D Z M nw d s b (.returned (.int .i64 0)) w9):=O (Br m.out zi.out qu.out qa.out HN.out qw.out qr.out U A hd hs q5 zh.out zf.out HM.out HW.out r.keep);have qg:S w9:=R.out _ (((z _ t).trans (U.mono fun _ _ e=>.inl e)));clear U A t;refine wpList_nil ?_;refine⟨qg,?_⟩;refine wpAnyH_done (by kernel_rfl) ?_ _;clear qg z R;go_wp2;go_ret;exact HP.out
theorem OB(r:Rd w 258 (.slice p n c) n (dJ W))(e:zC D Z W)(h:W[k]?=some x):∃g o,p=some ⟨g,o,none⟩/\w.rangeAt g (o+k*258) (eO x):=by
 have q:=(List.getElem?_eq_some_iff.1 h).1;obtain⟨C,z,A,m,-,-,-,i⟩:=r;obtain⟨g,o,rfl,l⟩:=i (by rw[Qe e];omega);cases m
 refine⟨g,o,rfl,fun j v t=>?_⟩;have:=l (k*258+j) v (gP (c:=eO) (n:=258) (fun y u=>lZ (e y u).1) h t)
 rwa [←Nat.add_assoc] at this
theorem IE(w:World)(k:Int)(x:Lw)(t:x.b.length=256)(p d:Nat)(m:w.heap[p]?=some (.cells #[.int .i64 (d:Int)] 3 (0,0))):Calls prog 193 #[.int .i64 k,.agg (eO x).toArray,.pointer p] w (aN w (.bool (decide (x.dev=d)))):=by
 have r:=lZ t;have j:=O m;have h:=lN w;have q:((x.dev:Int) == (d:Int))=decide (x.dev=d):=by rw[Bool.eq_iff_iff,beq_iff_eq,decide_eq_true_eq];omega
 obtain⟨y,e⟩:=zX9 (decide (x.dev=d))
 rw[e] at q ⊢;clear m e;go_in
 go_wp2_with refine bxM h ((eO x).toArray) ?_
 intro o u l h;replace j:=O (l.blk j.out id);clear l;have c1:u.cell? ⟨o,0,none⟩=some (.int .i64 (x.dev:Int)):=aC (i:=0) (h.b 0) (by rw[List.getElem?_toArray];rfl);have c2:=aC (i:=0) j.out rfl;go_wp2;go_ret;exact aN.of h.keep
def E1(w:World)(W:List Lw)(d:Nat)(e:Ending)(w':World):Prop:=∃yv nv,e=.returned (.tuple #[yv,nv])/\w'.ownsRow w.heap.size WrT 258 yv (W.filter fun x=>decide (x.dev=d)).length (dJ (W.filter fun x=>decide (x.dev=d)))/\w'.ownsRow w.heap.size WrT 258 nv (W.filter fun x=>!decide (x.dev=d)).length (dJ (W.filter fun x=>!decide (x.dev=d)))/\aA aB w w'
structure PaI(w wr:World)(W:List Lw)(d k:Nat)(yv nv:Value)(Y N:List Lw):Prop where
 y:Y=(W.take k).filter fun x=>decide (x.dev=d)
 n:N=(W.take k).filter fun x=>!decide (x.dev=d)
 oy:wr.ownsRow w.heap.size WrT 258 yv Y.length (dJ Y)
 on:wr.ownsRow w.heap.size WrT 258 nv N.length (dJ N)
 ne:∀i,yv.ownBlock=some i->¬nv.ownBlock=some i
 keep:aA aB w wr
theorem PaI.lens{wr:World}(h:PaI w wr W d k yv nv Y N):Y.length≤W.length/\N.length≤W.length:=by
 rw[h.y,h.n];have e:=List.length_take_le k W;have i:=List.length_filter_le (fun x:Lw=>decide (x.dev=d)) (W.take k);have j:=List.length_filter_le (fun x:Lw=>!decide (x.dev=d)) (W.take k);have l:(W.take k).length≤W.length:=by rw[List.length_take];omega
 omega
theorem xL(Y:List Lw)(x:Lw):dJ (Y++[x])=dJ Y++eO x:=by unfold dJ;rw[List.flatMap_append];simp
theorem PaI.yes{wr:World}(h:PaI w wr W d k yv nv Y N)(y:W[k]?=some x)(o:x.dev=d)(m:aA aB wr we)(u:w8.ownsRow w.heap.size WrT 258 (.slice g (Y.length+1) c) (Y.length+1) (dJ Y++eO x))
 (r:aA (fun k=>yv.ownBlock=some k) we w8) (j:(Value.slice g (Y.length+1) c).ownBlock=yv.ownBlock\/(Value.slice g (Y.length+1) c).ownBlock=some we.heap.size):PaI w w8 W d (k+1) (.slice g (Y.length+1) c) nv (Y++[x]) N:=by
 have q:W.take (k+1)=W.take k++[x]:=by rw[List.take_add_one,y];rfl
 refine⟨?_,?_,?_,?_,?_,?_⟩
 ·rw[q,List.filter_append,←h.y];simp[o]
 ·rw[q,List.filter_append,←h.n];simp[o]
 ·rw[List.length_append,xL];exact u
 ·exact r.owns (m.owns h.on fun _ _=>id) fun i l e=>h.ne i e l
 ·intro i l e
  rcases j with j|j
  ·exact h.ne i (j▸l) e
  ·obtain⟨cur,t⟩:=aH h.on e
   have:=lt_of_block t;have:=m.size;rw[l] at j;cases j
   omega
 ·exact(h.keep.trans m).tT r fun i l e=>by
   have:=bG h.oy e;omega
theorem PaI.no{wr:World}(h:PaI w wr W d k yv nv Y N)(y:W[k]?=some x)(o:¬x.dev=d)(m:aA aB wr we)(u:w8.ownsRow w.heap.size WrT 258 (.slice g (N.length+1) c) (N.length+1) (dJ N++eO x))
 (r:aA (fun k=>nv.ownBlock=some k) we w8) (j:(Value.slice g (N.length+1) c).ownBlock=nv.ownBlock\/(Value.slice g (N.length+1) c).ownBlock=some we.heap.size):PaI w w8 W d (k+1) yv (.slice g (N.length+1) c) Y (N++[x]):=by
 have q:W.take (k+1)=W.take k++[x]:=by rw[List.take_add_one,y];rfl
 refine⟨?_,?_,?_,?_,?_,?_⟩
 ·rw[q,List.filter_append,←h.y];simp[o]
 ·rw[q,List.filter_append,←h.n];simp[o]
 ·exact r.owns (m.owns h.oy fun _ _=>id) fun i l e=>h.ne i l e
 ·rw[List.length_append,xL];exact u
 ·intro i l e
  rcases j with j|j
  ·exact h.ne i l (j▸e)
  ·obtain⟨cur,t⟩:=aH h.oy l
   have:=lt_of_block t;have:=m.size;rw[e] at j;cases j
   omega
 ·exact(h.keep.trans m).tT r fun i l e=>by
   have:=bG h.on e;omega
theorem PaI.same{wr:World}(h:PaI w wr W d k yv nv Y N)(e:aA aB wr we):PaI w we W d k yv nv Y N:=
 ⟨h.y,h.n,e.owns h.oy fun _ _=>id,e.owns h.on fun _ _=>id,h.ne,h.keep.trans e⟩
theorem DN(w:World)(W:List Lw)(d:Nat)(p:Option Addr)(c:Nat)(hr:Rd w 258 (.slice p W.length c) W.length (dJ W))(H:zC D Z W)(hn:W.length<100000000000)(q:Nat)(hq:w.heap[q]?=some (.cells #[.int .i64 (d:Int)] 3 (0,0))) :
 Calls prog 192 #[.slice p W.length c,.func (.func 193) #[] #[.pointer q]] w (E1 w W d):=by
 obtain⟨n,qk⟩:=zX9 W.length
 have HN:=O qk;rw[qk] at hr hn ⊢;have HR:=O hr;have HQ:=O hq;have ql:=O H;clear hr hq H qk;go_in;go_wp2_with fail
 go_loopw [4,5,10] (fun y z i wr=>∃(k:Nat) (Y N:List Lw) (py pn:Option Addr) (cy cn:Nat),k≤n/\i=.int .i64 k/\y=.slice py Y.length cy/\z=.slice pn N.length cn/\Hid (PaI w wr W d k (.slice py Y.length cy) (.slice pn N.length cn) Y N)) (fun _ _ i _=>n-(intOf i).toNat)
 case atStart=>exact⟨0,[],[],none,none,0,0,by omega,rfl,rfl,rfl,O ⟨by simp,by simp,World.ownsRow_nil _ _ _ _,World.ownsRow_nil _ _ _ _,(fun i h=>by cases h),aA.refl _ _⟩⟩
 case round =>
  obtain⟨k,Y,N,py,pn,cy,cn,U,rfl,rfl,rfl,HI⟩:=hrel
  by_cases qr:k<n
  ·obtain⟨x,hx⟩:∃x,W[k]?=some x:=⟨W[k]'(by rw[HN.out];exact qr),List.getElem?_eq_getElem _⟩
   have H:=ql.out x (List.mem_of_getElem? hx);have m:=lZ H.1;obtain⟨g,o,rfl,qn⟩:=OB (by have:=HR.out;rwa [←HN.out] at this) ql.out hx;have HX:=O (HI.keep.rangeAt qn);have qm:=O hx;have X:=HI.lens;rw[HN.out] at X;have HL:=lN wr;have L:=O (HI.keep.blk HQ.out id);have qh:(0:Int)≤(k:Int):=by omega
   have qt:(k:Int)<(n:Int):=by omega
   obtain⟨ny,qe⟩:=zX9 Y.length
   obtain⟨nn,qd⟩:=zX9 N.length
   have l:=O qe;have j:=O qd;rw[qe,qd] at X;rw[qe,qd];have qp:=H.1;clear qn hx H qe qd
   go_wp2_with (first
    | refine ldM g (o+k*258) (eO x) HX.out qP (by rw[m];exact kY) ?_
    | refine alA Cq ?_)
   intro b7 w1 qo qh qf
   go_wp2_with ((with_reducible show WL _ _);refine stW qf m sX (by rw[m];exact kY) (vA x) ?_)
   intro w2 U hb;replace U:=tX qh U (fun i hi e=>by omega);replace HL:=lW HL qo U hb;replace HX:=O (U.rangeAt HX.out);replace L:=O (U.blk L.out id);clear qo U hb qh qf;clear HX
   go_wp2_with ((with_reducible show WL _ _);refine ldR (HL.b 0) qP (by rw[m];exact kY) ?_)
   refine(IE w2 (k:Int) x qp q d L.out).mono ?_;rintro e w3 ⟨rfl,U⟩;replace HL:=kL HL U;replace L:=O (U.blk L.out id);clear U;have A:=O (HI.same HL.keep);have HP:=O A.out
   by_cases hd:x.dev=d
   ·have T:decide (x.dev=d)=true:=decide_eq_true hd
    rw[T];clear T;have HO:=O A.oy;rw[l.out] at HO;have qq:Hid (∀u∈eO x,u.oneCell'=true):=O (vA x);have S:=A.keep.size;obtain⟨we,qc,t,C,-⟩:=aM w3 (eO x).toArray 148;obtain⟨bx,r⟩:=zX9 w3.heap.size
    rw[r] at C;have Q:Hid (Rd we 258 (.slice bx 1 1) 1 (eO x)):=O (eL (n:=1) (size:=258) C (by rw[m]) (by unfold maxLen;omega));have K:=O (t.owns HO.out fun _ _=>id);have qa:=t.size;have J:=O t;have qg:=O r;clear C t
    go_wp2_with (first
     | ((with_reducible show WL (some 20) (.load 148 _));refine ldR (HL.b 0) qP (by rw[m];exact kY) ?_)
     | ((with_reducible show WL _ (.buildSlice _ 1 _));refine bX rfl 76 148 (.tmp 20) rfl underlying76 pG (by decide) (eO x) m (by decide) rfl ?_;rw[qc,r])
     | (at_builtin;refine aK rfl (.tmp 19) (.tmp 21) 76 rfl w.heap.size 148 (.agg nZ.toArray) 258 272 underlying76 pG rfl (by decide) (.slice py ny cy) ny (dJ Y) rfl K.out (.slice bx 1 1) 1 (eO x) rfl Q.out (vA x) (by unfold maxLen;omega) (by omega) (by omega) ?_))
    intro v2 w8 E V qj R;obtain⟨gq,cq,rfl⟩:=ownsRow_succ E;clear qc r qj Q K;have I:=O (A.yes qm.out hd J.out (by rw[l.out];exact E) (by rw[l.out];exact V) (by rw[l.out];exact R));rw[l.out,j.out] at I;clear E V R J qg qa S;go_wp2
    go_roundw
    case rel=>exact⟨k+1,Y++[x],N,some ⟨gq,0,none⟩,pn,cq,cn,by omega,by go_num,by rw[List.length_append,l.out];rfl,by rw[j.out],by rw[List.length_append,l.out,j.out];exact I⟩
    case measure=>simp[intOf];omega
   ·have T:decide (x.dev=d)=false:=decide_eq_false hd
    rw[T];clear T;have HO:=O A.on;rw[j.out] at HO;have qq:Hid (∀u∈eO x,u.oneCell'=true):=O (vA x);have S:=A.keep.size;obtain⟨we,qc,t,C,-⟩:=aM w3 (eO x).toArray 148;obtain⟨bx,r⟩:=zX9 w3.heap.size
    rw[r] at C;have Q:Hid (Rd we 258 (.slice bx 1 1) 1 (eO x)):=O (eL (n:=1) (size:=258) C (by rw[m]) (by unfold maxLen;omega));have K:=O (t.owns HO.out fun _ _=>id);have qa:=t.size;have J:=O t;have qg:=O r;clear C t
    go_wp2_with (first
     | ((with_reducible show WL (some 24) (.load 148 _));refine ldR (HL.b 0) qP (by rw[m];exact kY) ?_)
     | ((with_reducible show WL _ (.buildSlice _ 1 _));refine bX rfl 76 148 (.tmp 24) rfl underlying76 pG (by decide) (eO x) m (by decide) rfl ?_;rw[qc,r])
     | (at_builtin;refine aK rfl (.tmp 23) (.tmp 25) 76 rfl w.heap.size 148 (.agg nZ.toArray) 258 272 underlying76 pG rfl (by decide) (.slice pn nn cn) nn (dJ N) rfl K.out (.slice bx 1 1) 1 (eO x) rfl Q.out (vA x) (by unfold maxLen;omega) (by omega) (by omega) ?_))
    intro v2 w8 E V qj R;obtain⟨gq,cq,rfl⟩:=ownsRow_succ E;clear qc r qj Q K;have I:=O (A.no qm.out hd J.out (by rw[j.out];exact E) (by rw[j.out];exact V) (by rw[j.out];exact R));rw[j.out,l.out] at I;clear E V R J qg qa S;go_wp2
    go_roundw
    case rel=>exact⟨k+1,Y,N++[x],py,some ⟨gq,0,none⟩,cy,cq,by omega,by go_num,by rw[l.out],by rw[List.length_append,j.out];rfl,by rw[List.length_append,l.out,j.out];exact I⟩
    case measure=>simp[intOf];omega
  ·obtain rfl:n=k:=by omega
   have hi:=HI.out;have hy:=hi.y;have qi:=hi.n;rw[List.take_of_length_le (by rw[HN.out];exact Nat.le_refl _)] at hy qi;have HP:Hid (E1 w W d (.returned (.tuple #[.slice py Y.length cy,.slice pn N.length cn])) wr):=O ⟨_,_,rfl,by rw[←hy];exact hi.oy,by rw[←qi];exact hi.on,hi.keep⟩;clear hi hy qi;go_wp2
   go_ret2
   exact HP.out
variable {w:World}{a dv dc D Z:Nat}{lv:Value}{st:Int}{f:Nat->Nat}{F:Nat->Nat->List UInt8}{W:List Lw}
def WJ(W:World)(a dv dc D:Nat)(lv:Value)(k:Nat)(wr:World):Prop:=(k≤4/\aA aB W wr)\/(k=5/\aA (fun i=>i=a) W wr/\∃e,wr.heap[a]?=some (.cells #[.slice dv D dc,lv,.int .i64 (-1),.bool false,.int .i64 e] fO (0,0)))
theorem ckj{W:World}(q:k≤3){x:Array Value}(m:v=.func (.func G) #[] x\/v=.func (.func G) x #[])(l:∀w,Sem.run prog (callFunc G x) w=.ok (.enter G x) w)(j:∀wr,aA aB W wr->Calls prog G x wr (aN wr (.int .i64 0))) :
 ∃G x,(v=.func (.func G) #[] x\/v=.func (.func G) x #[])/\(∀w,Sem.run prog (callFunc G x) w=.ok (.enter G x) w)/\∀wr,WJ W a dv dc D lv k wr->Calls prog G x wr fun e w'=>e=.returned (.int .i64 0)/\WJ W a dv dc D lv (k+1) w':=
 ⟨G,x,m,l,fun wr o=>by
  rcases o with⟨-,i⟩|⟨e,-⟩
  ·exact(j wr i).mono fun e w' h=>⟨h.1,.inl ⟨by omega,i.trans h.2⟩⟩
  ·omega⟩
theorem bQ.ne3(h:bQ w a dv dc lv st f F W D Z):∀d,d<D->dv≠f d:=by
 rintro d j rfl;obtain⟨cur,i⟩:=aH h.devs (k:=f d) rfl;have e:=h.firm d j;rw[i] at e;simp[iJ,fS] at e
def jK(F:Nat->Nat->List UInt8)(d s:Nat)(b:List UInt8):Nat->Nat->List UInt8:=fun e h=>if e=d/\h=s then b else F e h
theorem E2(F:Nat->Nat->List UInt8)(K:s<Z)(b:List UInt8)(o:b.length=256)(hF:∀s,s<Z->(F d s).length=256):spl (dK (F d) Z).toArray (s*256) (b.map vb)=(dK (jK F d s b d) Z).toArray:=by
 have E:(dK (F d) Z).length=Z*256:=by
  have:=pF (c:=fun s=>(F d s).map vb) (n:=256) (l:=List.range Z) fun x m=>by rw[List.length_map];exact hF x (List.mem_range.1 m)
  rw[List.length_range] at this;exact this
 have H:(dK (jK F d s b d) Z).length=Z*256:=by
  have:=pF (c:=fun t=>(jK F d s b d t).map vb) (n:=256) (l:=List.range Z) fun x m=>by
   rw[List.length_map];unfold jK;split
   ·exact o
   ·exact hF x (List.mem_range.1 m)
  rw[List.length_range] at this;exact this
 have I:s*256+256≤Z*256:=by omega
 apply Array.ext_getElem?;intro j;rw[jR _ _ _ _ (by rw[List.size_toArray,E,List.length_map,o];exact I)];simp only[List.getElem?_toArray,List.length_map,o]
 by_cases J:j<Z*256
 ·obtain⟨q,r,rfl,z⟩:∃q r,j=q*256+r/\r<256:=⟨j / 256,j % 256,by omega,by omega⟩
  have y:q<Z:=by omega
  have C:(dK (jK F d s b d) Z)[q*256+r]?=((jK F d s b d q).map vb)[r]?:=by
   have i:((jK F d s b d q).map vb).length=256:=by
    rw[List.length_map];unfold jK;split
    ·exact o
    ·exact hF q y
   obtain⟨v,u⟩:∃v,((jK F d s b d q).map vb)[r]?=some v:=⟨_,List.getElem?_eq_getElem (by rw[i];exact z)⟩
   rw[u]
   exact gP (c:=fun t=>(jK F d s b d t).map vb) (n:=256) (l:=List.range Z) (fun x m=>by
    rw[List.length_map];unfold jK;split
    ·exact o
    ·exact hF x (List.mem_range.1 m)) (jI y) u
  have A:(dK (F d) Z)[q*256+r]?=((F d q).map vb)[r]?:=by
   have i:((F d q).map vb).length=256:=by rw[List.length_map];exact hF q y
   obtain⟨v,u⟩:∃v,((F d q).map vb)[r]?=some v:=⟨_,List.getElem?_eq_getElem (by rw[i];exact z)⟩
   rw[u];exact gP (c:=fun t=>(F d t).map vb) (n:=256) (l:=List.range Z) (fun x m=>by rw[List.length_map];exact hF x (List.mem_range.1 m)) (jI y) u
  rw[A,C];unfold jK
  by_cases e:q=s
  ·subst e
   rw[if_pos (by omega),if_pos ⟨rfl,rfl⟩,show q*256+r-q*256=r by omega]
  ·rw[if_neg (by omega),if_neg (fun h=>e h.2)]
 ·rw[if_neg (by omega),List.getElem?_eq_none (by omega),List.getElem?_eq_none (by omega)]
theorem xM{G:Nat->List UInt8}(e:∀s,s<Z->(G s).length=256):(dK G Z).length=Z*256:=by
 have:=pF (c:=fun s=>(G s).map vb) (n:=256) (l:=List.range Z) fun x h=>by rw[List.length_map];exact e x (List.mem_range.1 h)
 rw[List.length_range] at this;exact this
theorem bQ.turn(h:bQ w a dv dc lv st f F W D Z){b:List UInt8}(l:d<D)(C:s<Z)(u:b.length=256)(k:aA (fun i=>i=f d) w w')(y:w'.heap[f d]?=some (.cells (dK (jK F d s b d) Z).toArray iJ (0,0))):bQ w' a dv dc lv st f (jK F d s b) W D Z:=by
 obtain⟨E,A,H⟩:=h.ne;refine⟨k.blk h.top fun e=>A d l e,k.owns h.devs fun i o e=>h.ne3 d l (by cases o;exact e),fun e m=>?_,h.inj,k.owns h.loose fun i o e=>(h.ne2 i o).2 d l e,h.wok,?_,h.bd⟩
 ·by_cases j:e=d
  ·subst j;exact y
  ·have q:jK F d s b e=F e:=by
    funext t;unfold jK;rw[if_neg (fun h=>j h.1)]
   rw[q];exact k.blk (h.firm e m) fun r=>j (h.inj e d m l r)
 ·intro e t m z
  unfold jK;split
  ·exact u
  ·exact h.fok e t m z
theorem sZ:∀(l:List Lw) (b:List UInt8),eB (l.filter fun x=>decide (x.dev=d)) d s b=eB l d s b
 | [],b=>rfl
 | x::l,b=>by
   by_cases e:x.dev=d
   ·rw[List.filter_cons_of_pos (by simpa using e)]
    exact sZ l _
   ·rw[List.filter_cons_of_neg (by simpa using e),sZ l b]
    show _=eB l d s (if x.dev=d/\x.at_=s then x.b else b);rw[if_neg (fun h=>e h.1)]
theorem vF{i:Nat}(j:i≠d):∀(l:List Lw) (b:List UInt8),eB (l.filter fun x=>!decide (x.dev=d)) i s b=eB l i s b
 | [],b=>rfl
 | x::l,b=>by
   by_cases e:x.dev=d
   ·rw[List.filter_cons_of_neg (by simpa using e),vF j l b]
    show _=eB l i s (if x.dev=i/\x.at_=s then x.b else b);rw[if_neg (fun h=>j (h.1.symm.trans e))]
   ·rw[List.filter_cons_of_pos (by simpa using e)]
    exact vF j l _
theorem xN:∀(l:List Lw) (b:List UInt8),eB (l.filter fun x=>!decide (x.dev=d)) d s b=b
 | [],b=>rfl
 | x::l,b=>by
   by_cases e:x.dev=d
   ·rw[List.filter_cons_of_neg (by simpa using e)]
    exact xN l b
   ·rw[List.filter_cons_of_pos (by simpa using e)]
    show eB _ d s (if x.dev=d/\x.at_=s then x.b else b)=b;rw[if_neg (fun h=>e h.1)];exact xN l b
def mZ(F:Nat->Nat->List UInt8)(d:Nat)(Y:List Lw):Nat->Nat->List UInt8:=fun e h=>if e=d then eB Y e h (F e h) else F e h
theorem KJ(F:Nat->Nat->List UInt8)(d:Nat)(Y:List Lw)(x:Lw)(j:x.dev=d):jK (mZ F d Y) d x.at_ x.b=mZ F d (Y++[x]):=by
 funext d' s'
 unfold jK mZ
 by_cases e:d'=d
 ·subst e
  rw[if_pos rfl,if_pos rfl,qE]
  by_cases i:s'=x.at_
  ·rw[if_pos ⟨rfl,i⟩,if_pos ⟨j,i.symm⟩]
  ·rw[if_neg (fun h=>i h.2),if_neg (fun h=>i h.2.symm)]
 ·rw[if_neg (fun h=>e h.1),if_neg e,if_neg e]
theorem Na(F:Nat->Nat->List UInt8)(d:Nat)(W:List Lw):∀h i,eB (W.filter fun x=>!decide (x.dev=d)) h i (mZ F d (W.filter fun x=>decide (x.dev=d)) h i)=eB W h i (F h i):=by
 intro h i;unfold mZ
 by_cases e:h=d
 ·subst e;rw[if_pos rfl,xN,sZ]
 ·rw[if_neg e,vF e]
def hE(w:World)(a:Nat)(P:Nat->Prop):Prop:=∀p n c,w.cell? ⟨a,1,none⟩=some (.slice p n c)->∀k,k<n->∃g o d,p=some ⟨g,o,none⟩/\w.cell? ⟨g,o+k*258,none⟩=some (.int .i64 ((d:Nat):Int))/\P d
theorem bQ.looseIn(h:bQ w a dv dc lv st f F W D Z):hE w a P↔∀x∈W,P x.dev:=by
 have A:w.cell? ⟨a,1,none⟩=some lv:=aC (i:=1) h.top rfl;constructor
 ·intro u x r
  obtain⟨k,q⟩:=List.getElem?_of_mem r;obtain⟨g,t,rfl,y⟩:=h.wr q;obtain⟨H,o,d,j,C,E⟩:=u _ _ _ A k (List.getElem?_eq_some_iff.1 q).1;cases j
  have e:=y 0 _ (show (eO x)[0]?=some (.int .i64 (x.dev:Int)) from rfl);rw[Nat.zero_add] at C;rw[Nat.add_zero,C] at e;have I:(d:Int)=(x.dev:Int):=by injection Option.some.inj e
  rw[show x.dev=d by omega];exact E
 ·intro u p n c j k q
  rw[A] at j;obtain⟨J,z,m⟩:=h.lv;rw[m] at j;cases Option.some.inj j
  have r:=List.getElem?_eq_getElem q;obtain⟨g,t,l,y⟩:=h.wr r;rw[m] at l;cases l
  refine⟨g,0,_,rfl,?_,u _ (List.mem_of_getElem? r)⟩;have e:=y 0 _ (show (eO (W[k]))[0]?=some (.int .i64 ((W[k]).dev:Int)) from rfl);rw[Nat.add_zero] at e;rw[Nat.zero_add];exact e
theorem bE.looseK(h:bE w a B D Z M nw)(k:aA aB w w')(j:hE w a P):hE w' a P:=by
 obtain⟨dv,dc,lv,st,f,F,W,i,rfl,l,m⟩:=h;exact(i.keep k fun _ e=>e.elim).looseIn.2 (i.looseIn.1 j)
theorem bE.loose0(h:bE w a B D Z M nw):hE w a fun d=>0≤d:=by
 obtain⟨dv,dc,lv,st,f,F,W,e,rfl,i,j⟩:=h;exact e.looseIn.2 fun x _=>Nat.zero_le _
theorem bE.noLoose(h:bE w a B D Z M nw)(m:hE w a fun d=>D≤d):nw=0:=by
 obtain⟨dv,dc,lv,st,f,F,W,e,rfl,j,o⟩:=h;have i:=e.looseIn.1 m;rcases W with _|⟨x,l⟩
 ·exact j.symm
 ·have q:=i x (List.mem_cons_self ..)
  have r:=(e.wok x (List.mem_cons_self ..)).2.1;omega
def C4(w:World)(a:Nat)(B:Nat->Prop)(D Z:Nat)(M:Nat->Nat->List UInt8)(nw:Nat)(e:Ending)(w':World):Prop:=
 e=.returned (.int .i64 0)/\∃i h,bE w' a i D Z M h/\h≤nw/\(∀k,i k->B k\/w.heap.size≤k)/\aA B w w'
def Bt(w:World)(a:Nat)(B:Nat->Prop)(D Z:Nat)(M:Nat->Nat->List UInt8)(nw d:Nat)(e:Ending)(w':World):Prop:=
 C4 w a B D Z M nw e w'/\∀P,hE w a P->hE w' a fun x=>P x/\x≠d
theorem Aa(h:bE w a B D Z M nw)(hd:d<D)(hn:nw<100000000000):Calls prog 126 #[.pointer a,.int .i64 (d:Int)] w (Bt w a B D Z M nw d):=by
 obtain⟨dv,dc,lv,st,f,F,W,h,rfl,hW,hM⟩:=h;obtain⟨p2,qc,zn⟩:=h.lv;have r:=O (Loc.nil (dN a dv lv f D) (dN a dv lv f D) w);have m:=O h;have qr:(decide (0≤(d:Int)) && decide ((d:Int)<(D:Int)))=true:=by simp only[Bool.and_eq_true,decide_eq_true_eq];omega
 replace qr:=O qr;have zr:=O (fun P (hp:hE w a P)=>h.looseIn.1 hp);have HM:=O hM;have HW:=O hW;have zb:=O zn;have z6:(d:Int)<(D:Int):=by omega
 have z2:(0:Int)≤(d:Int):=by omega
 clear h hM hW zn;go_in
 go_wp2_with refine bxA (#[.int .i64 (d:Int)]) ?_
 intro b3 w1 H j hb;replace r:=O (r.new (fun _ j=>m.lt j) H j hb);replace m:=O (m.keep j fun _ h=>h.elim);clear H j hb;go_wp2_with fail;refine dwA (dN a dv lv f D) (by kernel_rfl) ?_;intro w2 S q L A I;replace r:=kL r I;replace m:=O (m.keep I fun _ h=>h.elim);clear I;have u:=r;have R:=m;refine tnd 0 (.int .i64 (d:Int)) rfl (.inl ⟨by rfl,fun w' E=>by have c:=aC (i:=0) ((q w' E).blk (u.b 0) ((u.aq 0))) rfl;go_simp⟩) A ?_;refine tna 1 (.pointer a) rfl A ?_;refine tnb 2 (.func (.func 54) #[.pointer a] #[]) rfl A ?_;refine tna 3 (.pointer a) rfl A ?_;refine tnb 4 (.func (.func 146) #[.pointer a] #[]) rfl A ?_;refine tna 5 (.pointer a) rfl A ?_;refine tnd 6 (.int .i64 (d:Int)) rfl (.inl ⟨by rfl,fun w' E=>by have c:=aC (i:=0) ((q w' E).blk (u.b 0) ((u.aq 0))) rfl;go_simp⟩) A ?_;refine tna 8 (.pointer a) rfl A ?_;refine tnd 9 (.int .i64 (d:Int)) rfl (.inl ⟨by rfl,fun w' E=>by have c:=aC (i:=0) ((q w' E).blk (u.b 0) ((u.aq 0))) rfl;go_simp⟩) A ?_;refine tna 11 (.pointer a) rfl A ?_;refine tnb 12 (.func (.func 148) #[.pointer a] #[]) rfl A ?_;refine wA9 7 ?_;go_wp2_with fail;refine(IB w2 a (d:Int)).mono ?_;rintro e w3 hp;obtain⟨p0,p1,rfl,J,K,j⟩:=hp.two;have X:=L.out _ ((q _ A).trans j.any);replace r:=kL r j;replace m:=O (m.keep j fun _ h=>h.elim);clear A j;replace J:=O J;replace K:=O K;go_wp2_with fail;refine⟨X,?_⟩;refine wA9 10 ?_;go_wp2_with fail;refine(qF w3 a (d:Int)).mono ?_;rintro e w4 hp;obtain⟨q0,q1,rfl,U,V,j⟩:=hp.two;have qv:=L.out _ ((q _ X).trans j.any);replace r:=kL r j;replace m:=O (m.keep j fun _ h=>h.elim);replace J:=O (j.blk J.out id);replace K:=O (j.blk K.out id);clear X j;replace U:=O U;replace V:=O V;go_wp2_with fail;refine⟨qv,?_⟩;refine wA9 13 ?_;obtain⟨w5,q5,j,hb,-⟩:=aM w4 #[.func (.func 54) #[.pointer a] #[],.func (.func 146) #[.pointer a] #[],.func (.func 110) #[] #[.pointer p0,.pointer p1],.func (.func 161) #[] #[.pointer q0,.pointer q1],.func (.func 148) #[.pointer a] #[]] 43;obtain⟨zl,H⟩:=zX9 w4.heap.size
 rw[H] at hb;have qw:=L.out _ ((q _ qv).trans j.any);clear qv;replace r:=O (r.new (fun _ j=>m.lt j) H j hb);have qh:=O H;replace m:=O (m.keep j fun _ h=>h.elim);replace J:=O (j.blk J.out id);replace K:=O (j.blk K.out id);replace U:=O (j.blk U.out id);replace V:=O (j.blk V.out id);clear j hb H;go_wp2_with fail;clear q5;rw[qh.out];refine⟨qw,?_⟩;refine wA9 14 ?_;go_wp2_with fail;have qt:=O (r.b 0)
 have HI:Hid (∀k wr,WJ w5 a dv dc D lv k wr->wr.heap[zl]?=some (.cells #[.func (.func 54) #[.pointer a] #[],.func (.func 146) #[.pointer a] #[],.func (.func 110) #[] #[.pointer p0,.pointer p1],.func (.func 161) #[] #[.pointer q0,.pointer q1],.func (.func 148) #[.pointer a] #[]] 43 (0,0))):=O (by
  rintro k wr (⟨-,j⟩|⟨-,j,-⟩)
  ·exact j.blk qt.out id
  ·exact j.blk qt.out (fun e=>(r.aq 0) (.inl e)))
 have q7:Hid (∀k,k<5->k≤5->∃G x,((#[.func (.func 54) #[.pointer a] #[],.func (.func 146) #[.pointer a] #[],.func (.func 110) #[] #[.pointer p0,.pointer p1],.func (.func 161) #[] #[.pointer q0,.pointer q1],.func (.func 148) #[.pointer a] #[]]:Array Value).getD k .nilFunc=.func (.func G) #[] x\/(#[.func (.func 54) #[.pointer a] #[],.func (.func 146) #[.pointer a] #[],.func (.func 110) #[] #[.pointer p0,.pointer p1],.func (.func 161) #[] #[.pointer q0,.pointer q1],.func (.func 148) #[.pointer a] #[]]:Array Value).getD k .nilFunc=.func (.func G) x #[])/\(∀w,Sem.run prog (callFunc G x) w=.ok (.enter G x) w)/\∀wr,WJ w5 a dv dc D lv k wr->Calls prog G x wr fun e w'=>e=.returned (.int .i64 0)/\WJ w5 a dv dc D lv (k+1) w'):=O (by
  intro k j hm
  match k,j,hm with
  | 0,_,_=>exact ckj (by decide) (.inr rfl) (fun w=>by rfl) fun wr k=>Bo (m.keep k fun _ h=>h.elim)
  | 1,_,_=>exact ckj (by decide) (.inr rfl) (fun w=>by rfl) fun wr k=>Ec (m.keep k fun _ h=>h.elim)
  | 2,_,_=>exact ckj (by decide) (.inl rfl) (fun w=>by rfl) fun wr k=>rki (by rw[qr.out];rfl) (Gh (m.keep k fun _ h=>h.elim) (d:Int) p0 p1 (k.blk J.out id) (k.blk K.out id))
  | 3,_,_=>exact ckj (by decide) (.inl rfl) (fun w=>by rfl) fun wr k=>sY (m.keep k fun _ h=>h.elim) hd q0 q1 (k.blk U.out id) (k.blk V.out id)
  | 4,_,_ =>
    refine⟨148,#[.pointer a],.inr rfl,fun w=>by rfl,fun wr hw=>?_⟩;rcases hw with⟨-,k1⟩|⟨e,-⟩
    ·refine(EY (k1.blk m.top id)).mono ?_
     rintro e w' ⟨h1,h2,h3⟩;exact⟨h1,.inr ⟨rfl,k1.trans' h2 (fun _ _ h=>h.elim) (fun _ _ h=>h),h3⟩⟩
    ·exact absurd e (by decide))
 refine(mY w5 (d:Int) zl 5 5 #[.func (.func 54) #[.pointer a] #[],.func (.func 146) #[.pointer a] #[],.func (.func 110) #[] #[.pointer p0,.pointer p1],.func (.func 161) #[] #[.pointer q0,.pointer q1],.func (.func 148) #[.pointer a] #[]] (fun _=>0) (WJ w5 a dv dc D lv) (by decide) (by decide) HI.out (by intro k j;match k,j with
  | 0,_=>rfl
  | 1,_=>rfl
  | 2,_=>rfl
  | 3,_=>rfl
  | 4,_=>rfl) (.inl ⟨by decide,aA.refl _ _⟩) (fun _ _=>rfl) (fun h=>absurd h (by decide)) q7.out).mono ?_
 rintro e w6 ⟨h1,h2,zq⟩;clear q7 qt HI J K U V;obtain rfl:=h1 rfl
 obtain⟨j,T,qp⟩:aA (fun i=>i=a) w5 w6/\∃T,w6.heap[a]?=some (.cells #[.slice dv D dc,lv,.int .i64 (-1),.bool false,.int .i64 T] fO (0,0)):=by
  rcases zq with⟨h6,-⟩|⟨-,h6⟩
  ·exact absurd h6 (by decide)
  ·exact h6
 have qz:aA (dN a dv lv f D) w5 w6:=j.mono fun _ _ e=>.inl e
 have qx:=L.out _ ((q _ qw).trans qz);replace r:=O (r.turn (B:=(dN a dv lv f D)) (B':=(dN a dv lv f D)) qz (fun _ _ h=>h) (fun _ _ h=>h));replace m:=O (m.top2 j qp);clear h1 h2 zq j qz qp qw;go_wp2_with fail;refine⟨qx,?_⟩;refine tna 15 .nilIface rfl qx ?_;refine wpAnyH_done (by kernel_rfl) ?_ _;clear qx q L u R;obtain⟨n,q4⟩:=zX9 W.length
 have HN:=O q4;have zt:Hid (lv=.slice p2 n qc):=O (by rw[←q4];exact zb.out);have zx:W.length<100000000000:=by rw[HW.out];exact hn
 clear q4;have c1:w6.cell? ⟨a,1,none⟩=some (.slice p2 n qc):=(by rw[←zt.out];exact aC (i:=1) m.top rfl)
 go_wp2_with fail;clear c1;have za:=O r.keep.size;have hr:=Rd.of_owns m.loose;rw[zb.out] at hr;have zh:=DN w6 W d p2 qc hr m.wok zx b3 (r.b 1);rw[HN.out] at zh;clear hr;refine(zh).mono ?_;rintro e w7 ⟨yv,nv,rfl,qa,qe,j⟩;replace r:=kL r j;replace m:=O (m.keep j fun _ h=>h.elim);clear j;obtain⟨Y,hY⟩:=zX9 ((W.filter fun x=>decide (x.dev=d)))
 obtain⟨N,hN⟩:=zX9 ((W.filter fun x=>!decide (x.dev=d)))
 rw[hY] at qa;rw[hN] at qe;obtain⟨py,cy,rfl,-,-⟩:=(Rd.of_owns qa).form;obtain⟨pn,cn,rfl,-,-⟩:=(Rd.of_owns qe).form;have zj:=O hY;have qi:=O hN;obtain⟨my,qm⟩:=zX9 Y.length
 obtain⟨mn,ql⟩:=zX9 N.length
 have ze:=O qm;have qu:=O ql;have zw:my≤maxLen:=by obtain⟨_,a',c',h1,h2,h3,-⟩:=Rd.of_owns qa;omega
 unfold maxLen at zw;rw[qm] at qa;rw[ql] at qe;rw[qm,ql];have C:=O qa;have z:=O qe;clear hY hN qm ql qa qe;go_wp2_with fail;obtain⟨B0,z1⟩:=zX9 w7.heap.size
 have zd:=O r.tail
 have zk:Hid (∀y∈Y,y.dev=d/\y.b.length=256/\y.at_<Z):=O (by
  intro y hy;rw[←zj.out,List.mem_filter] at hy;have:=m.wok y hy.1;exact⟨by simpa using hy.2,this.1,this.2.2⟩)
 have q9:=O (show bQ w7 a dv dc lv T f (mZ F d (Y.take 0)) W D Z from by
  have e:mZ F d (Y.take 0)=F:=by funext d' s';unfold mZ;split<;>rfl
  rw[e];exact m.out)
 go_loopw [40] (fun i wr=>∃k:Nat,k≤my/\i=.int .i64 k/\Hid (Loc (dN a dv lv f D) (dN a dv lv f D) w wr [(b3,#[.int .i64 (d:Int)],3)])/\Hid (bQ wr a dv dc lv T f (mZ F d (Y.take k)) W D Z)/\Hid (wr.ownsRow w.heap.size WrT 258 (.slice py my cy) my (dJ Y))/\Hid (wr.ownsRow w.heap.size WrT 258 (.slice pn mn cn) mn (dJ N))) (fun i _=>my-(intOf i).toNat)
 case atStart=>exact⟨0,by omega,rfl,zd,q9,O (aQ C.out za.out),O (aQ z.out za.out)⟩
 case round =>
  clear r m C z zd q9;obtain⟨k,j,rfl,r,m,C,z⟩:=hrel
  by_cases zv:k<my
  ·obtain⟨x,hx⟩:∃x,Y[k]?=some x:=⟨Y[k]'(by rw[ze.out];exact zv),List.getElem?_eq_getElem _⟩
   have qg:=zk.out x (List.mem_of_getElem? hx);have qn:zC D Z Y:=fun y hy=>by have:=zk.out y hy;exact⟨this.2.1,by omega,this.2.2⟩
   obtain⟨g,o,rfl,zm⟩:=OB (by have:=Rd.of_owns C.out;exact this) qn hx;have HX:=O zm;have zu:=O hx;have q3:=lZ qg.2.1;have qf:(x.b.map vb).length=256:=by rw[List.length_map];exact qg.2.1
   have zy:=qg.1;have xa:(x.at_:Int)<(Z:Int):=by omega
   have qq:x.at_<Z:=qg.2.2;have zz:(0:Int)≤(x.at_:Int):=by omega
   have qy:(0:Int)≤(k:Int):=by omega
   have z7:(k:Int)<(my:Int):=by omega
   have qk:(dN a dv lv f D) (f d):=.inr (.inr (.inr ⟨d,hd,rfl⟩))
   have zp:∀i,(Value.slice (some ⟨g,o,none⟩) my cy).ownBlock=some i->¬i=f d:=fun i hi e=>by
    obtain⟨cur,hc⟩:=aH C.out hi;have Q:=m.firm d hd;rw[←e,hc] at Q;simp[WrT,iJ] at Q
   have zo:∀i,(Value.slice pn mn cn).ownBlock=some i->¬i=f d:=fun i hi e=>by
    obtain⟨cur,hc⟩:=aH z.out hi;have Q:=m.firm d hd;rw[←e,hc] at Q;simp[WrT,iJ] at Q
   clear zm hx qg qn
   go_wp2_with (first
    | refine ldM g (o+k*258) (eO x) HX.out qP (by rw[q3];exact kY) ?_
    | refine alA Cq ?_)
   intro b9 w8 H qy qo
   go_wp2_with ((with_reducible show WL _ _);refine stW qo q3 sX (by rw[q3];exact kY) (vA x) ?_)
   intro w9 j hb;replace j:=tX qy j (fun i hi e=>by omega);replace r:=O (r.new (fun _ j=>m.lt j) H j hb);replace HX:=O (j.rangeAt HX.out);replace m:=O (m.keep j fun _ h=>h.elim);replace C:=O (j.owns C.out fun _ _=>id);replace z:=O (j.owns z.out fun _ _=>id);clear H j hb qy qo;clear HX;go_wp2_with fail;go_wp2_with fail;refine dwA (fun k=>k=f d) (by kernel_rfl) ?_;intro wa S q L A I;replace r:=kL r I;replace m:=O (m.keep I fun _ h=>h.elim);replace C:=O (I.owns C.out fun _ _=>id);replace z:=O (I.owns z.out fun _ _=>id);clear I;have u:=r;have R:=m;have zg:=C;have zf:=z;refine tna 0 (.pointer a) rfl A ?_;refine tnb 1 (.pointer a) rfl A ?_;refine tnb 2 (.pointer a) rfl A ?_;refine tnd 3 (.slice dv D dc) rfl (.inl ⟨by rfl,fun w' E=>by have c:=(q w' E).cell (aC (i:=0) R.top rfl) (R.ne.2.1 d hd);go_simp⟩) A ?_;refine tnd 4 (.int .i64 (d:Int)) rfl (.inl ⟨by rfl,fun w' E=>by have c:=aC (i:=0) ((q w' E).blk (u.b 1) (u.nin qk 1)) rfl;go_simp⟩) A ?_;refine tnb 5 (.pointer (some ⟨dv,d*5,none⟩)) rfl A ?_;refine tnb 6 (.pointer (some ⟨dv,d*5,none⟩)) rfl A ?_;refine tnd 7 (.slice (some ⟨f d,0,none⟩) Z Z) rfl (.inl ⟨by rfl,fun w' E=>by have c:=(q w' E).cell (show World.cell? _ ⟨dv,d*5,none⟩=some (.slice (some ⟨f d,0,none⟩) Z Z) from R.dev hd 0 _ rfl) (R.ne3 d hd);go_simp⟩) A ?_;refine tnb 8 (.pointer (some ⟨b9,1,none⟩)) rfl A ?_;refine tnd 9 (.int .i64 (x.at_:Int)) rfl (.inl ⟨by rfl,fun w' E=>by have c:=(aC (i:=1) ((q w' E).blk (u.b 0) (u.nin qk 0)) (by rw[List.getElem?_toArray];rfl));go_simp⟩) A ?_;refine tnb 10 (.pointer (some ⟨b9,2,none⟩)) rfl A ?_;refine tnd 11 (.agg (x.b.map vb).toArray) rfl (yieldsIf_load_mid (by rfl) 146 (.tmp 54) rfl b9 2 rfl (x.b.map vb) _ (fun w' h=>(EV ((q w' h).blk (u.b 0) (u.nin qk 0)))) underlying146 rfl (by rw[qf];exact mA)) A ?_;refine tnb 12 (.pointer (some ⟨f d,x.at_*256,none⟩)) rfl A ?_;refine wA9 13 ?_;refine sta iJ (.tmp 56) (.tmp 55) (f d) (x.at_*256) (x.b.map vb) (m.firm d hd) (by rw[qf,List.size_toArray,xM fun t ht=>m.fok d t hd ht];omega) (by rw[qf];exact mA) (bA _) ?_;intro wb j hb;rw[E2 _ qq x.b (by rw[←List.length_map (f:=vb)];exact qf) fun t ht=>m.fok d t hd ht] at hb;have X:=L.out _ ((q _ A).trans j);have HT:=O (m.turn hd qq (by rw[←List.length_map (f:=vb)];exact qf) j hb);rw[KJ F d (Y.take k) x zy,show Y.take k++[x]=Y.take (k+1) by rw[List.take_add_one,zu.out];rfl] at HT;replace r:=O (r.turn (B:=(dN a dv lv f D)) (B':=(dN a dv lv f D)) (j.mono fun _ _ e=>e▸qk) (fun _ _ h=>h) (fun _ _ h=>h));replace C:=O (j.owns C.out zp);replace z:=O (j.owns z.out zo);clear j hb A;refine wpList_nil ?_;refine⟨X,?_⟩;refine wpAnyH_done (by kernel_rfl) ?_ _;clear X q L u R zg zf;clear m;go_wp2
   go_roundw
   case rel=>exact⟨k+1,by omega,by go_num,O r.tail,HT,C,z⟩
   case measure=>simp[intOf];omega
  ·obtain rfl:my=k:=by omega
   rw[List.take_of_length_le (by rw[ze.out];exact Nat.le_refl _)] at m;have zi:=O m.top
   go_wp2_with ((with_reducible show WL _ _);refine sta 76 (.tmp 61) (.tmp 59) a 1 [.slice pn mn cn] zi.out (by simp) (by kernel_rfl) (one9) ?_)
   intro w9 qd qj;replace qj:w9.heap[a]?=some (.cells #[.slice dv D dc,.slice pn mn cn,.int .i64 (-1),.bool false,.int .i64 T] fO (0,0)):=qj
   have HP:Hid (Bt w a (dN a dv lv f D) D Z M nw d (.returned (.int .i64 0)) w9):=O (by
    have h:=m.out
    have h9:bQ w9 a dv dc (.slice pn mn cn) T f (mZ F d Y) N D Z:=by
     refine⟨qj,?_,?_,h.inj,?_,?_,h.fok,h.bd⟩
     ·exact qd.owns h.devs fun i hi e=>h.ne.1 (by cases hi;exact e.symm)
     ·exact fun e he=>qd.blk (h.firm e he) fun e2=>h.ne.2.1 e he e2.symm
     ·rw[qu.out]
      refine qd.owns (aQ z.out (Nat.zero_le _)) fun i hi e=>?_
      obtain⟨cur,hc⟩:=aH z.out hi;have Q:=h.top;rw[←e,hc] at Q;simp[WrT,fO] at Q
     ·intro y hy
      rw[←qi.out,List.mem_filter] at hy;exact h.wok y hy.1
    refine⟨⟨rfl,dN a dv (.slice pn mn cn) f D,mn,⟨dv,dc,_,T,f,mZ F d Y,N,h9,rfl,qu.out,?_⟩,?_,?_,?_⟩,fun P hp=>h9.looseIn.2 fun x hx=>?_⟩
    ·intro d' s' h1 h2
     rw[←qi.out,←zj.out,Na];exact HM.out d' s' h1 h2
    ·rw[←qu.out,←qi.out,←HW.out]
     exact List.length_filter_le _ _
    ·rintro k (rfl|rfl|j|j)
     ·exact .inl (.inl rfl)
     ·exact .inl (.inr (.inl rfl))
     ·exact .inr (bG z.out j)
     ·exact .inl (.inr (.inr (.inr j)))
    ·exact r.keep.trans (qd.mono fun _ _ e=>.inl e)
    ·rw[←qi.out,List.mem_filter] at hx
     exact⟨zr P hp x hx.1,by simpa using hx.2⟩)
   clear qd qj;go_wp2;go_ret;exact HP.out
theorem IF(h:bE w a B D Z M nw)(e:d<D)(i:nw<100000000000):Calls prog 126 #[.pointer a,.int .i64 (d:Int)] w (C4 w a B D Z M nw):=(Aa h e i).mono fun _ _ h=>h.1
def zB:List UInt8:=List.replicate 256 0
theorem E3(Z:Nat):(madeCells eT.toArray (Z*256)).toList=dK (fun _=>zB) Z:=by
 have t:(dK (fun _=>zB) Z).length=Z*256:=xM fun s u=>rfl
 apply List.ext_getElem?;intro j
 by_cases i:j<Z*256
 ·obtain⟨q,r,rfl,e⟩:∃q r,j=q*256+r/\r<256:=⟨j / 256,j % 256,by omega,by omega⟩
  have m:q<Z:=by omega
  have h:(dK (fun _=>zB) Z)[q*256+r]?=some (.int .u8 0):=gP (c:=fun _=>zB.map vb) (n:=256) (l:=List.range Z) (fun x y=>rfl) (jI m) (by
   have:zB.map vb=List.replicate 256 (.int .u8 0):=by rfl
   rw[this,List.getElem?_replicate,if_pos e])
  rw[h];unfold madeCells;rw[Array.getElem?_toList,Array.getElem?_map,Array.getElem?_range,if_pos i];have o:eT.toArray.size=256:=rfl;show some (eT.toArray[(q*256+r) % eT.toArray.size]!)=_;rw[o,show (q*256+r) % 256=r by omega]
  have:eT.toArray[r]?=some (.int .u8 0):=by
   unfold eT;rw[List.getElem?_toArray,List.getElem?_replicate,if_pos e]
  rw[getElem!_def,this]
 ·rw[List.getElem?_eq_none (by rw[Array.length_toList,size_madeCells];omega),List.getElem?_eq_none (by omega)]
theorem DO(f:Nat->Nat)(Z k g:Nat):gS (fun d=>if d=k then g else f d) Z (k+1)=gS f Z k++[.slice g Z Z,.bool false,.int .u8 0,.int .i64 0,.int .i64 0]:=by
 unfold gS;rw[List.range_succ,List.flatMap_append]
 congr 1
 ·rw[List.flatMap_def,List.flatMap_def]
  congr 1
  refine List.map_congr_left fun d e=>?_
  have:=List.mem_range.1 e;show ([.slice (some ⟨if d=k then g else f d,0,none⟩) Z Z,.bool false,.int .u8 0,.int .i64 0,.int .i64 0]:List Value)=_;rw[if_neg (by omega)];rfl
 ·simp[uZ]
structure NwI(w wr:World)(a k Z:Nat)(p:Option Addr)(c:Nat)(f:Nat->Nat):Prop where
 top:wr.heap[a]?=some (.cells #[.slice p k c,.slice none 0 0,.int .i64 (-1),.bool false,.int .i64 0] fO (0,0))
 own:wr.ownsRow w.heap.size fS 5 (.slice p k c) k (gS f Z k)
 firm:∀d,d<k->wr.heap[f d]?=some (.cells (dK (fun _=>zB) Z).toArray iJ (0,0))
 inj:∀d e,d<k->e<k->f d=f e->d=e
 ge:w.heap.size≤a/\∀d,d<k->w.heap.size≤f d
 keep:aA aB w wr
theorem NwI.next{wr Q:World}{o c2:Nat}{f:Nat->Nat}(h:NwI w wr a k Z p c f)(hg:wr.heap.size=g)(L:aA aB wr Q)(T:Q.heap[g]?=some (.cells (dK (fun _=>zB) Z).toArray iJ (0,0)))(y:aA aB Q we)
 (R:w8.ownsRow w.heap.size fS 5 (.slice o (k+1) c2) (k+1) (gS f Z k++[.slice g Z Z,.bool false,.int .u8 0,.int .i64 0,.int .i64 0])) (z:aA (fun i=>(Value.slice p k c).ownBlock=some i) we w8)
 (hb:(Value.slice o (k+1) c2).ownBlock=(Value.slice p k c).ownBlock\/(Value.slice o (k+1) c2).ownBlock=some we.heap.size)
 (A:aA (fun i=>i=a) w8 w9) (V:w9.heap[a]?=some (.cells #[.slice o (k+1) c2,.slice none 0 0,.int .i64 (-1),.bool false,.int .i64 0] fO (0,0))):NwI w w9 a (k+1) Z o c2 (fun d=>if d=k then g else f d):=by
 have u:∀i,(Value.slice p k c).ownBlock=some i->i≠g/\∀d,d<k->i≠f d:=fun i r=>by
  obtain⟨cur,m⟩:=aH h.own r;refine⟨fun e=>?_,fun d j e=>?_⟩
  ·have:=lt_of_block m;omega
  ·have:=h.firm d j
   rw[←e,m] at this;simp[fS,iJ] at this
 have H:a≠g:=fun e=>by have:=lt_of_block h.top;omega
 have E:∀d,d<k->a≠f d:=fun d j e=>by
  have:=h.firm d j;rw[←e,h.top] at this;simp[fO,iJ] at this
 have J:w9.heap[g]?=some (.cells (dK (fun _=>zB) Z).toArray iJ (0,0)):=A.blk (z.blk (y.blk T id) fun e=>(u g e).1 rfl) fun e=>H e.symm
 have I:∀d,d<k->w9.heap[f d]?=some (.cells (dK (fun _=>zB) Z).toArray iJ (0,0)):=fun d j=>A.blk (z.blk (y.blk (L.blk (h.firm d j) id) id) fun e=>(u _ e).2 d j rfl) fun e=>E d j e.symm
 have K:o≠a:=by
  intro e;obtain⟨cur,m⟩:=aH R (k:=o) rfl
  have S:w8.heap[a]?=some (.cells #[.slice p k c,.slice none 0 0,.int .i64 (-1),.bool false,.int .i64 0] fO (0,0)):=z.blk (y.blk (L.blk h.top id) id) fun q=>by
   obtain⟨cur,m⟩:=aH h.own q;rw[h.top] at m;simp[fO,fS] at m
  rw[e,S] at m;simp[fO,fS] at m
 have t:∀d,d<k->f d<g:=fun d j=>by have:=lt_of_block (h.firm d j);omega
 refine⟨V,?_,?_,?_,⟨h.ge.1,?_⟩,?_⟩
 ·rw[DO]
  exact A.owns R fun i r e=>K (by cases r;exact e)
 ·intro d j
  by_cases e:d=k
  ·rw[if_pos e];exact J
  ·rw[if_neg e];exact I d (by omega)
 ·intro d e j he l
  by_cases C:d=k
  ·by_cases q:e=k
   ·omega
   ·rw[if_pos C,if_neg q] at l
    have:=t e (by omega);omega
  ·by_cases q:e=k
   ·rw[if_neg C,if_pos q] at l
    have:=t d (by omega);omega
   ·rw[if_neg C,if_neg q] at l
    exact h.inj d e (by omega) (by omega) l
 ·intro d j
  by_cases e:d=k
  ·rw[if_pos e];have:=h.keep.size;omega
  ·rw[if_neg e];exact h.ge.2 d (by omega)
 ·have X:=((h.keep.trans L).trans y).trans' z (U:=aB) (fun _ _ h=>h) fun i r e=>by have:=bG h.own e;omega
  exact X.tT A fun i r e=>by have:=h.ge.1;omega
def E4(w:World)(D Z:Nat)(e:Ending)(w':World):Prop:=∃a B,e=.returned (.tuple #[.pointer (some ⟨a,0,none⟩),.int .i64 0])/\bE w' a B D Z (fun _ _=>zB) 0/\(∀k,B k->w.heap.size≤k)/\aA aB w w'
theorem qR:(prog.info? fS).map (fun i=>(i.zero,i.size,i.bytes))=some (some (.agg #[.slice none 0 0,.bool false,.int .u8 0,.int .i64 0,.int .i64 0]),5,48):=by kernel_rfl
theorem Pf:∃i,prog.info? iJ=some i/\i.zero=some (.agg eT.toArray)/\i.size=256/\i.bytes=256:=by
 have h:(prog.info? iJ).map (fun i=>(i.zero,i.size,i.bytes))=some (some (.agg eT.toArray),256,256):=by kernel_rfl
 obtain⟨i,o,m⟩:=Option.map_eq_some_iff.1 h;injection m with j e
 injection e with e l
 exact⟨i,o,j,e,l⟩
theorem E5(g Z:Nat)(w:World):(Instr.build fS #[(0,.slice g Z Z)]).run prog w=.ok (.agg ([.slice g Z Z,.bool false,.int .u8 0,.int .i64 0,.int .i64 0]:List Value).toArray) w:=by kernel_rfl
theorem Nb(w:World):(Instr.build fO #[(2,.int .i64 (-1))]).run prog w=.ok (.agg #[.slice none 0 0,.slice none 0 0,.int .i64 (-1),.bool false,.int .i64 0]) w:=by kernel_rfl
theorem Nc(w:World)(D Z:Nat)(hb:2≤D/\D≤8/\8≤Z/\Z≤4096):Calls prog 23 #[.int .i64 (D:Int),.int .i64 (Z:Int)] w (E4 w D Z):=by
 have qg:=O hb;obtain⟨h1,h2,h3,h4⟩:=hb;have e1:¬((D:Int)<2):=by omega
 have e2:¬(8<(D:Int)):=by omega
 have e3:¬((Z:Int)<8):=by omega
 have e4:¬(4096<(Z:Int)):=by omega
 have HL:=lN w;have qw:=Nb;go_in;obtain⟨w1,qy,qp,qo,qx⟩:=aM w #[.slice none 0 0,.slice none 0 0,.int .i64 (-1),.bool false,.int .i64 0] fO;obtain⟨a,ha⟩:=zX9 w.heap.size
 rw[ha] at qo;have HA:=O ha;have H0:Hid (NwI w w1 a 0 Z none 0 fun _=>0):=O ⟨qo,World.ownsRow_nil _ _ _ _,fun d hd=>absurd hd (by omega),fun d e hd=>absurd hd (by omega),⟨by omega,fun d hd=>absurd hd (by omega)⟩,qp⟩;clear qo qp qx h1 h2 h3 h4;go_wp2_with fail;clear qy qw e1 e2 e3 e4
 try rw[ha]
 clear ha
 go_loopw [24] (fun i wr=>∃(k:Nat) (p:Option Addr) (c:Nat) (f:Nat->Nat),k≤D/\i=.int .i64 k/\Hid (NwI w wr a k Z p c f)) (fun i _=>D-(intOf i).toNat)
 case atStart=>exact⟨0,none,0,fun _=>0,by omega,rfl,H0⟩
 case round =>
  clear H0;obtain⟨k,p,c,f,hk,rfl,HI⟩:=hrel
  by_cases q4:k<D
  ·have q0:=qg.2.1
   have q1:=qg.2.2.2;have q3:(0:Int)≤(k:Int):=by omega
   have qp:(k:Int)<(D:Int):=by omega
   go_wp2_with fail;obtain⟨S,qr⟩:∃S:World->Prop,S=fun _=>True:=⟨_,rfl⟩
   have o:Hid (∀w,S w):=O (fun w=>by rw[qr];trivial);clear qr;refine wp_region_held (S:=S) (by kernel_rfl) ?_;change wpAnyH _ _ _ _ _ _ _ _ wr.drew;have U:=(aA.refl aB wr).drew;have hS:=o.out wr.drew;generalize wr.drew=wd at U hS ⊢;have q:Hid (NwI w wd a k Z p c f):=O ⟨U.blk HI.top id,U.owns HI.own fun _ _=>id,fun d hd=>U.blk (HI.firm d hd) id,HI.inj,HI.ge,HI.keep.trans U⟩;clear U HI;obtain⟨g,hg⟩:=zX9 wd.heap.size
   have HG:=O hg;clear hg;refine tna 0 (.pointer (some ⟨a,0,none⟩)) rfl hS ?_;refine tna 1 (.pointer (some ⟨a,0,none⟩)) rfl hS ?_;refine tnb 2 (.pointer (some ⟨a,0,none⟩)) rfl hS ?_;refine tnb 3 (.pointer (some ⟨a,0,none⟩)) rfl hS ?_;refine tna 5 (.int .i64 (Z:Int)) rfl hS ?_;obtain⟨i,hi,qt,qu,qv⟩:=Pf;refine kT (k:=4) (l:=6) rfl rfl (by kernel_rfl) ?_ ?_
   ·have c0:wd.cell? ⟨a,0,none⟩=some (.slice p k c):=aC q.top rfl
    go_wp2_with fail;refine⟨o _,?_⟩;clear c0;refine wA9 6 ?_;refine wpList_make_full wd rfl (.tmp 31) (.tmp 31) 104 rfl 0 iJ i _ 256 underlying104 hi qt qu .i64 .i64 (Z:Int) (Z:Int) Z rfl rfl rfl rfl (by rw[qv];omega) (by unfold maxLen;omega) (Nat.zero_le _) ?_;intro wm Q qe;have m:=aA.of_grown qe;replace m:aA aB wd wm:=m.mono fun _ _ h=>by cases h
    rw[HG.out] at Q ⊢
    have qd:wm.heap[g]?=some (.cells (dK (fun _=>zB) Z).toArray iJ (0,0)):=by
     rcases Q.2 with⟨e,-⟩|⟨g',qq,cur,e,-,hb,h1,h2,h3,h4⟩
     ·cases e
     ·cases e
      have:cur.toList=dK (fun _=>zB) Z:=by
       rw[←E3];rw[List.take_of_length_le (by rw[Array.length_toList,h3];exact Nat.le_refl _)] at h4;exact h4
      rw[←this];exact hb
    have J:=O m;have qh:=O qd;have qm:=O (m.blk q.top id);have qn:=O (m.owns q.own fun _ _=>id);clear Q qe m qd;refine wpList_nil ?_;refine⟨o _,?_⟩;refine tnd 7 (.agg ([.slice (some ⟨g,0,none⟩) Z Z,.bool false,.int .u8 0,.int .i64 0,.int .i64 0]:List Value).toArray) rfl (lO fS #[(0,.tmp 32)] [(0,.slice (some ⟨g,0,none⟩) Z Z)] _ (E5 g Z)) (o _) ?_;obtain⟨dc,t⟩:=zX9 (([.slice (some ⟨g,0,none⟩) Z Z,.bool false,.int .u8 0,.int .i64 0,.int .i64 0]:List Value))
    rw[t];have qi:=O t;have T:dc.length=5:=by rw[←t];rfl
    have qk:Hid (∀u∈dc,u.oneCell'=true):=O (by rw[←t];intro u hu;simp only[List.mem_cons,List.not_mem_nil,or_false] at hu;rcases hu with rfl|rfl|rfl|rfl|rfl<;>rfl);obtain⟨we,R,z,L,-⟩:=aM wm dc.toArray fS;obtain⟨bx,A⟩:=zX9 wm.heap.size
    rw[A] at L;have ql:Hid (Rd we 5 (.slice bx 1 1) 1 dc):=O (eL (n:=1) (size:=5) L (by rw[T]) (by unfold maxLen;omega));have qj:=O z;have C:=O (z.blk qm.out id);have K:=O (z.owns qn.out fun _ _=>id);have qz:=z.size;clear L z t;refine wA9 8 ?_;refine bX rfl 75 fS (.tmp 33) rfl underlying75 qR (by decide) dc T (by decide) rfl ?_;rw[R,A];clear R A;refine wpList_nil ?_;refine⟨o _,?_⟩;have r:w.heap.size≤we.heap.size:=by have h1:=q.keep.size;have h2:=J.size;omega
    refine wA9 9 ?_;refine aK rfl (.tmp 30) (.tmp 34) 75 rfl w.heap.size fS _ 5 48 underlying75 qR rfl (by decide) (.slice p k c) k (gS f Z k) rfl K.out (.slice bx 1 1) 1 dc rfl ql.out qk.out (by unfold maxLen;omega) (by omega) r ?_;intro v' w8 j y qf E;obtain⟨g2,c2,rfl⟩:=ownsRow_succ j
    have qc:=O (y.blk C.out fun e=>by
     obtain⟨cur,hc⟩:=aH K.out e;rw[C.out] at hc;simp[fO,fS] at hc)
    rw[←qi.out] at j;have qa:=O j;have X:=O y;have V:=O E;clear j y qf E;refine wpList_nil ?_;refine⟨o _,?_⟩;refine tnb 10 (.pointer (some ⟨a,0,none⟩)) rfl (o _) ?_;refine tnb 11 (.pointer (some ⟨a,0,none⟩)) rfl (o _) ?_;refine wA9 12 ?_;refine sta 75 (.tmp 37) (.tmp 35) a 0 [.slice g2 (k+1) c2] qc.out (by simp) (by kernel_rfl) (one9) ?_;intro w9 I H;have HN:=O (q.next HG.out J.out qh.out qj.out qa.out X.out V.out I H);clear I H;refine wpList_nil ?_;refine⟨o _,?_⟩;refine wpAnyH_done (by kernel_rfl) ?_ _;clear o;go_wp2
    go_roundw
    case rel=>exact⟨k+1,_,_,_,by omega,by go_num,HN⟩
    case measure=>simp[intOf];omega
   ·refine wpList_make_full wd rfl (.tmp 31) (.tmp 31) 104 rfl 0 iJ i _ 256 underlying104 hi qt qu .i64 .i64 (Z:Int) (Z:Int) Z rfl rfl rfl rfl (by rw[qv];omega) (by unfold maxLen;omega) (Nat.zero_le _) ?_
    intro wm Q qe;have m:=aA.of_grown qe;replace m:aA aB wd wm:=m.mono fun _ _ h=>by cases h
    rw[HG.out] at Q ⊢
    have qd:wm.heap[g]?=some (.cells (dK (fun _=>zB) Z).toArray iJ (0,0)):=by
     rcases Q.2 with⟨e,-⟩|⟨g',qq,cur,e,-,hb,h1,h2,h3,h4⟩
     ·cases e
     ·cases e
      have:cur.toList=dK (fun _=>zB) Z:=by
       rw[←E3];rw[List.take_of_length_le (by rw[Array.length_toList,h3];exact Nat.le_refl _)] at h4;exact h4
      rw[←this];exact hb
    have J:=O m;have qh:=O qd;have qm:=O (m.blk q.top id);have qn:=O (m.owns q.own fun _ _=>id);clear Q qe m qd;refine wpList_nil ?_;refine⟨o _,?_⟩;refine tnd 7 (.agg ([.slice (some ⟨g,0,none⟩) Z Z,.bool false,.int .u8 0,.int .i64 0,.int .i64 0]:List Value).toArray) rfl (lO fS #[(0,.tmp 32)] [(0,.slice (some ⟨g,0,none⟩) Z Z)] _ (E5 g Z)) (o _) ?_;obtain⟨dc,t⟩:=zX9 (([.slice (some ⟨g,0,none⟩) Z Z,.bool false,.int .u8 0,.int .i64 0,.int .i64 0]:List Value))
    rw[t];have qi:=O t;have T:dc.length=5:=by rw[←t];rfl
    have qk:Hid (∀u∈dc,u.oneCell'=true):=O (by rw[←t];intro u hu;simp only[List.mem_cons,List.not_mem_nil,or_false] at hu;rcases hu with rfl|rfl|rfl|rfl|rfl<;>rfl);obtain⟨we,R,z,L,-⟩:=aM wm dc.toArray fS;obtain⟨bx,A⟩:=zX9 wm.heap.size
    rw[A] at L;have ql:Hid (Rd we 5 (.slice bx 1 1) 1 dc):=O (eL (n:=1) (size:=5) L (by rw[T]) (by unfold maxLen;omega));have qj:=O z;have C:=O (z.blk qm.out id);have K:=O (z.owns qn.out fun _ _=>id);have qz:=z.size;clear L z t;refine kT (k:=4) (l:=8) rfl rfl (by kernel_rfl) ?_ ?_
    ·have c0:wm.cell? ⟨a,0,none⟩=some (.slice p k c):=aC qm.out rfl
     go_wp2_with fail;refine⟨o _,?_⟩;clear c0;refine wA9 8 ?_;refine bX rfl 75 fS (.tmp 33) rfl underlying75 qR (by decide) dc T (by decide) rfl ?_;rw[R,A];clear R A;refine wpList_nil ?_;refine⟨o _,?_⟩;have r:w.heap.size≤we.heap.size:=by have h1:=q.keep.size;have h2:=J.size;omega
     refine wA9 9 ?_;refine aK rfl (.tmp 30) (.tmp 34) 75 rfl w.heap.size fS _ 5 48 underlying75 qR rfl (by decide) (.slice p k c) k (gS f Z k) rfl K.out (.slice bx 1 1) 1 dc rfl ql.out qk.out (by unfold maxLen;omega) (by omega) r ?_;intro v' w8 j y qf E;obtain⟨g2,c2,rfl⟩:=ownsRow_succ j
     have qc:=O (y.blk C.out fun e=>by
      obtain⟨cur,hc⟩:=aH K.out e;rw[C.out] at hc;simp[fO,fS] at hc)
     rw[←qi.out] at j;have qa:=O j;have X:=O y;have V:=O E;clear j y qf E;refine wpList_nil ?_;refine⟨o _,?_⟩;refine tnb 10 (.pointer (some ⟨a,0,none⟩)) rfl (o _) ?_;refine tnb 11 (.pointer (some ⟨a,0,none⟩)) rfl (o _) ?_;refine wA9 12 ?_;refine sta 75 (.tmp 37) (.tmp 35) a 0 [.slice g2 (k+1) c2] qc.out (by simp) (by kernel_rfl) (one9) ?_;intro w9 I H;have HN:=O (q.next HG.out J.out qh.out qj.out qa.out X.out V.out I H);clear I H;refine wpList_nil ?_;refine⟨o _,?_⟩;refine wpAnyH_done (by kernel_rfl) ?_ _;clear o;go_wp2
     go_roundw
     case rel=>exact⟨k+1,_,_,_,by omega,by go_num,HN⟩
     case measure=>simp[intOf];omega
    ·refine bX rfl 75 fS (.tmp 33) rfl underlying75 qR (by decide) dc T (by decide) rfl ?_
     rw[R,A];clear R A;refine wpList_nil ?_;refine⟨o _,?_⟩;refine wA9 4 ?_;have c0:we.cell? ⟨a,0,none⟩=some (.slice p k c):=aC C.out rfl;go_wp2_with fail;refine⟨o _,?_⟩;clear c0;have r:w.heap.size≤we.heap.size:=by have h1:=q.keep.size;have h2:=J.size;omega
     refine wA9 9 ?_;refine aK rfl (.tmp 30) (.tmp 34) 75 rfl w.heap.size fS _ 5 48 underlying75 qR rfl (by decide) (.slice p k c) k (gS f Z k) rfl K.out (.slice bx 1 1) 1 dc rfl ql.out qk.out (by unfold maxLen;omega) (by omega) r ?_;intro v' w8 j y qf E;obtain⟨g2,c2,rfl⟩:=ownsRow_succ j
     have qc:=O (y.blk C.out fun e=>by
      obtain⟨cur,hc⟩:=aH K.out e;rw[C.out] at hc;simp[fO,fS] at hc)
     rw[←qi.out] at j;have qa:=O j;have X:=O y;have V:=O E;clear j y qf E;refine wpList_nil ?_;refine⟨o _,?_⟩;refine tnb 10 (.pointer (some ⟨a,0,none⟩)) rfl (o _) ?_;refine tnb 11 (.pointer (some ⟨a,0,none⟩)) rfl (o _) ?_;refine wA9 12 ?_;refine sta 75 (.tmp 37) (.tmp 35) a 0 [.slice g2 (k+1) c2] qc.out (by simp) (by kernel_rfl) (one9) ?_;intro w9 I H;have HN:=O (q.next HG.out J.out qh.out qj.out qa.out X.out V.out I H);clear I H;refine wpList_nil ?_;refine⟨o _,?_⟩;refine wpAnyH_done (by kernel_rfl) ?_ _;clear o;go_wp2
     go_roundw
     case rel=>exact⟨k+1,_,_,_,by omega,by go_num,HN⟩
     case measure=>simp[intOf];omega
  ·obtain rfl:D=k:=by omega
   have HP:Hid (E4 w D Z (.returned (.tuple #[.pointer (some ⟨a,0,none⟩),.int .i64 0])) wr):=O (by
    have h:=HI.out
    have hp:∃dv,p=some ⟨dv,0,none⟩:=by
     rcases h.own.2 with⟨-,e⟩|⟨g,qq,cur,e,-⟩
     ·have:=qg.1;omega
     ·cases e;exact⟨_,rfl⟩
    obtain⟨dv,rfl⟩:=hp;refine⟨a,dN a dv (.slice none 0 0) f D,rfl,⟨dv,c,.slice none 0 0,0,f,fun _ _=>zB,[],⟨h.top,aQ h.own (Nat.zero_le _),h.firm,h.inj,World.ownsRow_nil _ _ _ _,(fun x hx=>by cases hx),fun _ _ _ _=>rfl,qg.out⟩,rfl,rfl,fun _ _ _ _=>rfl⟩,?_,h.keep⟩;rintro k (rfl|rfl|hk|⟨d,hd,rfl⟩)
    ·exact h.ge.1
    ·exact bG h.own (k:=k) rfl
    ·cases hk
    ·exact h.ge.2 d hd)
   clear HI;go_wp2
   go_ret2
   exact HP.out
variable {w:World}{a dv dc D Z:Nat}{lv:Value}{st:Int}{f:Nat->Nat}{F:Nat->Nat->List UInt8}{W:List Lw}
theorem bQ.devc(h:bQ w a dv dc lv st f F W D Z)(q:d<D){j:Nat}(r:(uZ f Z d)[j]?=some v):∃cur,w.heap[dv]?=some (.cells cur fS (0,0))/\cur[d*5+j]?=some v:=by
 rcases h.devs.2 with⟨e,-⟩|⟨g,l,cur,e,-,o,t,u,y,m⟩
 ·cases e
 ·cases e
  refine⟨cur,o,?_⟩;have i:(gS f Z D)[d*5+j]?=some v:=gP (c:=uZ f Z) (n:=5) (fun x _=>rfl) (jI q) r;rw[←m,List.getElem?_take] at i;split at i
  ·rwa [Array.getElem?_toList] at i
  ·cases i
theorem stE{P:Program}{i:Array Oper}{rest:List Oper}{op:Oper}{a:Act}{Q:Exit->Act->World->Prop}(T:TypeId)(x y:Operand)(b o:Nat)(v:Value)(r:∃cs t,w.heap[b]?=some (.cells cs t (0,0))/\cs[o]?=some v)(q:v.oneCell'=true)
 (h:∀w',aA aB w w'->wpList P i Q rest (a.put op.dst undef) w') (A:(P.info? T).map (·.size)=some 1:=by kernel_rfl) (E:a.eval x=.pointer (some ⟨b,o,none⟩):=by rfl) (H:(a.eval y).cells=[v].toArray:=by rfl) (z:op.guard=none:=by rfl) (C:op.op=.store T x y:=by rfl):wpList P i Q (op::rest) a w:=by
 obtain⟨cs,t,j,m⟩:=r;refine sta T x y b o [v] j (Array.getElem?_eq_some_iff.1 m).1 A (fun u l=>by rw[List.mem_singleton] at l;rw[l];exact q) (fun w' k e=>h w' ?_) E H z C;rw[EZ _ _ _ m] at e;exact k.same (e.trans j.symm)
theorem JC(w:World)(p:Nat)(h:w.heap[p]?=some (.cells #[.int .i64 0] 3 (0,0))):Calls prog 89 #[.pointer p] w (aN w (.int .i64 0)):=by
 have m:=O h;have c1:w.cell? ⟨p,0,none⟩=some (.int .i64 0):=aC (i:=0) h rfl;have l:=lN w;clear h;go_in;go_wp2_with fail;refine(jJ w true 2).mono ?_;rintro e o ⟨rfl,j⟩;go_wp2;go_ret;exact aN.of j
def L6(w:World)(a:Nat)(B:Nat->Prop)(D Z:Nat)(M:Nat->Nat->List UInt8)(e:Ending)(w':World):Prop:=
 e=.returned (.int .i64 0)/\∃h,bE w' a h D Z M 0/\(∀k,h k->B k)/\aA B w w'
theorem JD(h:bE w a B D Z M 0):Calls prog 35 #[.pointer a,.slice none 0 0,.int .i64 0] w (L6 w a B D Z M):=by
 obtain⟨dv,dc,lv,st,f,F,W,h,rfl,hW,hM⟩:=h;obtain rfl:W=[]:=List.length_eq_zero_iff.1 hW;obtain⟨p2,C,rfl⟩:=h.lv;have q:=lN w;have l:=O h;have HM:=O hM;clear h hM hW;go_in
 go_wp2_with refine bxM q (#[.int .i64 0]) ?_
 intro T w1 m q;replace l:=O (l.keep m fun _ h=>h.elim);clear m;obtain⟨w2,J,m,hb,-⟩:=aM w1 #[.func (.func 54) #[.pointer a] #[],.func (.func 89) #[] #[.pointer T]] 43;obtain⟨qc,y⟩:=zX9 w1.heap.size
 rw[y] at hb;replace q:=lW q y m hb;have t:=O y;replace l:=O (l.keep m fun _ h=>h.elim);clear m hb y;go_wp2_with fail;clear J;rw[t.out];have R:=O (q.b 0)
 have Q:Hid (∀k,k<2->k≤2->∃G x,((#[.func (.func 54) #[.pointer a] #[],.func (.func 89) #[] #[.pointer T]]:Array Value).getD k .nilFunc=.func (.func G) #[] x\/(#[.func (.func 54) #[.pointer a] #[],.func (.func 89) #[] #[.pointer T]]:Array Value).getD k .nilFunc=.func (.func G) x #[])/\(∀w,Sem.run prog (callFunc G x) w=.ok (.enter G x) w)/\∀wr,aA aB w2 wr->Calls prog G x wr fun e w'=>e=.returned (.int .i64 0)/\aA aB w2 w'):=O (by
  intro k m hm
  match k,m,hm with
  | 0,_,_=>exact ckc (.inr rfl) (fun w=>by rfl) fun wr k=>Bo (l.keep k fun _ h=>h.elim)
  | 1,_,_=>exact ckc (.inl rfl) (fun w=>by rfl) fun wr k=>JC wr T (k.blk (q.b 1) id))
 refine(mY w2 (-1) qc 2 2 #[.func (.func 54) #[.pointer a] #[],.func (.func 89) #[] #[.pointer T]] (fun _=>0) (fun _ wr=>aA aB w2 wr) (by decide) (by decide) (fun k wr m=>m.blk R.out id) (by intro k m;match k,m with
  | 0,_=>rfl
  | 1,_=>rfl) (aA.refl _ _) (fun _ _=>rfl) (fun h=>absurd h (by decide)) Q.out).mono ?_
 rintro e w3 ⟨L,U,m⟩;clear Q R;obtain rfl:=L rfl;clear L U;replace q:=kL q m;replace l:=O (l.keep m fun _ h=>h.elim);clear m;have c1:w3.cell? ⟨a,1,none⟩=some (.slice p2 0 C):=(aC (i:=1) l.top rfl)
 go_wp2_with fail;clear c1;have S:=O q.keep;clear q
 go_loopw [28] (fun i wr=>i=.int .i64 0/\wr=w3) (fun _ _=>0)
 case atStart=>exact⟨rfl,rfl⟩
 case round =>
  obtain⟨rfl,qd⟩:=hrel;subst qd
  go_wp2_with ((with_reducible show WL _ _);refine sta 76 (.tmp 75) (.const (.slice none 0 0)) a 1 [.slice none 0 0] l.top (by simp) (by kernel_rfl) (one9) ?_)
  intro wa z u;replace u:wa.heap[a]?=some (.cells #[.slice dv D dc,.slice none 0 0,.int .i64 (-1),.bool false,.int .i64 st] fO (0,0)):=u;have r:Hid (bQ wa a dv dc (.slice none 0 0) st f F [] D Z):=O ⟨u,z.owns l.devs fun i hi e=>l.ne.1 (by cases hi;exact e.symm),fun d hd=>z.blk (l.firm d hd) fun e=>l.ne.2.1 d hd e.symm,l.inj,World.ownsRow_nil _ _ _ _,(fun x hx=>by cases hx),l.fok,l.bd⟩;have o:Hid (aA (dN a dv (.slice p2 0 C) f D) w wa):=O (S.any.trans (z.mono fun _ _ e=>.inl e));have qa:=O l.bd;clear z u l S
  go_wp2_with ((with_reducible show WL _ _);refine stE 4 (.tmp 77) (.const (.bool false)) a 3 (.bool false) ⟨_,_,r.top,rfl⟩ rfl ?_)
  intro wb E;replace r:=O (r.keep E fun _ h=>h.elim);replace o:=O (o.trans E.any);clear E
  go_wp2_with ((with_reducible show WL _ _);refine stE 3 (.tmp 79) (.const (.int .i64 (-1))) a 2 (.int .i64 (-1)) ⟨_,_,r.top,rfl⟩ rfl ?_)
  intro wc H;replace r:=O (r.keep H fun _ h=>h.elim);replace o:=O (o.trans H.any);clear H;have c1:wc.cell? ⟨a,0,none⟩=some (.slice dv D dc):=(aC (i:=0) r.top rfl)
  go_wp2_with fail;clear c1;have qe:=qa.out
  go_loopw [12,13,85] (fun _ _ i wr=>∃k:Nat,k≤D/\i=.int .i64 (k:Int)/\Hid (aA aB wc wr)) (fun _ _ i _=>D-(intOf i).toNat)
  case atStart=>exact⟨0,by omega,rfl,O (aA.refl _ _)⟩
  case round =>
   obtain⟨k,m,rfl,A⟩:=hrel
   by_cases V:k<D
   ·have qf:(0:Int)≤(k:Int):=by omega
    have qg:(k:Int)<(D:Int):=by omega
    have K:=O (r.keep A.out fun _ h=>h.elim);have c1:wr.cell? ⟨a,0,none⟩=some (.slice dv D dc):=(aC (i:=0) K.top rfl)
    go_wp2_with ((with_reducible show WL _ _);refine stE 105 (.tmp 97) (.const (.int .u8 0)) dv (k*5+2) (.int .u8 0) (by obtain⟨cur,L,U⟩:=K.devc V (j:=2) rfl;exact⟨_,_,L,U⟩) rfl ?_)
    clear c1;intro wd I;replace K:=O (K.keep I fun _ h=>h.elim);replace A:=O (A.trans I);clear I
    go_wp2_with ((with_reducible show WL _ _);refine stE 3 (.tmp 99) (.const (.int .i64 0)) dv (k*5+4) (.int .i64 0) (by obtain⟨cur,L,U⟩:=K.devc V (j:=4) rfl;exact⟨_,_,L,U⟩) rfl ?_)
    intro we X;replace A:=O (A.trans X);clear X K;go_wp2
    go_roundw
    case rel=>exact⟨k+1,by omega,by go_num,A⟩
    case measure=>simp[intOf];omega
   ·obtain rfl:k=D:=by omega
    go_wp2;go_ret;refine⟨rfl,dN a dv (.slice none 0 0) f k,⟨dv,dc,_,st,f,F,[],r.keep A.out (fun _ h=>h.elim),rfl,rfl,HM.out⟩,?_,o.trans A.any⟩;rintro i (e|e|e|e)
    ·exact .inl e
    ·exact .inr (.inl e)
    ·cases e
    ·exact .inr (.inr (.inr e))
end
end Go.Proofs.YtoeinblfcbpcmaaGreatDoor
