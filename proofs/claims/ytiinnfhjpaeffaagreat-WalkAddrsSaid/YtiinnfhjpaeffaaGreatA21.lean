import Derived.Test.YtiinnfhjpaeffaaGreatA1
import Derived.Test.YtiinnfhjpaeffaaGreatA20
import Derived.Stop.Asserts
import Derived.LaidEql
import Derived.Lib.IfaceEq
namespace Go.Proofs.YtiinnfhjpaeffaaGreat
set_option maxHeartbeats 64000000
set_option maxRecDepth 100000
set_option linter.unusedVariables false
section
open Go.RowKit Go.Maps Go.ChangeMaps
variable{w' w we w8 w9 wr:World}{b k d G D Z nw n s c g:Nat}{W Y N:List Lw}{x:Lw}{v yv nv:Value}{cs:List Value}{M:Nat->Nat->List UInt8}{B:Nat->Prop}{p:Option Addr}
theorem IV(v:Value)(w:World):(Extern.ReflectliteType.typeOf #[.iface 49 v]).run Tryz.prog w=.ok (.iface 345 (.agg #[.pointer (some ⟨0,49,none⟩)])) w:=by kernel_rfl
theorem B5(w : World) : ((Extern.ReflectliteType.method fun t => do Extern.Rtype.noPackHeld "Comparable" t; (fun a => Value.bool a.comparable) <$> typeInfo t) #[.agg #[.pointer (some ⟨0, 49, none⟩)]]).run Tryz.prog w = .ok (.bool true) w := by kernel_rfl
theorem tM(v : Value)(w : World) : (Go.method 505 345 v "Comparable").run Tryz.prog w = .ok (298, v) w := by kernel_rfl
theorem zI(v : Value)(w : World) : (Go.method 505 265 v "Unwrap").run Tryz.prog w = .ok (292, v) w := by kernel_rfl
theorem Ol(v:Value)(e:TypeId)(w:World):(Instr.typeAssert (.iface 265 v) e 347 true).run Tryz.prog w=.ok (.tuple #[.nilIface,.bool false]) w:=run_typeAssert_lacksB Tryz.underlying347 (by kernel_rfl) (by kernel_rfl) v e w
theorem Gu(v:Value)(e:TypeId)(w:World):(Instr.typeAssert (.iface 265 v) e 350 true).run Tryz.prog w=.ok (.tuple #[.iface 265 v,.bool true]) w:=run_typeAssert_hasB Tryz.underlying350 (by kernel_rfl) v e w
theorem Om(v:Value)(e:TypeId)(w:World):(Instr.typeAssert (.iface 49 v) e 347 true).run Tryz.prog w=.ok (.tuple #[.nilIface,.bool false]) w:=run_typeAssert_lacksB Tryz.underlying347 (by kernel_rfl) (by kernel_rfl) v e w
theorem IW(v:Value)(e:TypeId)(w:World):(Instr.typeAssert (.iface 49 v) e 350 true).run Tryz.prog w=.ok (.tuple #[.nilIface,.bool false]) w:=run_typeAssert_lacksB Tryz.underlying350 (by kernel_rfl) (by kernel_rfl) v e w
theorem Gv(v:Value)(e:TypeId)(w:World):(Instr.typeAssert (.iface 49 v) e 352 true).run Tryz.prog w=.ok (.tuple #[.nilIface,.bool false]) w:=run_typeAssert_lacksB Tryz.underlying352 (by kernel_rfl) (by kernel_rfl) v e w
theorem EB(w:World)(c d:Int):Calls Tryz.prog 292 #[.agg #[.int .i64 c,.int .i64 d]] w (aN w (.iface 49 (.int .i64 c))):=by
 obtain⟨l,j,h,e,-⟩:=aS w #[.int .i64 c,.int .i64 d] 265;have c0:l.cell? ⟨w.heap.size,0,none⟩=some (.int .i64 c):=aC e rfl;have i:=O h;clear h e;go_in;go_wp2;go_ret;exact aN.of i.out
theorem MC(w:World)(c d t:Int):Calls Tryz.prog 229 #[.iface 265 (.agg #[.int .i64 c,.int .i64 d]),.iface 49 (.int .i64 t),.bool true] w (aN w (.bool (decide (c=t)))):=by
 obtain⟨bb,h⟩:∃b,decide (c=t)=b:=⟨_,rfl⟩
 have i:=O h;rw[h];clear h;have r:=Ol;have u:=Gu;have q:=zI;have j:=run_eql_iface_types (P:=Tryz.prog) 265 49 (.agg #[.int .i64 c,.int .i64 d]) (.int .i64 t) Tryz.underlying203 (by decide) w;go_in
 go_wp2
 refine wp_loop_rounds 2 ?_;rw[rounds_succ];go_wp2_with fail;refine(EB w c d).mono ?_;rintro e l ⟨rfl,m⟩;have o:=O m;clear m j r u q;have y:=Om;have z:=IW;have A:=Gv
 have j:(binOp .eql 203 (.iface 49 (.int .i64 c)) (.iface 49 (.int .i64 t))).run Tryz.prog l=.ok (.bool bb) l:=by
  have:=Go.Lib.run_eql_iface_int (P:=Tryz.prog) (k:=.i64) l c t Tryz.underlying203 (by kernel_rfl) Tryz.underlying49;rw[this,←i.out]
  congr 2
 clear i;cases bb
 all_goals
  go_wp2_with fail;rw[rounds_succ];go_wp2;go_ret;exact aN.of o.out
theorem AG(w:World)(c d t:Int):Calls Tryz.prog 189 #[.iface 265 (.agg #[.int .i64 c,.int .i64 d]),.iface 49 (.int .i64 t)] w (aN w (.bool (decide (c=t)))):=by
 have H:=O (MC w c d t);have m:=@run_callFunc_extern Tryz.prog 228 _ Extern.ReflectliteType.typeOf Tryz.func228 (by kernel_rfl) (by kernel_rfl) (by kernel_rfl) (by kernel_rfl);have j := @run_callFunc_extern Tryz.prog 298 _ (Extern.ReflectliteType.method fun t => do Extern.Rtype.noPackHeld "Comparable" t; pure (.bool (← typeInfo t).comparable)) Tryz.func298 (by kernel_rfl) (by kernel_rfl) (by kernel_rfl) (by kernel_rfl);have q:=IV;have l:=B5;have o:=tM;go_in;go_wp2_with fail;refine H.mono ?_;rintro e w' ⟨rfl,h⟩;have i:=O h;clear h;go_wp2;go_ret;exact aN.of i.out
theorem Df(w:World)(d:Int):Calls Tryz.prog 136 #[.iface 265 (.agg #[.int .i64 5,.int .i64 d])] w (aN w (.int .i64 5)):=by
 have m:∀w,(Instr.index 266 (.agg #[.int .i64 1,.int .i64 10,.int .i64 5,.int .i64 2,.int .i64 14,.int .i64 13]) (.int .i64 0)).run Tryz.prog w=.ok (.int .i64 1) w:=fun w=>by kernel_rfl
 have o:∀w,(Instr.index 266 (.agg #[.int .i64 1,.int .i64 10,.int .i64 5,.int .i64 2,.int .i64 14,.int .i64 13]) (.int .i64 1)).run Tryz.prog w=.ok (.int .i64 10) w:=fun w=>by kernel_rfl
 have q:∀w,(Instr.index 266 (.agg #[.int .i64 1,.int .i64 10,.int .i64 5,.int .i64 2,.int .i64 14,.int .i64 13]) (.int .i64 2)).run Tryz.prog w=.ok (.int .i64 5) w:=fun w=>by kernel_rfl
 go_in;go_wp2_with fail;refine wp_loop_rounds 3 ?_;rw[rounds_succ];go_wp2_with fail;refine(AG w 5 d 1).mono ?_;rintro e r ⟨rfl,h⟩;go_wp2_with fail;rw[rounds_succ];go_wp2_with fail;refine(AG r 5 d 10).mono ?_;rintro e t ⟨rfl,i⟩;go_wp2_with fail;rw[rounds_succ];go_wp2_with fail;refine(AG t 5 d 5).mono ?_;rintro e u ⟨rfl,j⟩;have l:=O ((h.trans i).trans j);clear h i j;go_wp2;go_ret;exact aN.of l.out
variable {w:World}{a dv dc D Z:Nat}{lv:Value}{st:Int}{f:Nat->Nat}{F:Nat->Nat->List UInt8}{W:List Lw}
theorem MD(h:bU w a dv dc lv st f F W D Z):Calls Tryz.prog 115 #[.pointer a,.int .i64 (-1),.int .i64 0] w (aN w (.tuple #[.slice none 0 0,.int .i64 5])):=by
 have J:mN (-1) 0 D Z=false:=by unfold mN;simp
 replace J:=O J;have u:=lN w;have t:=O h;clear h;go_in
 go_wp2_with ((with_reducible show WL _ _);refine bxL u 40 (.tmp 0) (#[.pointer a]) ?_)
 intro X w1 j u;replace t:=O (t.keep j fun _ h=>h.elim);clear j
 go_wp2_with ((with_reducible show WL _ _);refine bxL u 3 (.tmp 1) (#[.int .i64 (-1)]) ?_)
 intro b4 w2 j u;replace t:=O (t.keep j fun _ h=>h.elim);clear j;go_wp2_with fail;refine dwA aB (by kernel_rfl) ?_;intro w3 S m E C R;replace u:=kL u R;replace t:=O (t.keep R fun _ h=>h.elim);clear R;have y:=u;have HHs:=t;refine tnd 0 (.int .i64 (-1)) rfl (.inl ⟨by rfl,fun w' l=>by have c:=aC (i:=0) ((m.out w' l).blk (y.b 0) id) rfl;go_simp⟩) C ?_;refine tnd 1 (.pointer a) rfl (.inl ⟨by rfl,fun w' l=>by have c:=aC (i:=0) ((m.out w' l).blk (y.b 1) id) rfl;go_simp⟩) C ?_;refine tnb 2 (.func (.func 131) #[.pointer a] #[]) rfl C ?_;refine tnd 3 (.pointer a) rfl (.inl ⟨by rfl,fun w' l=>by have c:=aC (i:=0) ((m.out w' l).blk (y.b 1) id) rfl;go_simp⟩) C ?_;refine tnb 4 (.func (.func 132) #[.pointer a] #[]) rfl C ?_;refine tnd 5 (.pointer a) rfl (.inl ⟨by rfl,fun w' l=>by have c:=aC (i:=0) ((m.out w' l).blk (y.b 1) id) rfl;go_simp⟩) C ?_;refine tnd 6 (.int .i64 (-1)) rfl (.inl ⟨by rfl,fun w' l=>by have c:=aC (i:=0) ((m.out w' l).blk (y.b 0) id) rfl;go_simp⟩) C ?_;refine tna 7 (.int .i64 0) rfl C ?_;refine tnd 9 (.pointer a) rfl (.inl ⟨by rfl,fun w' l=>by have c:=aC (i:=0) ((m.out w' l).blk (y.b 1) id) rfl;go_simp⟩) C ?_;refine tnd 10 (.int .i64 (-1)) rfl (.inl ⟨by rfl,fun w' l=>by have c:=aC (i:=0) ((m.out w' l).blk (y.b 0) id) rfl;go_simp⟩) C ?_;refine tnb 12 (.func (.func 166) #[] #[.pointer X,.pointer b4]) rfl C ?_;refine wA9 8 ?_;go_wp2_with fail;refine(uV w3 a (-1) 0).mono ?_;rintro e w4 hp;obtain⟨p0,p1,p2,rfl,o,q,r,j⟩:=hp.three;have K:=E.out _ ((m.out _ C).trans j);replace u:=kL u j;replace t:=O (t.keep j fun _ h=>h.elim);clear C j;replace o:=O o;replace q:=O q;replace r:=O r;go_wp2_with fail;refine⟨K,?_⟩;refine wA9 11 ?_;go_wp2_with fail;refine(oV w4 a (-1)).mono ?_;rintro e w5 hp;obtain⟨q0,q1,rfl,z,A,j⟩:=hp.two;have L:=E.out _ ((m.out _ K).trans j);replace u:=kL u j;replace t:=O (t.keep j fun _ h=>h.elim);replace o:=O (j.blk o.out id);replace q:=O (j.blk q.out id);replace r:=O (j.blk r.out id);clear K j;replace z:=O z;replace A:=O A;go_wp2_with fail;refine⟨L,?_⟩;refine wA9 13 ?_;obtain⟨w6,T,j,hb,-⟩:=aS w5 #[.func (.func 131) #[.pointer a] #[],.func (.func 132) #[.pointer a] #[],.func (.func 199) #[] #[.pointer p0,.pointer p1,.pointer p2],.func (.func 188) #[] #[.pointer q0,.pointer q1],.func (.func 166) #[] #[.pointer X,.pointer b4]] 113;obtain⟨b22,I⟩:∃b,w5.heap.size=b:=⟨_,rfl⟩
 rw[I] at hb;have P:=E.out _ ((m.out _ L).trans j);clear L;replace u:=lW u I j hb;have H:=O I;replace t:=O (t.keep j fun _ h=>h.elim);replace o:=O (j.blk o.out id);replace q:=O (j.blk q.out id);replace r:=O (j.blk r.out id);replace z:=O (j.blk z.out id);replace A:=O (j.blk A.out id);clear j hb I;go_wp2_with fail;clear T;rw[H.out];refine⟨P,?_⟩;refine wA9 14 ?_;go_wp2_with fail;have V:=O (u.b 0)
 have U:Hid (∀k,k<5->k≤2->∃G x,((#[.func (.func 131) #[.pointer a] #[],.func (.func 132) #[.pointer a] #[],.func (.func 199) #[] #[.pointer p0,.pointer p1,.pointer p2],.func (.func 188) #[] #[.pointer q0,.pointer q1],.func (.func 166) #[] #[.pointer X,.pointer b4]]:Array Value).getD k .nilFunc=.func (.func G) #[] x\/(#[.func (.func 131) #[.pointer a] #[],.func (.func 132) #[.pointer a] #[],.func (.func 199) #[] #[.pointer p0,.pointer p1,.pointer p2],.func (.func 188) #[] #[.pointer q0,.pointer q1],.func (.func 166) #[] #[.pointer X,.pointer b4]]:Array Value).getD k .nilFunc=.func (.func G) x #[])/\(∀w,Sem.run Tryz.prog (callFunc G x) w=.ok (.enter G x) w)/\∀wr,aA aB w6 wr->Calls Tryz.prog G x wr fun e w'=>e=.returned (.int .i64 (if k=2 then 5 else 0))/\aA aB w6 w'):=O (by
  intro k j hm
  match k,j,hm with
  | 0,_,_=>exact ckc (.inr rfl) (fun w=>by rfl) fun wr k=>Co (t.keep k fun _ h=>h.elim)
  | 1,_,_=>exact ckc (.inr rfl) (fun w=>by rfl) fun wr k=>Cp (t.keep k fun _ h=>h.elim)
  | 2,_,_=>exact ckc (.inl rfl) (fun w=>by rfl) fun wr k=>rki (by rw[J.out];rfl) (sQ (t.keep k fun _ h=>h.elim) (-1) 0 p0 p1 p2 (k.blk o.out id) (k.blk q.out id) (k.blk r.out id)))
 refine(oU w6 (-1) b22 5 2 #[.func (.func 131) #[.pointer a] #[],.func (.func 132) #[.pointer a] #[],.func (.func 199) #[] #[.pointer p0,.pointer p1,.pointer p2],.func (.func 188) #[] #[.pointer q0,.pointer q1],.func (.func 166) #[] #[.pointer X,.pointer b4]] (fun k=>if k=2 then 5 else 0) (fun _ wr=>aA aB w6 wr) (by decide) (by decide) (fun k wr j=>j.blk V.out id) (by intro k j;match k,j with
  | 0,_=>rfl
  | 1,_=>rfl
  | 2,_=>rfl
  | 3,_=>rfl
  | 4,_=>rfl) (aA.refl _ _) (by intro k j;match k,j with
  | 0,_=>rfl
  | 1,_=>rfl) (by decide) U.out).mono ?_
 rintro e w7 ⟨h1,h2,j⟩;clear U V;obtain rfl:=h2 (by decide);clear h1 h2;have Q:=E.out _ ((m.out _ P).trans j);replace u:=kL u j;replace t:=O (t.keep j fun _ h=>h.elim);replace o:=O (j.blk o.out id);replace q:=O (j.blk q.out id);replace r:=O (j.blk r.out id);replace z:=O (j.blk z.out id);replace A:=O (j.blk A.out id);clear P j;go_wp2_with fail;refine⟨Q,?_⟩;refine tna 15 (.iface 265 (.agg #[.int .i64 5,.int .i64 (-1)])) rfl Q ?_;refine wpAnyH_done (by kernel_rfl) ?_ _;clear Q m E y HHs;go_wp2_with fail;refine(Df w7 (-1)).mono ?_;rintro e w8 ⟨rfl,j⟩;replace u:=kL u j;replace t:=O (t.keep j fun _ h=>h.elim);replace o:=O (j.blk o.out id);replace q:=O (j.blk q.out id);replace r:=O (j.blk r.out id);replace z:=O (j.blk z.out id);replace A:=O (j.blk A.out id);clear j;go_wp2
 go_ret2
 exact⟨rfl,u.keep⟩
variable {w:World}{a dv dc D Z:Nat}{lv:Value}{st:Int}{f:Nat->Nat}{F:Nat->Nat->List UInt8}{W:List Lw}
theorem bU.ne(h:bU w a dv dc lv st f F W D Z):a≠dv/\(∀d,d<D->a≠f d)/\∀k,lv.ownBlock=some k->a≠k:=by
 have i:=h.top;refine⟨?_,?_,?_⟩
 ·rintro rfl
  obtain⟨cur,e⟩:=aO h.devs (k:=a) rfl;rw[i] at e;simp[fB,fL] at e
 ·rintro d j rfl
  have e:=h.firm d j;rw[i] at e;simp[fB,gW] at e
 ·rintro k l rfl
  obtain⟨cur,e⟩:=aO h.loose l;rw[i] at e;simp[fB,WrT] at e
theorem bU.ne2(h:bU w a dv dc lv st f F W D Z):∀k,lv.ownBlock=some k->k≠dv/\∀d,d<D->k≠f d:=by
 intro k m;obtain⟨cur,j⟩:=aO h.loose m;refine⟨?_,?_⟩
 ·rintro rfl
  obtain⟨i,e⟩:=aO h.devs (k:=k) rfl;rw[j] at e;simp[WrT,fL] at e
 ·rintro d l rfl
  have e:=h.firm d l;rw[j] at e;simp[WrT,gW] at e
theorem bU.top2(h:bU w a dv dc lv st f F W D Z){j:Int}(k:aA (fun i=>i=a) w w')(o:w'.heap[a]?=some (.cells #[.slice dv D dc,lv,.int .i64 (-1),.bool false,.int .i64 j] fB (0,0))):bU w' a dv dc lv j f F W D Z:=by
 obtain⟨q,r,t⟩:=h.ne;exact⟨o,k.owns h.devs fun i l e=>q (by cases l;exact e.symm),fun d m=>k.blk (h.firm d m) fun e=>r d m e.symm,h.inj,k.owns h.loose fun i l e=>t i l e.symm,h.wok,h.fok,h.bd⟩
theorem NM(l:List Value)(n:Nat)(h:l.length=n):l=(List.range n).map fun i=>l.getD i undef:=by
 subst h;apply List.ext_getElem?;intro i;rw[List.getElem?_map]
 by_cases e:i<l.length
 ·rw[List.getElem?_range e,List.getElem?_eq_getElem e]
  simp[List.getD,List.getElem?_eq_getElem e]
 ·rw[List.getElem?_eq_none (by omega),List.getElem?_eq_none (by simp;omega)];rfl
theorem KJ(g:Nat->Value)(x y:Int):Tryz.prog.built 212 [(0,.int .i64 x),(1,.int .i64 y),(2,.agg ((List.range 256).map g).toArray)]=some (.int .i64 x::.int .i64 y::(List.range 256).map g).toArray:=by kernel_rfl
theorem ME(bs:List Value)(e:bs.length=256)(x y:Int)(w:World):(Instr.build 212 #[(0,.int .i64 x),(1,.int .i64 y),(2,.agg bs.toArray)]).run Tryz.prog w=.ok (.agg (.int .i64 x::.int .i64 y::bs).toArray) w:=by
 refine run_build w 212 _ _ ?_;rw[NM bs 256 e];exact KJ _ x y
theorem IX(g o c:Nat)(w:World):(Instr.arrayAt 210 (.slice (some ⟨g,o,none⟩) 256 c)).run Tryz.prog w=.ok (.pointer (some ⟨g,o,none⟩)) w:=by kernel_rfl
theorem oA:(Tryz.prog.info? 212).map (fun i=>(i.zero,i.size,i.bytes))=some (some (.agg gB.toArray),258,272):=by kernel_rfl
def Dg(w:World)(a dv dc D:Nat)(lv:Value)(e:Ending)(w':World):Prop:=e=.returned (.int .i64 0)/\aA (fun k=>k=a) w w'/\∃h,w'.heap[a]?=some (.cells #[.slice dv D dc,lv,.int .i64 (-1),.bool false,.int .i64 h] fB (0,0))
theorem Dh(e:w.heap[a]?=some (.cells #[.slice dv D dc,lv,.int .i64 (-1),.bool false,.int .i64 st] fB (0,0))):Calls Tryz.prog 135 #[.pointer a] w (Dg w a dv dc D lv):=by
 have c2:=aC (i:=2) e rfl;have c4:=aC (i:=4) e rfl;have o:=O e;obtain⟨s2,h⟩:∃s,IntKind.i64.wrap (st+1)=s:=⟨_,rfl⟩
 clear e;go_in
 go_wp2_with ((with_reducible show WL _ _);refine sta 3 (.tmp 29) (.tmp 27) a 4 [.int .i64 s2] o.out (by simp) (by kernel_rfl) (one9) ?_ (hy:=by rw[←h];rfl))
 intro q l j;have m:Hid (Dg w a dv dc D lv (.returned (.int .i64 0)) q):=O ⟨rfl,l,s2,j⟩;clear l j;go_wp2;go_ret;exact m.out
theorem aA.same(k:aA (fun i=>i=b) w w')(h:w'.heap[b]?=w.heap[b]?):aA aB w w':=
 ⟨k.os,k.tape,k.output,k.size,fun i j _=>by
  by_cases e:i=b
  ·rw[e];exact h
  ·exact k.block i j e⟩
theorem KK(cs:Array Value)(o:Nat)(v:Value)(h:cs[o]?=some v):spl cs o [v]=cs:=by
 show cs.setIfInBounds o v=cs;apply Array.ext_getElem?;intro j;rw[Array.getElem?_setIfInBounds];split
 ·rename_i e
  subst e;obtain⟨i,l⟩:=Array.getElem?_eq_some_iff.1 h;rw[if_pos i,h]
 ·rfl
theorem KL(w:World)(m:Int)(e:m=1\/m=2):Calls Tryz.prog 201 #[.int .u8 0,.int .u8 m] w (aN w (.bool false)):=by
 rcases e with rfl|rfl
 all_goals
  go_in;go_wp2;go_ret;exact aN.of (aA.refl _ _)
theorem Di(w:World)(b o:Nat)(m:Int)(t:m=1\/m=2)(fs:Array Value)(h:w.heap[b]?=some (.cells fs fL (0,0)))(l:fs[o]?=some (.int .u8 0)):Calls Tryz.prog 149 #[.pointer (some ⟨b,o,none⟩),.int .u8 m] w (aN w (.bool false)):=by
 have c0:=aC h l;have y:=O h;have z:=O l;have r:o<fs.size:=(Array.getElem?_eq_some_iff.1 l).1;have u:=O (KL w m t);have C:bits .andNot .u8 0 m=0:=by rcases t with rfl|rfl<;>decide +kernel
 clear h l t;go_in;go_wp2_with fail;refine u.mono ?_;rintro e E ⟨rfl,i⟩;have c1:=i.cell c0 id;have j:=O (i.blk y.out id);have A:=O i;clear i c0 u
 go_wp2_with ((with_reducible show WL _ _);refine sta 145 (.tmp 16) (.tmp 15) b o [.int .u8 0] j.out r (by kernel_rfl) (one9) ?_ (hy:=by first|rfl|(show Value.cells (.int .u8 (bits .andNot .u8 0 m))=_;rw[C];rfl)))
 intro H i h;rw[KK _ _ _ z.out] at h;have q:=O (A.trans (i.same (h.trans j.symm)));clear i h c1;go_wp2;go_ret;exact aN.of q.out
theorem bU.lt(h:bU w a dv dc lv st f F W D Z)(i:dX a dv lv f D k):k<w.heap.size:=by
 rcases i with rfl|rfl|i|⟨d,j,rfl⟩
 ·exact lt_of_block h.top
 ·obtain⟨cur,e⟩:=aO h.devs (k:=k) rfl
  exact lt_of_block e
 ·obtain⟨cur,e⟩:=aO h.loose i
  exact lt_of_block e
 ·exact lt_of_block (h.firm d j)
theorem bU.next(h:bU w a dv dc lv st f F W D Z)(q:d<D):∃cur,w.heap[dv]?=some (.cells cur fL (0,0))/\cur[d*5+2]?=some (.int .u8 0):=by
 rcases h.devs.2 with⟨e,-⟩|⟨g,l,cur,e,-,o,r,t,u,m⟩
 ·cases e
 ·cases e
  refine⟨cur,o,?_⟩;have:=gA (c:=zG f Z) (n:=5) (fun x _=>rfl) (iO q) (j:=2) (v:=.int .u8 0) rfl;have i:(gV f Z D)[d*5+2]?=some (.int .u8 0):=this;rw[←m,List.getElem?_take] at i;split at i
  ·rwa [Array.getElem?_toList] at i
  ·cases i
def WI(W:World)(a dv dc D:Nat)(lv:Value)(k:Nat)(wr:World):Prop:=(k≤5/\aA aB W wr)\/(k=6/\aA (fun i=>i=a) W wr/\∃e,wr.heap[a]?=some (.cells #[.slice dv D dc,lv,.int .i64 (-1),.bool false,.int .i64 e] fB (0,0)))
theorem ckw{W:World}(q:k≤4){x:Array Value}(m:v=.func (.func G) #[] x\/v=.func (.func G) x #[])(l:∀w,Sem.run Tryz.prog (callFunc G x) w=.ok (.enter G x) w)(j:∀wr,aA aB W wr->Calls Tryz.prog G x wr (aN wr (.int .i64 0))) :
 ∃G x,(v=.func (.func G) #[] x\/v=.func (.func G) x #[])/\(∀w,Sem.run Tryz.prog (callFunc G x) w=.ok (.enter G x) w)/\∀wr,WI W a dv dc D lv k wr->Calls Tryz.prog G x wr fun e w'=>e=.returned (.int .i64 0)/\WI W a dv dc D lv (k+1) w':=
 ⟨G,x,m,l,fun wr o=>by
  rcases o with⟨-,i⟩|⟨e,-⟩
  ·exact(j wr i).mono fun e w' h=>⟨h.1,.inl ⟨by omega,i.trans h.2⟩⟩
  ·omega⟩
def jP(w:World)(a:Nat)(B:Nat->Prop)(D Z:Nat)(M:Nat->Nat->List UInt8)(nw d s:Nat)(b:List UInt8)(e:Ending)(w':World):Prop:=
 e=.returned (.int .i64 0)/\∃h,bR w' a h D Z (fV M d s b) (nw+1)/\(∀k,h k->B k\/w.heap.size≤k)/\aA B w w'
theorem aA.rangeAt2{S:Nat->Prop}(h:aA S w w'){o:Nat}(i:w.rangeAt b o cs)(e:¬S b):w'.rangeAt b o cs:=fun j v l=>h.cell (i j v l) e
theorem KM{F:Nat->Nat->List UInt8}(o:∀d s,d<D->s<Z->M d s=eB W d s (F d s))(d s:Nat)(b:List UInt8):∀i j,i<D->j<Z->fV M d s b i j=eB (W++[⟨d,s,b⟩]) i j (F i j):=by
 intro i j l m;rw[oT];unfold fV
 by_cases e:i=d/\j=s
 ·rw[if_pos e,if_pos ⟨e.1.symm,e.2.symm⟩]
 ·rw[if_neg e,if_neg (fun h=>e ⟨h.1.symm,h.2.symm⟩),o i j l m]
theorem zJ{w0:World}{o j l:Nat}{C:Option Addr}{b:List UInt8}{bs:List Value}(h:bU w a dv dc lv st f F W D Z)(E:aA aB w we)(R:aA (fun k=>(Value.slice C n l).ownBlock=some k) we w8)(m:lv=.slice C n l)(hn:W.length=n)
 (ho:w8.ownsRow 0 WrT 258 (.slice o (n+1) j) (n+1) (dF W++cs)) (H:(Value.slice o (n+1) j).ownBlock=(Value.slice C n l).ownBlock\/(Value.slice o (n+1) j).ownBlock=some we.heap.size)
 (S:aA (fun k=>k=a) w8 w9) (I:w9.heap[a]?=some (.cells #[.slice dv D dc,(.slice o (n+1) j),.int .i64 (-1),.bool false,.int .i64 st] fB (0,0))) (hd:d<D) (hs:s<Z) (J:b.length=256) (L:(.int .i64 (d:Int)::.int .i64 (s:Int)::bs:List Value)=cs) (K:b.map vb=bs)
 (hM:∀d s,d<D->s<Z->M d s=eB W d s (F d s)) (hW:W.length=nw) (V:aA (dX a dv lv f D) w0 w):jP w0 a (dX a dv lv f D) D Z M nw d s b (.returned (.int .i64 0)) w9:=by
 have T:∀k,(dX a dv lv f D) k->k≠a->¬(Value.slice C n l).ownBlock=some k->w9.heap[k]?=w.heap[k]?:=fun k u h1 h2=>by
  have U:=h.lt u;have z:=Nat.lt_of_lt_of_le U E.size;rw[S.block k (Nat.lt_of_lt_of_le z R.size) h1,R.block k z h2,E.block k U id]
 have t:(Value.slice C n l).ownBlock=some o\/w.heap.size≤o:=by
  rcases H with e|e
  ·exact .inl e.symm
  ·right;cases e;exact E.size
 have P:a≠o:=by
  rcases t with e|e
  ·exact h.ne.2.2 o (by rw[m];exact e)
  ·have:=h.lt (.inl rfl:(dX a dv lv f D) a);omega
 refine⟨rfl,dX a dv (.slice o (n+1) j) f D,⟨dv,dc,_,st,f,F,W++[⟨d,s,b⟩],⟨I,?_,?_,h.inj,?_,?_,h.fok,h.bd⟩,rfl,by rw[List.length_append,hW];rfl,KM hM d s b⟩,?_,?_⟩
 ·rcases h.devs.2 with⟨e,-⟩|⟨gg,X,cur,e,Q,hx,hr⟩
  ·cases e
  ·cases e
   refine⟨h.devs.1,.inr ⟨dv,dc,cur,rfl,Q,?_,hr⟩⟩;rw[T dv (.inr (.inl rfl)) (fun e=>h.ne.1 e.symm) (fun e=>(h.ne2 dv (by rw[m];exact e)).1 rfl)];exact hx
 ·intro r q
  rw[T (f r) (.inr (.inr (.inr ⟨r,q,rfl⟩))) (fun e=>h.ne.2.1 r q e.symm) (fun e=>(h.ne2 _ (by rw[m];exact e)).2 r q rfl)];exact h.firm r q
 ·have:=S.owns ho (fun i hi e=>by cases hi;exact P e.symm)
  rw[List.length_append,hn]
  have e:dF (W++[⟨d,s,b⟩])=dF W++cs:=by
   unfold dF;rw[List.flatMap_append,←L,←K];simp[eA]
  rw[e];exact this
 ·intro y A
  rcases List.mem_append.1 A with A|A
  ·exact h.wok y A
  ·rw[List.mem_singleton.1 A];exact⟨J,hd,hs⟩
 ·rintro k (rfl|rfl|u|u)
  ·exact .inl (.inl rfl)
  ·exact .inl (.inr (.inl rfl))
  ·cases u
   rcases t with e|e
   ·exact .inl (.inr (.inr (.inl (by rw[m];exact e))))
   ·exact .inr (Nat.le_trans V.size e)
  ·exact .inl (.inr (.inr (.inr u)))
 ·have ka:aA (dX a dv lv f D) w we:=E.any
  have kb:aA (dX a dv lv f D) we w8:=R.mono fun k _ e=>.inr (.inr (.inl (by rw[m];exact e)))
  have kc:aA (dX a dv lv f D) w8 w9:=S.mono fun k _ e=>.inl e
  exact((V.trans ka).trans kb).trans kc
theorem oW(h:bR w a B D Z M nw)(hd:d<D)(hs:s<Z)(b:List UInt8)(hbl:b.length=256)(v:Value)(hr:Rd w 1 v 256 (b.map vb))(hv:∀k,v.ownBlock=some k->¬B k)(hn:nw<100000000000) :
 Calls Tryz.prog 103 #[.pointer a,.int .i64 (d:Int),.int .i64 (s:Int),v] w (jP w a B D Z M nw d s b):=by
 obtain⟨dv,dc,lv,st,f,F,W,h,rfl,hW,hM⟩:=h
 obtain⟨g,o,c,rfl,hat⟩:∃g o c,v=.slice (some ⟨g,o,none⟩) 256 c/\w.rangeAt g o (b.map vb):=by
  obtain⟨h1,a',c',rfl,-,-,-,h4⟩:=hr;obtain⟨g,o,rfl,hc⟩:=h4 (by rw[h1];decide);exact⟨g,o,c',rfl,hc⟩
 have hg:¬(dX a dv lv f D) g:=hv g rfl;have r:=O (Loc.nil (dX a dv lv f D) (dX a dv lv f D) w);have m:=O h;have I:=O hat;have HSB:mN d s D Z=true:=by unfold mN;simp only[Bool.and_eq_true,decide_eq_true_eq];omega
 replace HSB:=O HSB;obtain⟨bs,q⟩:∃l,b.map vb=l:=⟨_,rfl⟩
 have hbn:bs.length=256:=by rw[←q,List.length_map,hbl]
 have HO:Hid (∀u∈bs,u.oneCell'=true):=O (by rw[←q];exact bS _);rw[q] at I;have HBS:=O q;have HM:=O hM;have HW:=O hW;have hd2:(d:Int)<(D:Int):=by omega
 have hd0:(0:Int)≤(d:Int):=by omega
 clear h hr hv hat q hM hW;go_in
 go_wp2_with ((with_reducible show WL _ _);refine bx 109 (.tmp 3) (#[.slice (some ⟨g,o,none⟩) 256 c]) ?_)
 intro b7 w1 q j hb;replace r:=O (r.new (fun _ j=>m.lt j) q j hb);replace m:=O (m.keep j fun _ h=>h.elim);replace I:=O (j.rangeAt I.out);clear q j hb;go_wp2_with fail;refine(uV w1 a (d:Int) (s:Int)).mono ?_;rintro e w2 hp;obtain⟨p0,p1,p2,rfl,J,K,L,j⟩:=hp.three;replace r:=kL r j;replace m:=O (m.keep j fun _ h=>h.elim);replace I:=O (j.rangeAt I.out);clear j;replace J:=O J;replace K:=O K;replace L:=O L;go_wp2_with fail;refine(oV w2 a (d:Int)).mono ?_;rintro e w3 hp;obtain⟨q0,q1,rfl,HQ0,HQ1,j⟩:=hp.two;replace r:=kL r j;replace m:=O (m.keep j fun _ h=>h.elim);replace I:=O (j.rangeAt I.out);replace J:=O (j.blk J.out id);replace K:=O (j.blk K.out id);replace L:=O (j.blk L.out id);clear j;replace HQ0:=O HQ0;replace HQ1:=O HQ1;obtain⟨w4,hw_w4,j,hb,-⟩:=aS w3 #[.func (.func 131) #[.pointer a] #[],.func (.func 132) #[.pointer a] #[],.func (.func 199) #[] #[.pointer p0,.pointer p1,.pointer p2],.func (.func 146) #[] #[.pointer b7],.func (.func 188) #[] #[.pointer q0,.pointer q1],.func (.func 135) #[.pointer a] #[]] 113;obtain⟨b28,q⟩:∃b,w3.heap.size=b:=⟨_,rfl⟩
 rw[q] at hb;replace r:=O (r.new (fun _ j=>m.lt j) q j hb);have HBSb28:=O q;replace m:=O (m.keep j fun _ h=>h.elim);replace I:=O (j.rangeAt I.out);replace J:=O (j.blk J.out id);replace K:=O (j.blk K.out id);replace L:=O (j.blk L.out id);replace HQ0:=O (j.blk HQ0.out id);replace HQ1:=O (j.blk HQ1.out id);clear j hb q;go_wp2_with fail;clear hw_w4;rw[HBSb28.out];have HFB:=O (r.b 0)
 have HI:Hid (∀k wr,WI w4 a dv dc D lv k wr->wr.heap[b28]?=some (.cells #[.func (.func 131) #[.pointer a] #[],.func (.func 132) #[.pointer a] #[],.func (.func 199) #[] #[.pointer p0,.pointer p1,.pointer p2],.func (.func 146) #[] #[.pointer b7],.func (.func 188) #[] #[.pointer q0,.pointer q1],.func (.func 135) #[.pointer a] #[]] 113 (0,0))):=O (by
  rintro k wr (⟨-,j⟩|⟨-,j,-⟩)
  ·exact j.blk HFB.out id
  ·exact j.blk HFB.out (fun e=>(r.aq 0) (.inl e)))
 have HCK:Hid (∀k,k<6->k≤6->∃G x,((#[.func (.func 131) #[.pointer a] #[],.func (.func 132) #[.pointer a] #[],.func (.func 199) #[] #[.pointer p0,.pointer p1,.pointer p2],.func (.func 146) #[] #[.pointer b7],.func (.func 188) #[] #[.pointer q0,.pointer q1],.func (.func 135) #[.pointer a] #[]]:Array Value).getD k .nilFunc=.func (.func G) #[] x\/(#[.func (.func 131) #[.pointer a] #[],.func (.func 132) #[.pointer a] #[],.func (.func 199) #[] #[.pointer p0,.pointer p1,.pointer p2],.func (.func 146) #[] #[.pointer b7],.func (.func 188) #[] #[.pointer q0,.pointer q1],.func (.func 135) #[.pointer a] #[]]:Array Value).getD k .nilFunc=.func (.func G) x #[])/\(∀w,Sem.run Tryz.prog (callFunc G x) w=.ok (.enter G x) w)/\∀wr,WI w4 a dv dc D lv k wr->Calls Tryz.prog G x wr fun e w'=>e=.returned (.int .i64 0)/\WI w4 a dv dc D lv (k+1) w'):=O (by
  intro k j hm
  match k,j,hm with
  | 0,_,_=>exact ckw (by decide) (.inr rfl) (fun w=>by rfl) fun wr k=>Co (m.keep k fun _ h=>h.elim)
  | 1,_,_=>exact ckw (by decide) (.inr rfl) (fun w=>by rfl) fun wr k=>Cp (m.keep k fun _ h=>h.elim)
  | 2,_,_=>exact ckw (by decide) (.inl rfl) (fun w=>by rfl) fun wr k=>rki (by rw[HSB.out];rfl) (sQ (m.keep k fun _ h=>h.elim) (d:Int) (s:Int) p0 p1 p2 (k.blk J.out id) (k.blk K.out id) (k.blk L.out id))
  | 3,_,_=>exact ckw (by decide) (.inl rfl) (fun w=>by rfl) fun wr k=>IT wr b7 256 c _ (k.blk (r.b 1) id)
  | 4,_,_=>exact ckw (by decide) (.inl rfl) (fun w=>by rfl) fun wr k=>rA (m.keep k fun _ h=>h.elim) hd q0 q1 (k.blk HQ0.out id) (k.blk HQ1.out id)
  | 5,_,_ =>
    refine⟨135,#[.pointer a],.inr rfl,fun w=>by rfl,fun wr hw=>?_⟩;rcases hw with⟨-,k1⟩|⟨e,-⟩
    ·refine(Dh (k1.blk m.top id)).mono ?_
     rintro e w' ⟨h1,h2,h3⟩;exact⟨h1,.inr ⟨rfl,k1.trans' h2 (fun _ _ h=>h.elim) (fun _ _ h=>h),h3⟩⟩
    ·exact absurd e (by decide))
 refine(oU w4 (d:Int) b28 6 6 #[.func (.func 131) #[.pointer a] #[],.func (.func 132) #[.pointer a] #[],.func (.func 199) #[] #[.pointer p0,.pointer p1,.pointer p2],.func (.func 146) #[] #[.pointer b7],.func (.func 188) #[] #[.pointer q0,.pointer q1],.func (.func 135) #[.pointer a] #[]] (fun _=>0) (WI w4 a dv dc D lv) (by decide) (by decide) HI.out (by intro k j;match k,j with
  | 0,_=>rfl
  | 1,_=>rfl
  | 2,_=>rfl
  | 3,_=>rfl
  | 4,_=>rfl
  | 5,_=>rfl) (.inl ⟨by decide,aA.refl _ _⟩) (fun _ _=>rfl) (fun h=>absurd h (by decide)) HCK.out).mono ?_
 rintro e w5 ⟨h1,h2,hwi⟩;clear HCK HFB HI J K L HQ0 HQ1;obtain rfl:=h1 rfl
 obtain⟨j,st',htop⟩:aA (fun i=>i=a) w4 w5/\∃st',w5.heap[a]?=some (.cells #[.slice dv D dc,lv,.int .i64 (-1),.bool false,.int .i64 st'] fB (0,0)):=by
  rcases hwi with⟨h6,-⟩|⟨-,h6⟩
  ·exact absurd h6 (by decide)
  ·exact h6
 clear h1 h2 hwi;replace r:=O (r.turn (B:=(dX a dv lv f D)) (B':=(dX a dv lv f D)) (j.mono fun _ _ e=>.inl e) (fun _ _ h=>h) (fun _ _ h=>h));replace I:=O (j.rangeAt2 I.out fun e=>hg (.inl e));replace m:=O (m.top2 j htop);clear j htop;have c1:w5.cell? ⟨a,0,none⟩=some (.slice dv D dc):=(aC (i:=0) m.top rfl)
 go_wp2_with fail;clear c1;obtain⟨cur,E,C⟩:=m.next hd;replace E:=O E;replace C:=O C;refine(Di w5 dv (d*5+2) 1 (by decide) cur E.out C.out).mono ?_;rintro e w6 ⟨rfl,j⟩;replace r:=kL r j;replace m:=O (m.keep j fun _ h=>h.elim);replace I:=O (j.rangeAt I.out);clear j;clear E C cur;go_wp2_with fail;obtain⟨cur,E,C⟩:=m.next hd;replace E:=O E;replace C:=O C;refine(Di w6 dv (d*5+2) 2 (by decide) cur E.out C.out).mono ?_;rintro e w7 ⟨rfl,j⟩;replace r:=kL r j;replace m:=O (m.keep j fun _ h=>h.elim);replace I:=O (j.rangeAt I.out);clear j;clear E C cur;go_wp2_with fail;obtain⟨p2,y,hlv⟩:=m.lv;obtain⟨n,hn_⟩:∃n,W.length=n:=⟨_,rfl⟩
 have HN:=O hn_;rw[hn_] at hlv;have hLS:=m.loose;rw[hn_,hlv] at hLS;have HLS:=O hLS;have hnn:n<100000000000:=by rw[←hn_,HW.out];exact hn
 have X:=O hlv;have ht:=m.top;rw[hlv] at ht;have HT:=O ht;clear hLS hlv hn_ ht;refine dwA (dX a dv lv f D) (by kernel_rfl) ?_;intro wd S z Q V hkd;replace r:=kL r hkd;replace m:=O (m.keep hkd fun _ h=>h.elim);replace I:=O (hkd.rangeAt I.out);replace HLS:=O (hkd.owns HLS.out fun _ _=>id);replace HT:=O (hkd.blk HT.out id);clear hkd;have hb7:¬(dX a dv lv f D) b7:=(r.aq 1);refine tna 0 (.pointer a) rfl V ?_;refine tna 1 (.pointer a) rfl V ?_;refine tnb 2 (.pointer a) rfl V ?_;refine tnb 3 (.pointer (some ⟨a,1,none⟩)) rfl V ?_;refine tna 5 (.int .i64 (d:Int)) rfl V ?_;refine tna 6 (.int .i64 (s:Int)) rfl V ?_;refine tnd 7 (.slice (some ⟨g,o,none⟩) 256 c) rfl (.inl ⟨by rfl,fun w' hw'=>by have c:=(z.out w' hw').cell (aC (i:=0) (r.b 1) rfl) hb7;go_simp⟩) V ?_;refine tnd 8 (.pointer (some ⟨g,o,none⟩)) rfl (.inl ⟨by rfl,fun w' _=>by have hb:=IX g o c w';go_simp⟩) V ?_;refine tnd 9 (.agg bs.toArray) rfl (yieldsIf_load_mid (by rfl) 210 (.tmp 62) rfl g o rfl bs _ (fun w' h=>(z.out w' h).rangeAt2 I.out hg) Tryz.underlying210 rfl (by rw[hbn];exact lA)) V ?_;refine tnd 10 (.agg (.int .i64 (d:Int)::.int .i64 (s:Int)::bs).toArray) rfl (fH 212 #[(0,.tmp 59),(1,.tmp 60),(2,.tmp 63)] [(0,.int .i64 (d:Int)),(1,.int .i64 (s:Int)),(2,.agg bs.toArray)] _ (ME bs hbn _ _)) V ?_;obtain⟨cs,hcs⟩:∃l,(.int .i64 (d:Int)::.int .i64 (s:Int)::bs:List Value)=l:=⟨_,rfl⟩
 have hcn:cs.length=258:=by rw[←hcs,List.length_cons,List.length_cons,hbn]
 have HOC:Hid (∀u∈cs,u.oneCell'=true):=O (by
  rw[←hcs];intro u hu;rcases List.mem_cons.1 hu with rfl|hu
  ·rfl
  rcases List.mem_cons.1 hu with rfl|hu
  ·rfl
  exact HO.out u hu)
 rw[hcs];have HCS:=O hcs;obtain⟨we,hwe,hke,hbe,-⟩:=aS wd cs.toArray WrT;obtain⟨bx,hbx⟩:∃x,wd.heap.size=x:=⟨_,rfl⟩
 rw[hbx] at hbe;have hbxB:¬(dX a dv lv f D) bx:=fun j=>by have:=m.lt j;omega
 have HRN:Hid (Rd we 258 (.slice bx 1 1) 1 cs):=O (dE (n:=1) (size:=258) hbe (by rw[hcn]) (by unfold maxLen;omega));have R:S we:=Q.out _ ((z.out _ V).trans hke.any);have HKE:=O hke;have HX:=O hbx;have HTe:=O (hke.blk HT.out id);have HLSe:=O (hke.owns HLS.out fun _ _=>id);clear hbe hke hcs;refine eK (k:=4) (l:=11) rfl rfl (by kernel_rfl) ?_ ?_
 ·have c1:wd.cell? ⟨a,1,none⟩=some (.slice p2 n y):=aC HT.out rfl
  go_wp2_with fail;refine⟨V,?_⟩;clear c1;refine wA9 11 ?_;refine bL rfl 141 WrT (.tmp 64) rfl Tryz.underlying141 oA (by decide) cs hcn (by decide) rfl ?_;rw[hwe,hbx];clear hwe hbx V;refine wpList_nil ?_;refine⟨R,?_⟩;refine wA9 12 ?_;refine aL rfl (.tmp 58) (.tmp 65) 141 rfl 0 WrT (.agg gB.toArray) 258 272 Tryz.underlying141 oA rfl (by decide) (.slice p2 n y) n (dF W) rfl HLSe.out (.slice bx 1 1) 1 cs rfl HRN.out HOC.out (by unfold maxLen;omega) (by omega) (Nat.zero_le _) ?_;intro v' w8 U H hn5 hb5;obtain⟨g',P,rfl⟩:=ownsRow_succ U;have HO5:=O U;have HB5:=O hb5;have hk6:aA (dX a dv lv f D) we w8:=H.mono fun k _ e=>.inr (.inr (.inl (by rw[X.out];exact e)))
  have HK5:=O H;have t:S w8:=Q.out _ ((z.out _ R).trans hk6);have hne:¬(Value.slice p2 n y).ownBlock=some a:=fun e=>m.ne.2.2 a (by rw[X.out];exact e) rfl
  have HT8:=O (H.blk HTe.out hne);clear U H hn5 hb5;refine wpList_nil ?_;refine⟨t,?_⟩;clear R;refine tnb 13 (.pointer a) rfl t ?_;refine tnb 14 (.pointer (some ⟨a,1,none⟩)) rfl t ?_;refine wA9 15 ?_;refine sta 141 (.tmp 68) (.tmp 66) a 1 [.slice g' (n+1) P] HT8.out (by simp) (by kernel_rfl) (one9) ?_;intro w9 T A;replace A:w9.heap[a]?=some (.cells #[.slice dv D dc,(.slice g' (n+1) P),.int .i64 (-1),.bool false,.int .i64 st'] fB (0,0)):=A;have HP:Hid (jP w a (dX a dv lv f D) D Z M nw d s b (.returned (.int .i64 0)) w9):=O (zJ m.out HKE.out HK5.out X.out HN.out HO5.out HB5.out T A hd hs hbl HCS.out HBS.out HM.out HW.out r.keep);have hS9:S w9:=Q.out _ (((z.out _ t).trans (T.mono fun _ _ e=>.inl e)));clear T A t;refine wpList_nil ?_;refine⟨hS9,?_⟩;refine wpAnyH_done (by kernel_rfl) ?_ _;clear hS9 z Q;go_wp2;go_ret;exact HP.out
 ·refine bL rfl 141 WrT (.tmp 64) rfl Tryz.underlying141 oA (by decide) cs hcn (by decide) rfl ?_
  rw[hwe,hbx];clear hwe hbx V;refine wpList_nil ?_;refine⟨R,?_⟩;refine wA9 4 ?_;have c1:we.cell? ⟨a,1,none⟩=some (.slice p2 n y):=aC HTe.out rfl;go_wp2_with fail;refine⟨R,?_⟩;clear c1;refine wA9 12 ?_;refine aL rfl (.tmp 58) (.tmp 65) 141 rfl 0 WrT (.agg gB.toArray) 258 272 Tryz.underlying141 oA rfl (by decide) (.slice p2 n y) n (dF W) rfl HLSe.out (.slice bx 1 1) 1 cs rfl HRN.out HOC.out (by unfold maxLen;omega) (by omega) (Nat.zero_le _) ?_;intro v' w8 U H hn5 hb5;obtain⟨g',P,rfl⟩:=ownsRow_succ U;have HO5:=O U;have HB5:=O hb5;have hk6:aA (dX a dv lv f D) we w8:=H.mono fun k _ e=>.inr (.inr (.inl (by rw[X.out];exact e)))
  have HK5:=O H;have t:S w8:=Q.out _ ((z.out _ R).trans hk6);have hne:¬(Value.slice p2 n y).ownBlock=some a:=fun e=>m.ne.2.2 a (by rw[X.out];exact e) rfl
  have HT8:=O (H.blk HTe.out hne);clear U H hn5 hb5;refine wpList_nil ?_;refine⟨t,?_⟩;clear R;refine tnb 13 (.pointer a) rfl t ?_;refine tnb 14 (.pointer (some ⟨a,1,none⟩)) rfl t ?_;refine wA9 15 ?_;refine sta 141 (.tmp 68) (.tmp 66) a 1 [.slice g' (n+1) P] HT8.out (by simp) (by kernel_rfl) (one9) ?_;intro w9 T A;replace A:w9.heap[a]?=some (.cells #[.slice dv D dc,(.slice g' (n+1) P),.int .i64 (-1),.bool false,.int .i64 st'] fB (0,0)):=A;have HP:Hid (jP w a (dX a dv lv f D) D Z M nw d s b (.returned (.int .i64 0)) w9):=O (zJ m.out HKE.out HK5.out X.out HN.out HO5.out HB5.out T A hd hs hbl HCS.out HBS.out HM.out HW.out r.keep);have hS9:S w9:=Q.out _ (((z.out _ t).trans (T.mono fun _ _ e=>.inl e)));clear T A t;refine wpList_nil ?_;refine⟨hS9,?_⟩;refine wpAnyH_done (by kernel_rfl) ?_ _;clear hS9 z Q;go_wp2;go_ret;exact HP.out
theorem L4(r:Rd w 258 (.slice p n c) n (dF W))(e:vT D Z W)(h:W[k]?=some x):∃g o,p=some ⟨g,o,none⟩/\w.rangeAt g (o+k*258) (eA x):=by
 have q:=(List.getElem?_eq_some_iff.1 h).1;obtain⟨C,z,A,m,-,-,-,i⟩:=r;obtain⟨g,o,rfl,l⟩:=i (by rw[NI e];omega);cases m
 refine⟨g,o,rfl,fun j v t=>?_⟩;have:=l (k*258+j) v (gA (c:=eA) (n:=258) (fun y u=>kZ (e y u).1) h t)
 rwa [←Nat.add_assoc] at this
theorem Gw(w:World)(k:Int)(x:Lw)(t:x.b.length=256)(p d:Nat)(m:w.heap[p]?=some (.cells #[.int .i64 (d:Int)] 3 (0,0))):Calls Tryz.prog 138 #[.int .i64 k,.agg (eA x).toArray,.pointer p] w (aN w (.bool (decide (x.dev=d)))):=by
 have r:=kZ t;have j:=O m;have h:=lN w;have q:((x.dev:Int) == (d:Int))=decide (x.dev=d):=by rw[Bool.eq_iff_iff,beq_iff_eq,decide_eq_true_eq];omega
 obtain⟨bb,e⟩:∃b,decide (x.dev=d)=b:=⟨_,rfl⟩
 rw[e] at q ⊢;clear m e;go_in
 go_wp2_with ((with_reducible show WL _ _);refine bxL h 212 (.tmp 1) ((eA x).toArray) ?_)
 intro o u l h;replace j:=O (l.blk j.out id);clear l;have c1:u.cell? ⟨o,0,none⟩=some (.int .i64 (x.dev:Int)):=aC (i:=0) (h.b 0) (by rw[List.getElem?_toArray];rfl);have c2:=aC (i:=0) j.out rfl;go_wp2;go_ret;exact aN.of h.keep
def Dj(w:World)(W:List Lw)(d:Nat)(e:Ending)(w':World):Prop:=∃yv nv,e=.returned (.tuple #[yv,nv])/\w'.ownsRow w.heap.size WrT 258 yv (W.filter fun x=>decide (x.dev=d)).length (dF (W.filter fun x=>decide (x.dev=d)))/\w'.ownsRow w.heap.size WrT 258 nv (W.filter fun x=>!decide (x.dev=d)).length (dF (W.filter fun x=>!decide (x.dev=d)))/\aA aB w w'
structure PaI(w wr:World)(W:List Lw)(d k:Nat)(yv nv:Value)(Y N:List Lw):Prop where
 y:Y=(W.take k).filter fun x=>decide (x.dev=d)
 n:N=(W.take k).filter fun x=>!decide (x.dev=d)
 oy:wr.ownsRow w.heap.size WrT 258 yv Y.length (dF Y)
 on:wr.ownsRow w.heap.size WrT 258 nv N.length (dF N)
 ne:∀i,yv.ownBlock=some i->¬nv.ownBlock=some i
 keep:aA aB w wr
theorem PaI.lens(h:PaI w wr W d k yv nv Y N):Y.length≤W.length/\N.length≤W.length:=by
 rw[h.y,h.n];have e:=List.length_take_le k W;have i:=List.length_filter_le (fun x:Lw=>decide (x.dev=d)) (W.take k);have j:=List.length_filter_le (fun x:Lw=>!decide (x.dev=d)) (W.take k);have l:(W.take k).length≤W.length:=by rw[List.length_take];omega
 omega
theorem uW(Y:List Lw)(x:Lw):dF (Y++[x])=dF Y++eA x:=by unfold dF;rw[List.flatMap_append];simp
theorem PaI.yes(h:PaI w wr W d k yv nv Y N)(y:W[k]?=some x)(o:x.dev=d)(m:aA aB wr we)(u:w8.ownsRow w.heap.size WrT 258 (.slice g (Y.length+1) c) (Y.length+1) (dF Y++eA x))
 (r:aA (fun k=>yv.ownBlock=some k) we w8) (j:(Value.slice g (Y.length+1) c).ownBlock=yv.ownBlock\/(Value.slice g (Y.length+1) c).ownBlock=some we.heap.size):PaI w w8 W d (k+1) (.slice g (Y.length+1) c) nv (Y++[x]) N:=by
 have q:W.take (k+1)=W.take k++[x]:=by rw[List.take_add_one,y];rfl
 refine⟨?_,?_,?_,?_,?_,?_⟩
 ·rw[q,List.filter_append,←h.y];simp[o]
 ·rw[q,List.filter_append,←h.n];simp[o]
 ·rw[List.length_append,uW];exact u
 ·exact r.owns (m.owns h.on fun _ _=>id) fun i l e=>h.ne i e l
 ·intro i l e
  rcases j with j|j
  ·exact h.ne i (j▸l) e
  ·obtain⟨cur,t⟩:=aO h.on e
   have:=lt_of_block t;have:=m.size;rw[l] at j;cases j
   omega
 ·exact(h.keep.trans m).trans' r (fun _ _ h=>h) fun i l e=>by
   have:=aU h.oy e;omega
theorem PaI.no(h:PaI w wr W d k yv nv Y N)(y:W[k]?=some x)(o:¬x.dev=d)(m:aA aB wr we)(u:w8.ownsRow w.heap.size WrT 258 (.slice g (N.length+1) c) (N.length+1) (dF N++eA x))
 (r:aA (fun k=>nv.ownBlock=some k) we w8) (j:(Value.slice g (N.length+1) c).ownBlock=nv.ownBlock\/(Value.slice g (N.length+1) c).ownBlock=some we.heap.size):PaI w w8 W d (k+1) yv (.slice g (N.length+1) c) Y (N++[x]):=by
 have q:W.take (k+1)=W.take k++[x]:=by rw[List.take_add_one,y];rfl
 refine⟨?_,?_,?_,?_,?_,?_⟩
 ·rw[q,List.filter_append,←h.y];simp[o]
 ·rw[q,List.filter_append,←h.n];simp[o]
 ·exact r.owns (m.owns h.oy fun _ _=>id) fun i l e=>h.ne i l e
 ·rw[List.length_append,uW];exact u
 ·intro i l e
  rcases j with j|j
  ·exact h.ne i l (j▸e)
  ·obtain⟨cur,t⟩:=aO h.oy l
   have:=lt_of_block t;have:=m.size;rw[e] at j;cases j
   omega
 ·exact(h.keep.trans m).trans' r (fun _ _ h=>h) fun i l e=>by
   have:=aU h.on e;omega
theorem PaI.same(h:PaI w wr W d k yv nv Y N)(e:aA aB wr we):PaI w we W d k yv nv Y N:=
 ⟨h.y,h.n,e.owns h.oy fun _ _=>id,e.owns h.on fun _ _=>id,h.ne,h.keep.trans e⟩
theorem B6(w:World)(W:List Lw)(d:Nat)(p:Option Addr)(c:Nat)(hr:Rd w 258 (.slice p W.length c) W.length (dF W))(H:vT D Z W)(hn:W.length<100000000000)(q:Nat)(hq:w.heap[q]?=some (.cells #[.int .i64 (d:Int)] 3 (0,0))) :
 Calls Tryz.prog 137 #[.slice p W.length c,.func (.func 138) #[] #[.pointer q]] w (Dj w W d):=by
 obtain⟨n,hn_⟩:∃n,W.length=n:=⟨_,rfl⟩
 have HN:=O hn_;rw[hn_] at hr hn ⊢;have HR:=O hr;have HQ:=O hq;have HOK:=O H;clear hr hq H hn_;go_in;go_wp2_with fail
 go_loopw [4,5,10] (fun y z i wr=>∃(k:Nat) (Y N:List Lw) (py pn:Option Addr) (cy cn:Nat),k≤n/\i=.int .i64 k/\y=.slice py Y.length cy/\z=.slice pn N.length cn/\Hid (PaI w wr W d k (.slice py Y.length cy) (.slice pn N.length cn) Y N)) (fun _ _ i _=>n-(intOf i).toNat)
 case atStart=>exact⟨0,[],[],none,none,0,0,by omega,rfl,rfl,rfl,O ⟨by simp,by simp,World.ownsRow_nil _ _ _ _,World.ownsRow_nil _ _ _ _,(fun i h=>by cases h),aA.refl _ _⟩⟩
 case round =>
  obtain⟨k,Y,N,py,pn,cy,cn,T,rfl,rfl,rfl,HI⟩:=hrel
  by_cases hk8:k<n
  ·obtain⟨x,hx⟩:∃x,W[k]?=some x:=⟨W[k]'(by rw[HN.out];exact hk8),List.getElem?_eq_getElem _⟩
   have H:=HOK.out x (List.mem_of_getElem? hx);have j:=kZ H.1;obtain⟨g,o,rfl,hat⟩:=L4 (by have:=HR.out;rwa [←HN.out] at this) HOK.out hx;have HX:=O (HI.keep.rangeAt hat);have HXX:=O hx;have V:=HI.lens;rw[HN.out] at V;have HL:=lN wr;have L:=O (HI.keep.blk HQ.out id);have hk0:(0:Int)≤(k:Int):=by omega
   have hk1:(k:Int)<(n:Int):=by omega
   obtain⟨ny,hny⟩:∃n,Y.length=n:=⟨_,rfl⟩
   obtain⟨nn,hnn⟩:∃n,N.length=n:=⟨_,rfl⟩
   have m:=O hny;have l:=O hnn;rw[hny,hnn] at V;rw[hny,hnn];have hxok:=H.1;clear hat hx H hny hnn
   go_wp2_with ((with_reducible show WL _ _);first
    | refine wpList_load_mid rfl 212 (.tmp 13) rfl g (o+k*258) rfl (eA x) _ HX.out pA rfl (by rw[j];exact kD) ?_
    | refine al 212 (.agg gB.toArray) (gB.toArray) AF ?_)
   intro b7 w1 hbs hk0 hb0_
   go_wp2_with ((with_reducible show WL _ _);refine sta 212 (.tmp 7) (.tmp 14) b7 0 (eA x) hb0_ (by first|decide|(rw[List.size_toArray,j];exact Nat.le_refl _)|simp[j,iX]) (by rw[j];exact kD) (sP x) ?_)
   intro w2 T hb;rw[aK _ _ (by first|rfl|(rw[List.size_toArray,j];rfl)|simp[j,iX])] at hb;replace T:=tX hk0 T (fun i hi e=>by omega);replace HL:=lW HL hbs T hb;replace HX:=O (T.rangeAt HX.out);replace L:=O (T.blk L.out id);clear hbs T hb hk0 hb0_;clear HX
   go_wp2_with ((with_reducible show WL _ _);refine wpList_load_mid rfl 212 (.tmp 7) rfl b7 0 rfl (eA x) _ (aD (HL.b 0)) pA rfl (by rw[j];exact kD) ?_)
   refine(Gw w2 (k:Int) x hxok q d L.out).mono ?_;rintro e w3 ⟨rfl,T⟩;replace HL:=kL HL T;replace L:=O (T.blk L.out id);clear T;have A:=O (HI.same HL.keep);have HP:=O A.out
   by_cases hd:x.dev=d
   ·have S:decide (x.dev=d)=true:=decide_eq_true hd
    rw[S];clear S;have HO:=O A.oy;rw[m.out] at HO;have HOX:Hid (∀u∈eA x,u.oneCell'=true):=O (sP x);have R:=A.keep.size;obtain⟨we,hwe,t,C,-⟩:=aS w3 (eA x).toArray 212;obtain⟨bx,r⟩:∃x,w3.heap.size=x:=⟨_,rfl⟩
    rw[r] at C;have P:Hid (Rd we 258 (.slice bx 1 1) 1 (eA x)):=O (dE (n:=1) (size:=258) C (by rw[j]) (by unfold maxLen;omega));have K:=O (t.owns HO.out fun _ _=>id);have X:=t.size;have J:=O t;have HBX:=O r;clear C t
    go_wp2_with (first
     | ((with_reducible show WL (some 20) (.load 212 _));refine wpList_load_mid rfl 212 (.tmp 7) rfl b7 0 rfl (eA x) _ (aD (HL.b 0)) pA rfl (by rw[j];exact kD) ?_)
     | ((with_reducible show WL _ (.buildSlice _ 1 _));refine bL rfl 141 212 (.tmp 20) rfl Tryz.underlying141 oA (by decide) (eA x) j (by decide) rfl ?_;rw[hwe,r])
     | (at_builtin;refine aL rfl (.tmp 19) (.tmp 21) 141 rfl w.heap.size 212 (.agg gB.toArray) 258 272 Tryz.underlying141 oA rfl (by decide) (.slice py ny cy) ny (dF Y) rfl K.out (.slice bx 1 1) 1 (eA x) rfl P.out (sP x) (by unfold maxLen;omega) (by omega) (by omega) ?_))
    intro v2 w8 E U hn5 Q;obtain⟨gq,cq,rfl⟩:=ownsRow_succ E;clear hwe r hn5 P K;have I:=O (A.yes HXX.out hd J.out (by rw[m.out];exact E) (by rw[m.out];exact U) (by rw[m.out];exact Q));rw[m.out,l.out] at I;clear E U Q J HBX X R;go_wp2
    go_roundw
    case rel=>exact⟨k+1,Y++[x],N,some ⟨gq,0,none⟩,pn,cq,cn,by omega,by go_num,by rw[List.length_append,m.out];rfl,by rw[l.out],by rw[List.length_append,m.out,l.out];exact I⟩
    case measure=>simp[intOf];omega
   ·have S:decide (x.dev=d)=false:=decide_eq_false hd
    rw[S];clear S;have HO:=O A.on;rw[l.out] at HO;have HOX:Hid (∀u∈eA x,u.oneCell'=true):=O (sP x);have R:=A.keep.size;obtain⟨we,hwe,t,C,-⟩:=aS w3 (eA x).toArray 212;obtain⟨bx,r⟩:∃x,w3.heap.size=x:=⟨_,rfl⟩
    rw[r] at C;have P:Hid (Rd we 258 (.slice bx 1 1) 1 (eA x)):=O (dE (n:=1) (size:=258) C (by rw[j]) (by unfold maxLen;omega));have K:=O (t.owns HO.out fun _ _=>id);have X:=t.size;have J:=O t;have HBX:=O r;clear C t
    go_wp2_with (first
     | ((with_reducible show WL (some 24) (.load 212 _));refine wpList_load_mid rfl 212 (.tmp 7) rfl b7 0 rfl (eA x) _ (aD (HL.b 0)) pA rfl (by rw[j];exact kD) ?_)
     | ((with_reducible show WL _ (.buildSlice _ 1 _));refine bL rfl 141 212 (.tmp 24) rfl Tryz.underlying141 oA (by decide) (eA x) j (by decide) rfl ?_;rw[hwe,r])
     | (at_builtin;refine aL rfl (.tmp 23) (.tmp 25) 141 rfl w.heap.size 212 (.agg gB.toArray) 258 272 Tryz.underlying141 oA rfl (by decide) (.slice pn nn cn) nn (dF N) rfl K.out (.slice bx 1 1) 1 (eA x) rfl P.out (sP x) (by unfold maxLen;omega) (by omega) (by omega) ?_))
    intro v2 w8 E U hn5 Q;obtain⟨gq,cq,rfl⟩:=ownsRow_succ E;clear hwe r hn5 P K;have I:=O (A.no HXX.out hd J.out (by rw[l.out];exact E) (by rw[l.out];exact U) (by rw[l.out];exact Q));rw[l.out,m.out] at I;clear E U Q J HBX X R;go_wp2
    go_roundw
    case rel=>exact⟨k+1,Y,N++[x],py,some ⟨gq,0,none⟩,cy,cq,by omega,by go_num,by rw[m.out],by rw[List.length_append,l.out];rfl,by rw[List.length_append,m.out,l.out];exact I⟩
    case measure=>simp[intOf];omega
  ·obtain rfl:n=k:=by omega
   have hi:=HI.out;have hy:=hi.y;have hn2:=hi.n;rw[List.take_of_length_le (by rw[HN.out];exact Nat.le_refl _)] at hy hn2;have HP:Hid (Dj w W d (.returned (.tuple #[.slice py Y.length cy,.slice pn N.length cn])) wr):=O ⟨_,_,rfl,by rw[←hy];exact hi.oy,by rw[←hn2];exact hi.on,hi.keep⟩;clear hi hy hn2;go_wp2
   go_ret2
   exact HP.out
variable {w:World}{a dv dc D Z:Nat}{lv:Value}{st:Int}{f:Nat->Nat}{F:Nat->Nat->List UInt8}{W:List Lw}
def WJ(W:World)(a dv dc D:Nat)(lv:Value)(k:Nat)(wr:World):Prop:=(k≤4/\aA aB W wr)\/(k=5/\aA (fun i=>i=a) W wr/\∃e,wr.heap[a]?=some (.cells #[.slice dv D dc,lv,.int .i64 (-1),.bool false,.int .i64 e] fB (0,0)))
theorem ckj{W:World}(q:k≤3){x:Array Value}(m:v=.func (.func G) #[] x\/v=.func (.func G) x #[])(l:∀w,Sem.run Tryz.prog (callFunc G x) w=.ok (.enter G x) w)(j:∀wr,aA aB W wr->Calls Tryz.prog G x wr (aN wr (.int .i64 0))) :
 ∃G x,(v=.func (.func G) #[] x\/v=.func (.func G) x #[])/\(∀w,Sem.run Tryz.prog (callFunc G x) w=.ok (.enter G x) w)/\∀wr,WJ W a dv dc D lv k wr->Calls Tryz.prog G x wr fun e w'=>e=.returned (.int .i64 0)/\WJ W a dv dc D lv (k+1) w':=
 ⟨G,x,m,l,fun wr o=>by
  rcases o with⟨-,i⟩|⟨e,-⟩
  ·exact(j wr i).mono fun e w' h=>⟨h.1,.inl ⟨by omega,i.trans h.2⟩⟩
  ·omega⟩
theorem bU.ne3(h:bU w a dv dc lv st f F W D Z):∀d,d<D->dv≠f d:=by
 rintro d j rfl;obtain⟨cur,i⟩:=aO h.devs (k:=f d) rfl;have e:=h.firm d j;rw[i] at e;simp[gW,fL] at e
def iP(F:Nat->Nat->List UInt8)(d s:Nat)(b:List UInt8):Nat->Nat->List UInt8:=fun e h=>if e=d/\h=s then b else F e h
theorem Dk(F:Nat->Nat->List UInt8)(K:s<Z)(b:List UInt8)(o:b.length=256)(hF:∀s,s<Z->(F d s).length=256):spl (dG (F d) Z).toArray (s*256) (b.map vb)=(dG (iP F d s b d) Z).toArray:=by
 have E:(dG (F d) Z).length=Z*256:=by
  have:=nY (c:=fun s=>(F d s).map vb) (n:=256) (l:=List.range Z) fun x m=>by rw[List.length_map];exact hF x (List.mem_range.1 m)
  rw[List.length_range] at this;exact this
 have H:(dG (iP F d s b d) Z).length=Z*256:=by
  have:=nY (c:=fun t=>(iP F d s b d t).map vb) (n:=256) (l:=List.range Z) fun x m=>by
   rw[List.length_map];unfold iP;split
   ·exact o
   ·exact hF x (List.mem_range.1 m)
  rw[List.length_range] at this;exact this
 have I:s*256+256≤Z*256:=by omega
 apply Array.ext_getElem?;intro j;rw[mC _ _ _ _ (by rw[List.size_toArray,E,List.length_map,o];exact I)];simp only[List.getElem?_toArray,List.length_map,o]
 by_cases J:j<Z*256
 ·obtain⟨q,r,rfl,z⟩:∃q r,j=q*256+r/\r<256:=⟨j / 256,j % 256,by omega,by omega⟩
  have y:q<Z:=by omega
  have C:(dG (iP F d s b d) Z)[q*256+r]?=((iP F d s b d q).map vb)[r]?:=by
   have i:((iP F d s b d q).map vb).length=256:=by
    rw[List.length_map];unfold iP;split
    ·exact o
    ·exact hF q y
   obtain⟨v,u⟩:∃v,((iP F d s b d q).map vb)[r]?=some v:=⟨_,List.getElem?_eq_getElem (by rw[i];exact z)⟩
   rw[u]
   exact gA (c:=fun t=>(iP F d s b d t).map vb) (n:=256) (l:=List.range Z) (fun x m=>by
    rw[List.length_map];unfold iP;split
    ·exact o
    ·exact hF x (List.mem_range.1 m)) (iO y) u
  have A:(dG (F d) Z)[q*256+r]?=((F d q).map vb)[r]?:=by
   have i:((F d q).map vb).length=256:=by rw[List.length_map];exact hF q y
   obtain⟨v,u⟩:∃v,((F d q).map vb)[r]?=some v:=⟨_,List.getElem?_eq_getElem (by rw[i];exact z)⟩
   rw[u];exact gA (c:=fun t=>(F d t).map vb) (n:=256) (l:=List.range Z) (fun x m=>by rw[List.length_map];exact hF x (List.mem_range.1 m)) (iO y) u
  rw[A,C];unfold iP
  by_cases e:q=s
  ·subst e
   rw[if_pos (by omega),if_pos ⟨rfl,rfl⟩,show q*256+r-q*256=r by omega]
  ·rw[if_neg (by omega),if_neg (fun h=>e h.2)]
 ·rw[if_neg (by omega),List.getElem?_eq_none (by omega),List.getElem?_eq_none (by omega)]
theorem uX{G:Nat->List UInt8}(e:∀s,s<Z->(G s).length=256):(dG G Z).length=Z*256:=by
 have:=nY (c:=fun s=>(G s).map vb) (n:=256) (l:=List.range Z) fun x h=>by rw[List.length_map];exact e x (List.mem_range.1 h)
 rw[List.length_range] at this;exact this
theorem bU.turn(h:bU w a dv dc lv st f F W D Z){b:List UInt8}(l:d<D)(C:s<Z)(u:b.length=256)(k:aA (fun i=>i=f d) w w')(y:w'.heap[f d]?=some (.cells (dG (iP F d s b d) Z).toArray gW (0,0))):bU w' a dv dc lv st f (iP F d s b) W D Z:=by
 obtain⟨E,A,H⟩:=h.ne;refine⟨k.blk h.top fun e=>A d l e,k.owns h.devs fun i o e=>h.ne3 d l (by cases o;exact e),fun e m=>?_,h.inj,k.owns h.loose fun i o e=>(h.ne2 i o).2 d l e,h.wok,?_,h.bd⟩
 ·by_cases j:e=d
  ·subst j;exact y
  ·have q:iP F d s b e=F e:=by
    funext t;unfold iP;rw[if_neg (fun h=>j h.1)]
   rw[q];exact k.blk (h.firm e m) fun r=>j (h.inj e d m l r)
 ·intro e t m z
  unfold iP;split
  ·exact u
  ·exact h.fok e t m z
theorem rB:∀(l:List Lw) (b:List UInt8),eB (l.filter fun x=>decide (x.dev=d)) d s b=eB l d s b
 | [],b=>rfl
 | x::l,b=>by
   by_cases e:x.dev=d
   ·rw[List.filter_cons_of_pos (by simpa using e)]
    exact rB l _
   ·rw[List.filter_cons_of_neg (by simpa using e),rB l b]
    show _=eB l d s (if x.dev=d/\x.at_=s then x.b else b);rw[if_neg (fun h=>e h.1)]
theorem sU{i:Nat}(j:i≠d):∀(l:List Lw) (b:List UInt8),eB (l.filter fun x=>!decide (x.dev=d)) i s b=eB l i s b
 | [],b=>rfl
 | x::l,b=>by
   by_cases e:x.dev=d
   ·rw[List.filter_cons_of_neg (by simpa using e),sU j l b]
    show _=eB l i s (if x.dev=i/\x.at_=s then x.b else b);rw[if_neg (fun h=>j (h.1.symm.trans e))]
   ·rw[List.filter_cons_of_pos (by simpa using e)]
    exact sU j l _
theorem uY:∀(l:List Lw) (b:List UInt8),eB (l.filter fun x=>!decide (x.dev=d)) d s b=b
 | [],b=>rfl
 | x::l,b=>by
   by_cases e:x.dev=d
   ·rw[List.filter_cons_of_neg (by simpa using e)]
    exact uY l b
   ·rw[List.filter_cons_of_pos (by simpa using e)]
    show eB _ d s (if x.dev=d/\x.at_=s then x.b else b)=b;rw[if_neg (fun h=>e h.1)];exact uY l b
def nF(F:Nat->Nat->List UInt8)(d:Nat)(Y:List Lw):Nat->Nat->List UInt8:=fun e h=>if e=d then eB Y e h (F e h) else F e h
theorem IY(F:Nat->Nat->List UInt8)(d:Nat)(Y:List Lw)(x:Lw)(j:x.dev=d):iP (nF F d Y) d x.at_ x.b=nF F d (Y++[x]):=by
 funext d' s'
 unfold iP nF
 by_cases e:d'=d
 ·subst e
  rw[if_pos rfl,if_pos rfl,oT]
  by_cases i:s'=x.at_
  ·rw[if_pos ⟨rfl,i⟩,if_pos ⟨j,i.symm⟩]
  ·rw[if_neg (fun h=>i h.2),if_neg (fun h=>i h.2.symm)]
 ·rw[if_neg (fun h=>e h.1),if_neg e,if_neg e]
theorem KN(F:Nat->Nat->List UInt8)(d:Nat)(W:List Lw):∀h i,eB (W.filter fun x=>!decide (x.dev=d)) h i (nF F d (W.filter fun x=>decide (x.dev=d)) h i)=eB W h i (F h i):=by
 intro h i;unfold nF
 by_cases e:h=d
 ·subst e;rw[if_pos rfl,uY,rB]
 ·rw[if_neg e,sU e]
def Bo(w:World)(a:Nat)(B:Nat->Prop)(D Z:Nat)(M:Nat->Nat->List UInt8)(nw:Nat)(e:Ending)(w':World):Prop:=
 e=.returned (.int .i64 0)/\∃i h,bR w' a i D Z M h/\h≤nw/\(∀k,i k->B k\/w.heap.size≤k)/\aA B w w'
theorem zK(h:bR w a B D Z M nw)(hd:d<D)(hn:nw<100000000000):Calls Tryz.prog 99 #[.pointer a,.int .i64 (d:Int)] w (Bo w a B D Z M nw):=by
 obtain⟨dv,dc,lv,st,f,F,W,h,rfl,hW,hM⟩:=h;obtain⟨p2,cap2,hlv⟩:=h.lv;have r:=O (Loc.nil (dX a dv lv f D) (dX a dv lv f D) w);have m:=O h;have HDB:(decide (0≤(d:Int)) && decide ((d:Int)<(D:Int)))=true:=by simp only[Bool.and_eq_true,decide_eq_true_eq];omega
 replace HDB:=O HDB;have HM:=O hM;have HW:=O hW;have HLV:=O hlv;have hd2:(d:Int)<(D:Int):=by omega
 have hd0:(0:Int)≤(d:Int):=by omega
 clear h hM hW hlv;go_in
 go_wp2_with ((with_reducible show WL _ _);refine bx 3 (.tmp 1) (#[.int .i64 (d:Int)]) ?_)
 intro b3 w1 H j R;replace r:=O (r.new (fun _ j=>m.lt j) H j R);replace m:=O (m.keep j fun _ h=>h.elim);clear H j R;go_wp2_with fail;refine dwA (dX a dv lv f D) (by kernel_rfl) ?_;intro w2 S q L A I;replace r:=kL r I;replace m:=O (m.keep I fun _ h=>h.elim);clear I;have u:=r;have Q:=m;refine tnd 0 (.int .i64 (d:Int)) rfl (.inl ⟨by rfl,fun w' E=>by have c:=aC (i:=0) ((q.out w' E).blk (u.b 0) ((u.aq 0))) rfl;go_simp⟩) A ?_;refine tna 1 (.pointer a) rfl A ?_;refine tnb 2 (.func (.func 131) #[.pointer a] #[]) rfl A ?_;refine tna 3 (.pointer a) rfl A ?_;refine tnb 4 (.func (.func 132) #[.pointer a] #[]) rfl A ?_;refine tna 5 (.pointer a) rfl A ?_;refine tnd 6 (.int .i64 (d:Int)) rfl (.inl ⟨by rfl,fun w' E=>by have c:=aC (i:=0) ((q.out w' E).blk (u.b 0) ((u.aq 0))) rfl;go_simp⟩) A ?_;refine tna 8 (.pointer a) rfl A ?_;refine tnd 9 (.int .i64 (d:Int)) rfl (.inl ⟨by rfl,fun w' E=>by have c:=aC (i:=0) ((q.out w' E).blk (u.b 0) ((u.aq 0))) rfl;go_simp⟩) A ?_;refine tna 11 (.pointer a) rfl A ?_;refine tnb 12 (.func (.func 135) #[.pointer a] #[]) rfl A ?_;refine wA9 7 ?_;go_wp2_with fail;refine(Gt w2 a (d:Int)).mono ?_;rintro e w3 hp;obtain⟨p0,p1,rfl,J,K,j⟩:=hp.two;have V:=L.out _ ((q.out _ A).trans j.any);replace r:=kL r j;replace m:=O (m.keep j fun _ h=>h.elim);clear A j;replace J:=O J;replace K:=O K;go_wp2_with fail;refine⟨V,?_⟩;refine wA9 10 ?_;go_wp2_with fail;refine(oV w3 a (d:Int)).mono ?_;rintro e w4 hp;obtain⟨q0,q1,rfl,T,U,j⟩:=hp.two;have hS2:=L.out _ ((q.out _ V).trans j.any);replace r:=kL r j;replace m:=O (m.keep j fun _ h=>h.elim);replace J:=O (j.blk J.out id);replace K:=O (j.blk K.out id);clear V j;replace T:=O T;replace U:=O U;go_wp2_with fail;refine⟨hS2,?_⟩;refine wA9 13 ?_;obtain⟨w5,hw_w5,j,R,-⟩:=aS w4 #[.func (.func 131) #[.pointer a] #[],.func (.func 132) #[.pointer a] #[],.func (.func 187) #[] #[.pointer p0,.pointer p1],.func (.func 188) #[] #[.pointer q0,.pointer q1],.func (.func 135) #[.pointer a] #[]] 113;obtain⟨b23,H⟩:∃b,w4.heap.size=b:=⟨_,rfl⟩
 rw[H] at R;have hS3:=L.out _ ((q.out _ hS2).trans j.any);clear hS2;replace r:=O (r.new (fun _ j=>m.lt j) H j R);have HBSb23:=O H;replace m:=O (m.keep j fun _ h=>h.elim);replace J:=O (j.blk J.out id);replace K:=O (j.blk K.out id);replace T:=O (j.blk T.out id);replace U:=O (j.blk U.out id);clear j R H;go_wp2_with fail;clear hw_w5;rw[HBSb23.out];refine⟨hS3,?_⟩;refine wA9 14 ?_;go_wp2_with fail;have HFB:=O (r.b 0)
 have HI:Hid (∀k wr,WJ w5 a dv dc D lv k wr->wr.heap[b23]?=some (.cells #[.func (.func 131) #[.pointer a] #[],.func (.func 132) #[.pointer a] #[],.func (.func 187) #[] #[.pointer p0,.pointer p1],.func (.func 188) #[] #[.pointer q0,.pointer q1],.func (.func 135) #[.pointer a] #[]] 113 (0,0))):=O (by
  rintro k wr (⟨-,j⟩|⟨-,j,-⟩)
  ·exact j.blk HFB.out id
  ·exact j.blk HFB.out (fun e=>(r.aq 0) (.inl e)))
 have HCK:Hid (∀k,k<5->k≤5->∃G x,((#[.func (.func 131) #[.pointer a] #[],.func (.func 132) #[.pointer a] #[],.func (.func 187) #[] #[.pointer p0,.pointer p1],.func (.func 188) #[] #[.pointer q0,.pointer q1],.func (.func 135) #[.pointer a] #[]]:Array Value).getD k .nilFunc=.func (.func G) #[] x\/(#[.func (.func 131) #[.pointer a] #[],.func (.func 132) #[.pointer a] #[],.func (.func 187) #[] #[.pointer p0,.pointer p1],.func (.func 188) #[] #[.pointer q0,.pointer q1],.func (.func 135) #[.pointer a] #[]]:Array Value).getD k .nilFunc=.func (.func G) x #[])/\(∀w,Sem.run Tryz.prog (callFunc G x) w=.ok (.enter G x) w)/\∀wr,WJ w5 a dv dc D lv k wr->Calls Tryz.prog G x wr fun e w'=>e=.returned (.int .i64 0)/\WJ w5 a dv dc D lv (k+1) w'):=O (by
  intro k j hm
  match k,j,hm with
  | 0,_,_=>exact ckj (by decide) (.inr rfl) (fun w=>by rfl) fun wr k=>Co (m.keep k fun _ h=>h.elim)
  | 1,_,_=>exact ckj (by decide) (.inr rfl) (fun w=>by rfl) fun wr k=>Cp (m.keep k fun _ h=>h.elim)
  | 2,_,_=>exact ckj (by decide) (.inl rfl) (fun w=>by rfl) fun wr k=>rki (by rw[HDB.out];rfl) (EA (m.keep k fun _ h=>h.elim) (d:Int) p0 p1 (k.blk J.out id) (k.blk K.out id))
  | 3,_,_=>exact ckj (by decide) (.inl rfl) (fun w=>by rfl) fun wr k=>rA (m.keep k fun _ h=>h.elim) hd q0 q1 (k.blk T.out id) (k.blk U.out id)
  | 4,_,_ =>
    refine⟨135,#[.pointer a],.inr rfl,fun w=>by rfl,fun wr hw=>?_⟩;rcases hw with⟨-,k1⟩|⟨e,-⟩
    ·refine(Dh (k1.blk m.top id)).mono ?_
     rintro e w' ⟨h1,h2,h3⟩;exact⟨h1,.inr ⟨rfl,k1.trans' h2 (fun _ _ h=>h.elim) (fun _ _ h=>h),h3⟩⟩
    ·exact absurd e (by decide))
 refine(oU w5 (d:Int) b23 5 5 #[.func (.func 131) #[.pointer a] #[],.func (.func 132) #[.pointer a] #[],.func (.func 187) #[] #[.pointer p0,.pointer p1],.func (.func 188) #[] #[.pointer q0,.pointer q1],.func (.func 135) #[.pointer a] #[]] (fun _=>0) (WJ w5 a dv dc D lv) (by decide) (by decide) HI.out (by intro k j;match k,j with
  | 0,_=>rfl
  | 1,_=>rfl
  | 2,_=>rfl
  | 3,_=>rfl
  | 4,_=>rfl) (.inl ⟨by decide,aA.refl _ _⟩) (fun _ _=>rfl) (fun h=>absurd h (by decide)) HCK.out).mono ?_
 rintro e w6 ⟨h1,h2,hwi⟩;clear HCK HFB HI J K T U;obtain rfl:=h1 rfl
 obtain⟨j,st',htop⟩:aA (fun i=>i=a) w5 w6/\∃st',w6.heap[a]?=some (.cells #[.slice dv D dc,lv,.int .i64 (-1),.bool false,.int .i64 st'] fB (0,0)):=by
  rcases hwi with⟨h6,-⟩|⟨-,h6⟩
  ·exact absurd h6 (by decide)
  ·exact h6
 have hkB:aA (dX a dv lv f D) w5 w6:=j.mono fun _ _ e=>.inl e
 have hS4:=L.out _ ((q.out _ hS3).trans hkB);replace r:=O (r.turn (B:=(dX a dv lv f D)) (B':=(dX a dv lv f D)) hkB (fun _ _ h=>h) (fun _ _ h=>h));replace m:=O (m.top2 j htop);clear h1 h2 hwi j hkB htop hS3;go_wp2_with fail;refine⟨hS4,?_⟩;refine tna 15 .nilIface rfl hS4 ?_;refine wpAnyH_done (by kernel_rfl) ?_ _;clear hS4 q L u Q;obtain⟨n,hn_⟩:∃n,W.length=n:=⟨_,rfl⟩
 have HN:=O hn_;have HLN:Hid (lv=.slice p2 n cap2):=O (by rw[←hn_];exact HLV.out);have hnn:W.length<100000000000:=by rw[HW.out];exact hn
 clear hn_;have c1:w6.cell? ⟨a,1,none⟩=some (.slice p2 n cap2):=(by rw[←HLN.out];exact aC (i:=1) m.top rfl)
 go_wp2_with fail;clear c1;have HKX:=O r.keep.size;have hr:=Rd.of_owns m.loose;rw[HLV.out] at hr;have HPT:=B6 w6 W d p2 cap2 hr m.wok hnn b3 (r.b 1);rw[HN.out] at HPT;clear hr;refine(HPT).mono ?_;rintro e w7 ⟨yv,nv,rfl,hoy,hon,j⟩;replace r:=kL r j;replace m:=O (m.keep j fun _ h=>h.elim);clear j;obtain⟨Y,hY⟩:∃l,(W.filter fun x=>decide (x.dev=d))=l:=⟨_,rfl⟩
 obtain⟨N,hN⟩:∃l,(W.filter fun x=>!decide (x.dev=d))=l:=⟨_,rfl⟩
 rw[hY] at hoy;rw[hN] at hon;obtain⟨py,cy,rfl,-,-⟩:=(Rd.of_owns hoy).form;obtain⟨pn,cn,rfl,-,-⟩:=(Rd.of_owns hon).form;have HYE:=O hY;have HNE:=O hN;obtain⟨my,hmy⟩:∃n,Y.length=n:=⟨_,rfl⟩
 obtain⟨mn,hmn⟩:∃n,N.length=n:=⟨_,rfl⟩
 have HMY:=O hmy;have HMN:=O hmn;have hmx:my≤maxLen:=by obtain⟨_,a',c',h1,h2,h3,-⟩:=Rd.of_owns hoy;omega
 unfold maxLen at hmx;rw[hmy] at hoy;rw[hmn] at hon;rw[hmy,hmn];have C:=O hoy;have z:=O hon;clear hY hN hmy hmn hoy hon;go_wp2_with fail;obtain⟨B0,hB0⟩:∃B0,w7.heap.size=B0:=⟨_,rfl⟩
 have HLb:=O r.tail
 have HYW:Hid (∀y∈Y,y.dev=d/\y.b.length=256/\y.at_<Z):=O (by
  intro y hy;rw[←HYE.out,List.mem_filter] at hy;have:=m.wok y hy.1;exact⟨by simpa using hy.2,this.1,this.2.2⟩)
 have HH0:=O (show bU w7 a dv dc lv st' f (nF F d (Y.take 0)) W D Z from by
  have e:nF F d (Y.take 0)=F:=by funext d' s';unfold nF;split<;>rfl
  rw[e];exact m.out)
 go_loopw [40] (fun i wr=>∃k:Nat,k≤my/\i=.int .i64 k/\Hid (Loc (dX a dv lv f D) (dX a dv lv f D) w wr [(b3,#[.int .i64 (d:Int)],3)])/\Hid (bU wr a dv dc lv st' f (nF F d (Y.take k)) W D Z)/\Hid (wr.ownsRow w.heap.size WrT 258 (.slice py my cy) my (dF Y))/\Hid (wr.ownsRow w.heap.size WrT 258 (.slice pn mn cn) mn (dF N))) (fun i _=>my-(intOf i).toNat)
 case atStart=>exact⟨0,by omega,rfl,HLb,HH0,O (aQ C.out HKX.out),O (aQ z.out HKX.out)⟩
 case round =>
  clear r m C z HLb HH0;obtain⟨k,j,rfl,r,m,C,z⟩:=hrel
  by_cases hk8:k<my
  ·obtain⟨x,hx⟩:∃x,Y[k]?=some x:=⟨Y[k]'(by rw[HMY.out];exact hk8),List.getElem?_eq_getElem _⟩
   have hxy:=HYW.out x (List.mem_of_getElem? hx);have hYok:vT D Z Y:=fun y hy=>by have:=HYW.out y hy;exact⟨this.2.1,by omega,this.2.2⟩
   obtain⟨g,o,rfl,hat⟩:=L4 (by have:=Rd.of_owns C.out;exact this) hYok hx;have HX:=O hat;have HXX:=O hx;have X:=kZ hxy.2.1;have hxb:(x.b.map vb).length=256:=by rw[List.length_map];exact hxy.2.1
   have hxd:=hxy.1;have hxa:(x.at_:Int)<(Z:Int):=by omega
   have hxa2:x.at_<Z:=hxy.2.2;have hxa0:(0:Int)≤(x.at_:Int):=by omega
   have hk0:(0:Int)≤(k:Int):=by omega
   have hk1:(k:Int)<(my:Int):=by omega
   have hfd:(dX a dv lv f D) (f d):=.inr (.inr (.inr ⟨d,hd,rfl⟩))
   have hnwr:∀i,(Value.slice (some ⟨g,o,none⟩) my cy).ownBlock=some i->¬i=f d:=fun i hi e=>by
    obtain⟨cur,hc⟩:=aO C.out hi;have P:=m.firm d hd;rw[←e,hc] at P;simp[WrT,gW] at P
   have hnwn:∀i,(Value.slice pn mn cn).ownBlock=some i->¬i=f d:=fun i hi e=>by
    obtain⟨cur,hc⟩:=aO z.out hi;have P:=m.firm d hd;rw[←e,hc] at P;simp[WrT,gW] at P
   clear hat hx hxy hYok
   go_wp2_with ((with_reducible show WL _ _);first
    | refine wpList_load_mid rfl 212 (.tmp 42) rfl g (o+k*258) rfl (eA x) _ HX.out pA rfl (by rw[X];exact kD) ?_
    | refine al 212 (.agg gB.toArray) (gB.toArray) AF ?_)
   intro b9 w8 H hk0 hb0_
   go_wp2_with ((with_reducible show WL _ _);refine sta 212 (.tmp 9) (.tmp 43) b9 0 (eA x) hb0_ (by first|decide|(rw[List.size_toArray,X];exact Nat.le_refl _)|simp[X,iX]) (by rw[X];exact kD) (sP x) ?_)
   intro w9 j R;rw[aK _ _ (by first|rfl|(rw[List.size_toArray,X];rfl)|simp[X,iX])] at R;replace j:=tX hk0 j (fun i hi e=>by omega);replace r:=O (r.new (fun _ j=>m.lt j) H j R);replace HX:=O (j.rangeAt HX.out);replace m:=O (m.keep j fun _ h=>h.elim);replace C:=O (j.owns C.out fun _ _=>id);replace z:=O (j.owns z.out fun _ _=>id);clear H j R hk0 hb0_;clear HX;go_wp2_with fail;go_wp2_with fail;refine dwA (fun k=>k=f d) (by kernel_rfl) ?_;intro wa S q L A I;replace r:=kL r I;replace m:=O (m.keep I fun _ h=>h.elim);replace C:=O (I.owns C.out fun _ _=>id);replace z:=O (I.owns z.out fun _ _=>id);clear I;have u:=r;have Q:=m;have HOYs:=C;have HONs:=z;refine tna 0 (.pointer a) rfl A ?_;refine tnb 1 (.pointer a) rfl A ?_;refine tnb 2 (.pointer a) rfl A ?_;refine tnd 3 (.slice dv D dc) rfl (.inl ⟨by rfl,fun w' E=>by have c:=(q.out w' E).cell (aC (i:=0) Q.top rfl) (Q.ne.2.1 d hd);go_simp⟩) A ?_;refine tnd 4 (.int .i64 (d:Int)) rfl (.inl ⟨by rfl,fun w' E=>by have c:=aC (i:=0) ((q.out w' E).blk (u.b 1) (u.nin hfd 1)) rfl;go_simp⟩) A ?_;refine tnb 5 (.pointer (some ⟨dv,d*5,none⟩)) rfl A ?_;refine tnb 6 (.pointer (some ⟨dv,d*5,none⟩)) rfl A ?_;refine tnd 7 (.slice (some ⟨f d,0,none⟩) Z Z) rfl (.inl ⟨by rfl,fun w' E=>by have c:=(q.out w' E).cell (show World.cell? _ ⟨dv,d*5,none⟩=some (.slice (some ⟨f d,0,none⟩) Z Z) from Q.dev hd 0 _ rfl) (Q.ne3 d hd);go_simp⟩) A ?_;refine tnb 8 (.pointer (some ⟨b9,1,none⟩)) rfl A ?_;refine tnd 9 (.int .i64 (x.at_:Int)) rfl (.inl ⟨by rfl,fun w' E=>by have c:=(aC (i:=1) ((q.out w' E).blk (u.b 0) (u.nin hfd 0)) (by rw[List.getElem?_toArray];rfl));go_simp⟩) A ?_;refine tnb 10 (.pointer (some ⟨b9,2,none⟩)) rfl A ?_;refine tnd 11 (.agg (x.b.map vb).toArray) rfl (yieldsIf_load_mid (by rfl) 210 (.tmp 54) rfl b9 2 rfl (x.b.map vb) _ (fun w' h=>(De ((q.out w' h).blk (u.b 0) (u.nin hfd 0)))) Tryz.underlying210 rfl (by rw[hxb];exact lA)) A ?_;refine tnb 12 (.pointer (some ⟨f d,x.at_*256,none⟩)) rfl A ?_;refine wA9 13 ?_;refine sta gW (.tmp 56) (.tmp 55) (f d) (x.at_*256) (x.b.map vb) (m.firm d hd) (by rw[hxb,List.size_toArray,uX fun t ht=>m.fok d t hd ht];omega) (by rw[hxb];exact lA) (bS _) ?_;intro wb j R;rw[Dk _ hxa2 x.b (by rw[←List.length_map (f:=vb)];exact hxb) fun t ht=>m.fok d t hd ht] at R;have V:=L.out _ ((q.out _ A).trans j);have HT:=O (m.turn hd hxa2 (by rw[←List.length_map (f:=vb)];exact hxb) j R);rw[IY F d (Y.take k) x hxd,show Y.take k++[x]=Y.take (k+1) by rw[List.take_add_one,HXX.out];rfl] at HT;replace r:=O (r.turn (B:=(dX a dv lv f D)) (B':=(dX a dv lv f D)) (j.mono fun _ _ e=>e▸hfd) (fun _ _ h=>h) (fun _ _ h=>h));replace C:=O (j.owns C.out hnwr);replace z:=O (j.owns z.out hnwn);clear j R A;refine wpList_nil ?_;refine⟨V,?_⟩;refine wpAnyH_done (by kernel_rfl) ?_ _;clear V q L u Q HOYs HONs;clear m;go_wp2
   go_roundw
   case rel=>exact⟨k+1,by omega,by go_num,O r.tail,HT,C,z⟩
   case measure=>simp[intOf];omega
  ·obtain rfl:my=k:=by omega
   rw[List.take_of_length_le (by rw[HMY.out];exact Nat.le_refl _)] at m;have HTOP:=O m.top
   go_wp2_with ((with_reducible show WL _ _);refine sta 141 (.tmp 61) (.tmp 59) a 1 [.slice pn mn cn] HTOP.out (by simp) (by kernel_rfl) (one9) ?_)
   intro w9 hk9 hb9;replace hb9:w9.heap[a]?=some (.cells #[.slice dv D dc,.slice pn mn cn,.int .i64 (-1),.bool false,.int .i64 st'] fB (0,0)):=hb9
   have HP:Hid (Bo w a (dX a dv lv f D) D Z M nw (.returned (.int .i64 0)) w9):=O (by
    have h:=m.out;refine⟨rfl,dX a dv (.slice pn mn cn) f D,mn,⟨dv,dc,_,st',f,nF F d Y,N,⟨hb9,?_,?_,h.inj,?_,?_,h.fok,h.bd⟩,rfl,HMN.out,?_⟩,?_,?_,?_⟩
    ·exact hk9.owns h.devs fun i hi e=>h.ne.1 (by cases hi;exact e.symm)
    ·exact fun e he=>hk9.blk (h.firm e he) fun e2=>h.ne.2.1 e he e2.symm
    ·rw[HMN.out]
     refine hk9.owns (aQ z.out (Nat.zero_le _)) fun i hi e=>?_
     obtain⟨cur,hc⟩:=aO z.out hi;have P:=h.top;rw[←e,hc] at P;simp[WrT,fB] at P
    ·intro y hy
     rw[←HNE.out,List.mem_filter] at hy;exact h.wok y hy.1
    ·intro d' s' h1 h2
     rw[←HNE.out,←HYE.out,KN];exact HM.out d' s' h1 h2
    ·rw[←HMN.out,←HNE.out,←HW.out]
     exact List.length_filter_le _ _
    ·rintro k (rfl|rfl|j|j)
     ·exact .inl (.inl rfl)
     ·exact .inl (.inr (.inl rfl))
     ·exact .inr (aU z.out j)
     ·exact .inl (.inr (.inr (.inr j)))
    ·exact r.keep.trans (hk9.mono fun _ _ e=>.inl e))
   clear hk9 hb9;go_wp2;go_ret;exact HP.out
def zB:List UInt8:=List.replicate 256 0
theorem Dl(Z:Nat):(madeCells dH.toArray (Z*256)).toList=dG (fun _=>zB) Z:=by
 have t:(dG (fun _=>zB) Z).length=Z*256:=uX fun s u=>rfl
 apply List.ext_getElem?;intro j
 by_cases i:j<Z*256
 ·obtain⟨q,r,rfl,e⟩:∃q r,j=q*256+r/\r<256:=⟨j / 256,j % 256,by omega,by omega⟩
  have m:q<Z:=by omega
  have h:(dG (fun _=>zB) Z)[q*256+r]?=some (.int .u8 0):=gA (c:=fun _=>zB.map vb) (n:=256) (l:=List.range Z) (fun x y=>rfl) (iO m) (by
   have:zB.map vb=List.replicate 256 (.int .u8 0):=by rfl
   rw[this,List.getElem?_replicate,if_pos e])
  rw[h];unfold madeCells;rw[Array.getElem?_toList,Array.getElem?_map,Array.getElem?_range,if_pos i];have o:dH.toArray.size=256:=rfl;show some (dH.toArray[(q*256+r) % dH.toArray.size]!)=_;rw[o,show (q*256+r) % 256=r by omega]
  have:dH.toArray[r]?=some (.int .u8 0):=by
   unfold dH;rw[List.getElem?_toArray,List.getElem?_replicate,if_pos e]
  rw[getElem!_def,this]
 ·rw[List.getElem?_eq_none (by rw[Array.length_toList,size_madeCells];omega),List.getElem?_eq_none (by omega)]
theorem B7(f:Nat->Nat)(Z k g:Nat):gV (fun d=>if d=k then g else f d) Z (k+1)=gV f Z k++[.slice g Z Z,.bool false,.int .u8 0,.int .i64 0,.int .i64 0]:=by
 unfold gV;rw[List.range_succ,List.flatMap_append]
 congr 1
 ·rw[List.flatMap_def,List.flatMap_def]
  congr 1
  refine List.map_congr_left fun d e=>?_
  have:=List.mem_range.1 e;show ([.slice (some ⟨if d=k then g else f d,0,none⟩) Z Z,.bool false,.int .u8 0,.int .i64 0,.int .i64 0]:List Value)=_;rw[if_neg (by omega)];rfl
 ·simp[zG]
structure NwI(w wr:World)(a k Z:Nat)(p:Option Addr)(c:Nat)(f:Nat->Nat):Prop where
 top:wr.heap[a]?=some (.cells #[.slice p k c,.slice none 0 0,.int .i64 (-1),.bool false,.int .i64 0] fB (0,0))
 own:wr.ownsRow w.heap.size fL 5 (.slice p k c) k (gV f Z k)
 firm:∀d,d<k->wr.heap[f d]?=some (.cells (dG (fun _=>zB) Z).toArray gW (0,0))
 inj:∀d e,d<k->e<k->f d=f e->d=e
 ge:w.heap.size≤a/\∀d,d<k->w.heap.size≤f d
 keep:aA aB w wr
theorem NwI.next{P:World}{a o c2:Nat}{f:Nat->Nat}(h:NwI w wr a k Z p c f)(hg:wr.heap.size=g)(L:aA aB wr P)(S:P.heap[g]?=some (.cells (dG (fun _=>zB) Z).toArray gW (0,0)))(y:aA aB P we)
 (Q:w8.ownsRow w.heap.size fL 5 (.slice o (k+1) c2) (k+1) (gV f Z k++[.slice g Z Z,.bool false,.int .u8 0,.int .i64 0,.int .i64 0])) (z:aA (fun i=>(Value.slice p k c).ownBlock=some i) we w8)
 (X:(Value.slice o (k+1) c2).ownBlock=(Value.slice p k c).ownBlock\/(Value.slice o (k+1) c2).ownBlock=some we.heap.size)
 (A:aA (fun i=>i=a) w8 w9) (T:w9.heap[a]?=some (.cells #[.slice o (k+1) c2,.slice none 0 0,.int .i64 (-1),.bool false,.int .i64 0] fB (0,0))):NwI w w9 a (k+1) Z o c2 (fun d=>if d=k then g else f d):=by
 have u:∀i,(Value.slice p k c).ownBlock=some i->i≠g/\∀d,d<k->i≠f d:=fun i r=>by
  obtain⟨cur,m⟩:=aO h.own r;refine⟨fun e=>?_,fun d j e=>?_⟩
  ·have:=lt_of_block m;omega
  ·have:=h.firm d j
   rw[←e,m] at this;simp[fL,gW] at this
 have H:a≠g:=fun e=>by have:=lt_of_block h.top;omega
 have E:∀d,d<k->a≠f d:=fun d j e=>by
  have:=h.firm d j;rw[←e,h.top] at this;simp[fB,gW] at this
 have J:w9.heap[g]?=some (.cells (dG (fun _=>zB) Z).toArray gW (0,0)):=A.blk (z.blk (y.blk S id) fun e=>(u g e).1 rfl) fun e=>H e.symm
 have I:∀d,d<k->w9.heap[f d]?=some (.cells (dG (fun _=>zB) Z).toArray gW (0,0)):=fun d j=>A.blk (z.blk (y.blk (L.blk (h.firm d j) id) id) fun e=>(u _ e).2 d j rfl) fun e=>E d j e.symm
 have K:o≠a:=by
  intro e;obtain⟨cur,m⟩:=aO Q (k:=o) rfl
  have R:w8.heap[a]?=some (.cells #[.slice p k c,.slice none 0 0,.int .i64 (-1),.bool false,.int .i64 0] fB (0,0)):=z.blk (y.blk (L.blk h.top id) id) fun q=>by
   obtain⟨cur,m⟩:=aO h.own q;rw[h.top] at m;simp[fB,fL] at m
  rw[e,R] at m;simp[fB,fL] at m
 have t:∀d,d<k->f d<g:=fun d j=>by have:=lt_of_block (h.firm d j);omega
 refine⟨T,?_,?_,?_,⟨h.ge.1,?_⟩,?_⟩
 ·rw[B7]
  exact A.owns Q fun i r e=>K (by cases r;exact e)
 ·intro d j
  by_cases e:d=k
  ·rw[if_pos e];exact J
  ·rw[if_neg e];exact I d (by omega)
 ·intro d e j he l
  by_cases C:d=k
  ·by_cases q:e=k
   ·omega
   ·rw[if_pos C,if_neg q] at l
    have:=t e (by omega);omega
  ·by_cases q:e=k
   ·rw[if_neg C,if_pos q] at l
    have:=t d (by omega);omega
   ·rw[if_neg C,if_neg q] at l
    exact h.inj d e (by omega) (by omega) l
 ·intro d j
  by_cases e:d=k
  ·rw[if_pos e];have:=h.keep.size;omega
  ·rw[if_neg e];exact h.ge.2 d (by omega)
 ·have V:=((h.keep.trans L).trans y).trans' z (U:=aB) (fun _ _ h=>h) fun i r e=>by have:=aU h.own e;omega
  exact V.trans' A (fun _ _ h=>h) fun i r e=>by have:=h.ge.1;omega
def Dm(w:World)(D Z:Nat)(e:Ending)(w':World):Prop:=∃a B,e=.returned (.tuple #[.pointer (some ⟨a,0,none⟩),.int .i64 0])/\bR w' a B D Z (fun _ _=>zB) 0/\(∀k,B k->w.heap.size≤k)/\aA aB w w'
theorem pB:(Tryz.prog.info? fL).map (fun i=>(i.zero,i.size,i.bytes))=some (some (.agg #[.slice none 0 0,.bool false,.int .u8 0,.int .i64 0,.int .i64 0]),5,48):=by kernel_rfl
theorem MF:∃i,Tryz.prog.info? gW=some i/\i.zero=some (.agg dH.toArray)/\i.size=256/\i.bytes=256:=by
 have h:(Tryz.prog.info? gW).map (fun i=>(i.zero,i.size,i.bytes))=some (some (.agg dH.toArray),256,256):=by kernel_rfl
 obtain⟨i,o,m⟩:=Option.map_eq_some_iff.1 h;injection m with j e
 injection e with e l
 exact⟨i,o,j,e,l⟩
theorem Dn(g Z:Nat)(w:World):(Instr.build fL #[(0,.slice g Z Z)]).run Tryz.prog w=.ok (.agg ([.slice g Z Z,.bool false,.int .u8 0,.int .i64 0,.int .i64 0]:List Value).toArray) w:=by kernel_rfl
theorem KO(w:World):(Instr.build fB #[(2,.int .i64 (-1))]).run Tryz.prog w=.ok (.agg #[.slice none 0 0,.slice none 0 0,.int .i64 (-1),.bool false,.int .i64 0]) w:=by kernel_rfl
theorem KR(w:World)(D Z:Nat)(hb:2≤D/\D≤8/\8≤Z/\Z≤4096):Calls Tryz.prog 43 #[.int .i64 (D:Int),.int .i64 (Z:Int)] w (Dm w D Z):=by
 have HBD:=O hb;obtain⟨h1,h2,h3,h4⟩:=hb;have e1:¬((D:Int)<2):=by omega
 have e2:¬(8<(D:Int)):=by omega
 have e3:¬((Z:Int)<8):=by omega
 have e4:¬(4096<(Z:Int)):=by omega
 have HL:=lN w;have hbA:=KO;go_in;obtain⟨w1,hw1,hk1,hb1,hs1⟩:=aS w #[.slice none 0 0,.slice none 0 0,.int .i64 (-1),.bool false,.int .i64 0] fB;obtain⟨a,ha⟩:∃a,w.heap.size=a:=⟨_,rfl⟩
 rw[ha] at hb1;have HA:=O ha;have H0:Hid (NwI w w1 a 0 Z none 0 fun _=>0):=O ⟨hb1,World.ownsRow_nil _ _ _ _,fun d hd=>absurd hd (by omega),fun d e hd=>absurd hd (by omega),⟨by omega,fun d hd=>absurd hd (by omega)⟩,hk1⟩;clear hb1 hk1 hs1 h1 h2 h3 h4;go_wp2_with fail;clear hw1 hbA e1 e2 e3 e4
 try rw[ha]
 clear ha
 go_loopw [24] (fun i wr=>∃(k:Nat) (p:Option Addr) (c:Nat) (f:Nat->Nat),k≤D/\i=.int .i64 k/\Hid (NwI w wr a k Z p c f)) (fun i _=>D-(intOf i).toNat)
 case atStart=>exact⟨0,none,0,fun _=>0,by omega,rfl,H0⟩
 case round =>
  clear H0;obtain⟨k,p,c,f,hk,rfl,HI⟩:=hrel
  by_cases hk8:k<D
  ·have hD8:=HBD.2.1
   have hZ4:=HBD.2.2.2;have hk0:(0:Int)≤(k:Int):=by omega
   have hk1:(k:Int)<(D:Int):=by omega
   go_wp2_with fail;obtain⟨S,hS0⟩:∃S:World->Prop,S=fun _=>True:=⟨_,rfl⟩
   have o:Hid (∀w,S w):=O (fun w=>by rw[hS0];trivial);clear hS0;refine wp_region_held (S:=S) (by kernel_rfl) ?_;change wpAnyH _ _ _ _ _ _ _ _ wr.drew;have T:=(aA.refl aB wr).drew;have hS:=o.out wr.drew;generalize wr.drew=wd at T hS ⊢;have q:Hid (NwI w wd a k Z p c f):=O ⟨T.blk HI.top id,T.owns HI.own fun _ _=>id,fun d hd=>T.blk (HI.firm d hd) id,HI.inj,HI.ge,HI.keep.trans T⟩;clear T HI;obtain⟨g,hg⟩:∃g,wd.heap.size=g:=⟨_,rfl⟩
   have HG:=O hg;clear hg;refine tna 0 (.pointer (some ⟨a,0,none⟩)) rfl hS ?_;refine tna 1 (.pointer (some ⟨a,0,none⟩)) rfl hS ?_;refine tnb 2 (.pointer (some ⟨a,0,none⟩)) rfl hS ?_;refine tnb 3 (.pointer (some ⟨a,0,none⟩)) rfl hS ?_;refine tna 5 (.int .i64 (Z:Int)) rfl hS ?_;obtain⟨i,hi,hi1,hi2,hi3⟩:=MF;refine eK (k:=4) (l:=6) rfl rfl (by kernel_rfl) ?_ ?_
   ·have c0:wd.cell? ⟨a,0,none⟩=some (.slice p k c):=aC q.top rfl
    go_wp2_with fail;refine⟨o.out _,?_⟩;clear c0;refine wA9 6 ?_;refine wpList_make_full wd rfl (.tmp 31) (.tmp 31) 144 rfl 0 gW i _ 256 Tryz.underlying144 hi hi1 hi2 .i64 .i64 (Z:Int) (Z:Int) Z rfl rfl rfl rfl (by rw[hi3];omega) (by unfold maxLen;omega) (Nat.zero_le _) ?_;intro wm P hgm;have m:=aA.of_grown hgm;replace m:aA aB wd wm:=m.mono fun _ _ h=>by cases h
    rw[HG.out] at P ⊢
    have hbm:wm.heap[g]?=some (.cells (dG (fun _=>zB) Z).toArray gW (0,0)):=by
     rcases P.2 with⟨e,-⟩|⟨g',cap,cur,e,-,hb,h1,h2,h3,h4⟩
     ·cases e
     ·cases e
      have:cur.toList=dG (fun _=>zB) Z:=by
       rw[←Dl];rw[List.take_of_length_le (by rw[Array.length_toList,h3];exact Nat.le_refl _)] at h4;exact h4
      rw[←this];exact hb
    have J:=O m;have HBM:=O hbm;have HTM:=O (m.blk q.top id);have HOM:=O (m.owns q.own fun _ _=>id);clear P hgm m hbm;refine wpList_nil ?_;refine⟨o.out _,?_⟩;refine tnd 7 (.agg ([.slice (some ⟨g,0,none⟩) Z Z,.bool false,.int .u8 0,.int .i64 0,.int .i64 0]:List Value).toArray) rfl (fH fL #[(0,.tmp 32)] [(0,.slice (some ⟨g,0,none⟩) Z Z)] _ (Dn g Z)) (o.out _) ?_;obtain⟨dc,t⟩:∃l,([.slice (some ⟨g,0,none⟩) Z Z,.bool false,.int .u8 0,.int .i64 0,.int .i64 0]:List Value)=l:=⟨_,rfl⟩
    rw[t];have HDC:=O t;have R:dc.length=5:=by rw[←t];rfl
    have HOC:Hid (∀u∈dc,u.oneCell'=true):=O (by rw[←t];intro u hu;simp only[List.mem_cons,List.not_mem_nil,or_false] at hu;rcases hu with rfl|rfl|rfl|rfl|rfl<;>rfl);obtain⟨we,Q,z,L,-⟩:=aS wm dc.toArray fL;obtain⟨bx,A⟩:∃x,wm.heap.size=x:=⟨_,rfl⟩
    rw[A] at L;have HRN:Hid (Rd we 5 (.slice bx 1 1) 1 dc):=O (dE (n:=1) (size:=5) L (by rw[R]) (by unfold maxLen;omega));have HKE:=O z;have C:=O (z.blk HTM.out id);have K:=O (z.owns HOM.out fun _ _=>id);have hze:=z.size;clear L z t;refine wA9 8 ?_;refine bL rfl 140 fL (.tmp 33) rfl Tryz.underlying140 pB (by decide) dc R (by decide) rfl ?_;rw[Q,A];clear Q A;refine wpList_nil ?_;refine⟨o.out _,?_⟩;have r:w.heap.size≤we.heap.size:=by have h1:=q.keep.size;have h2:=J.size;omega
    refine wA9 9 ?_;refine aL rfl (.tmp 30) (.tmp 34) 140 rfl w.heap.size fL _ 5 48 Tryz.underlying140 pB rfl (by decide) (.slice p k c) k (gV f Z k) rfl K.out (.slice bx 1 1) 1 dc rfl HRN.out HOC.out (by unfold maxLen;omega) (by omega) r ?_;intro v' w8 j y hn5 E;obtain⟨g2,c2,rfl⟩:=ownsRow_succ j
    have HT8:=O (y.blk C.out fun e=>by
     obtain⟨cur,hc⟩:=aO K.out e;rw[C.out] at hc;simp[fB,fL] at hc)
    rw[←HDC.out] at j;have X:=O j;have V:=O y;have U:=O E;clear j y hn5 E;refine wpList_nil ?_;refine⟨o.out _,?_⟩;refine tnb 10 (.pointer (some ⟨a,0,none⟩)) rfl (o.out _) ?_;refine tnb 11 (.pointer (some ⟨a,0,none⟩)) rfl (o.out _) ?_;refine wA9 12 ?_;refine sta 140 (.tmp 37) (.tmp 35) a 0 [.slice g2 (k+1) c2] HT8.out (by simp) (by kernel_rfl) (one9) ?_;intro w9 I H;have HN:=O (q.next HG.out J.out HBM.out HKE.out X.out V.out U.out I H);clear I H;refine wpList_nil ?_;refine⟨o.out _,?_⟩;refine wpAnyH_done (by kernel_rfl) ?_ _;clear o;go_wp2
    go_roundw
    case rel=>exact⟨k+1,_,_,_,by omega,by go_num,HN⟩
    case measure=>simp[intOf];omega
   ·refine wpList_make_full wd rfl (.tmp 31) (.tmp 31) 144 rfl 0 gW i _ 256 Tryz.underlying144 hi hi1 hi2 .i64 .i64 (Z:Int) (Z:Int) Z rfl rfl rfl rfl (by rw[hi3];omega) (by unfold maxLen;omega) (Nat.zero_le _) ?_
    intro wm P hgm;have m:=aA.of_grown hgm;replace m:aA aB wd wm:=m.mono fun _ _ h=>by cases h
    rw[HG.out] at P ⊢
    have hbm:wm.heap[g]?=some (.cells (dG (fun _=>zB) Z).toArray gW (0,0)):=by
     rcases P.2 with⟨e,-⟩|⟨g',cap,cur,e,-,hb,h1,h2,h3,h4⟩
     ·cases e
     ·cases e
      have:cur.toList=dG (fun _=>zB) Z:=by
       rw[←Dl];rw[List.take_of_length_le (by rw[Array.length_toList,h3];exact Nat.le_refl _)] at h4;exact h4
      rw[←this];exact hb
    have J:=O m;have HBM:=O hbm;have HTM:=O (m.blk q.top id);have HOM:=O (m.owns q.own fun _ _=>id);clear P hgm m hbm;refine wpList_nil ?_;refine⟨o.out _,?_⟩;refine tnd 7 (.agg ([.slice (some ⟨g,0,none⟩) Z Z,.bool false,.int .u8 0,.int .i64 0,.int .i64 0]:List Value).toArray) rfl (fH fL #[(0,.tmp 32)] [(0,.slice (some ⟨g,0,none⟩) Z Z)] _ (Dn g Z)) (o.out _) ?_;obtain⟨dc,t⟩:∃l,([.slice (some ⟨g,0,none⟩) Z Z,.bool false,.int .u8 0,.int .i64 0,.int .i64 0]:List Value)=l:=⟨_,rfl⟩
    rw[t];have HDC:=O t;have R:dc.length=5:=by rw[←t];rfl
    have HOC:Hid (∀u∈dc,u.oneCell'=true):=O (by rw[←t];intro u hu;simp only[List.mem_cons,List.not_mem_nil,or_false] at hu;rcases hu with rfl|rfl|rfl|rfl|rfl<;>rfl);obtain⟨we,Q,z,L,-⟩:=aS wm dc.toArray fL;obtain⟨bx,A⟩:∃x,wm.heap.size=x:=⟨_,rfl⟩
    rw[A] at L;have HRN:Hid (Rd we 5 (.slice bx 1 1) 1 dc):=O (dE (n:=1) (size:=5) L (by rw[R]) (by unfold maxLen;omega));have HKE:=O z;have C:=O (z.blk HTM.out id);have K:=O (z.owns HOM.out fun _ _=>id);have hze:=z.size;clear L z t;refine eK (k:=4) (l:=8) rfl rfl (by kernel_rfl) ?_ ?_
    ·have c0:wm.cell? ⟨a,0,none⟩=some (.slice p k c):=aC HTM.out rfl
     go_wp2_with fail;refine⟨o.out _,?_⟩;clear c0;refine wA9 8 ?_;refine bL rfl 140 fL (.tmp 33) rfl Tryz.underlying140 pB (by decide) dc R (by decide) rfl ?_;rw[Q,A];clear Q A;refine wpList_nil ?_;refine⟨o.out _,?_⟩;have r:w.heap.size≤we.heap.size:=by have h1:=q.keep.size;have h2:=J.size;omega
     refine wA9 9 ?_;refine aL rfl (.tmp 30) (.tmp 34) 140 rfl w.heap.size fL _ 5 48 Tryz.underlying140 pB rfl (by decide) (.slice p k c) k (gV f Z k) rfl K.out (.slice bx 1 1) 1 dc rfl HRN.out HOC.out (by unfold maxLen;omega) (by omega) r ?_;intro v' w8 j y hn5 E;obtain⟨g2,c2,rfl⟩:=ownsRow_succ j
     have HT8:=O (y.blk C.out fun e=>by
      obtain⟨cur,hc⟩:=aO K.out e;rw[C.out] at hc;simp[fB,fL] at hc)
     rw[←HDC.out] at j;have X:=O j;have V:=O y;have U:=O E;clear j y hn5 E;refine wpList_nil ?_;refine⟨o.out _,?_⟩;refine tnb 10 (.pointer (some ⟨a,0,none⟩)) rfl (o.out _) ?_;refine tnb 11 (.pointer (some ⟨a,0,none⟩)) rfl (o.out _) ?_;refine wA9 12 ?_;refine sta 140 (.tmp 37) (.tmp 35) a 0 [.slice g2 (k+1) c2] HT8.out (by simp) (by kernel_rfl) (one9) ?_;intro w9 I H;have HN:=O (q.next HG.out J.out HBM.out HKE.out X.out V.out U.out I H);clear I H;refine wpList_nil ?_;refine⟨o.out _,?_⟩;refine wpAnyH_done (by kernel_rfl) ?_ _;clear o;go_wp2
     go_roundw
     case rel=>exact⟨k+1,_,_,_,by omega,by go_num,HN⟩
     case measure=>simp[intOf];omega
    ·refine bL rfl 140 fL (.tmp 33) rfl Tryz.underlying140 pB (by decide) dc R (by decide) rfl ?_
     rw[Q,A];clear Q A;refine wpList_nil ?_;refine⟨o.out _,?_⟩;refine wA9 4 ?_;have c0:we.cell? ⟨a,0,none⟩=some (.slice p k c):=aC C.out rfl;go_wp2_with fail;refine⟨o.out _,?_⟩;clear c0;have r:w.heap.size≤we.heap.size:=by have h1:=q.keep.size;have h2:=J.size;omega
     refine wA9 9 ?_;refine aL rfl (.tmp 30) (.tmp 34) 140 rfl w.heap.size fL _ 5 48 Tryz.underlying140 pB rfl (by decide) (.slice p k c) k (gV f Z k) rfl K.out (.slice bx 1 1) 1 dc rfl HRN.out HOC.out (by unfold maxLen;omega) (by omega) r ?_;intro v' w8 j y hn5 E;obtain⟨g2,c2,rfl⟩:=ownsRow_succ j
     have HT8:=O (y.blk C.out fun e=>by
      obtain⟨cur,hc⟩:=aO K.out e;rw[C.out] at hc;simp[fB,fL] at hc)
     rw[←HDC.out] at j;have X:=O j;have V:=O y;have U:=O E;clear j y hn5 E;refine wpList_nil ?_;refine⟨o.out _,?_⟩;refine tnb 10 (.pointer (some ⟨a,0,none⟩)) rfl (o.out _) ?_;refine tnb 11 (.pointer (some ⟨a,0,none⟩)) rfl (o.out _) ?_;refine wA9 12 ?_;refine sta 140 (.tmp 37) (.tmp 35) a 0 [.slice g2 (k+1) c2] HT8.out (by simp) (by kernel_rfl) (one9) ?_;intro w9 I H;have HN:=O (q.next HG.out J.out HBM.out HKE.out X.out V.out U.out I H);clear I H;refine wpList_nil ?_;refine⟨o.out _,?_⟩;refine wpAnyH_done (by kernel_rfl) ?_ _;clear o;go_wp2
     go_roundw
     case rel=>exact⟨k+1,_,_,_,by omega,by go_num,HN⟩
     case measure=>simp[intOf];omega
  ·obtain rfl:D=k:=by omega
   have HP:Hid (Dm w D Z (.returned (.tuple #[.pointer (some ⟨a,0,none⟩),.int .i64 0])) wr):=O (by
    have h:=HI.out
    have hp:∃dv,p=some ⟨dv,0,none⟩:=by
     rcases h.own.2 with⟨-,e⟩|⟨g,cap,cur,e,-⟩
     ·have:=HBD.1;omega
     ·cases e;exact⟨_,rfl⟩
    obtain⟨dv,rfl⟩:=hp;refine⟨a,dX a dv (.slice none 0 0) f D,rfl,⟨dv,c,.slice none 0 0,0,f,fun _ _=>zB,[],⟨h.top,aQ h.own (Nat.zero_le _),h.firm,h.inj,World.ownsRow_nil _ _ _ _,(fun x hx=>by cases hx),fun _ _ _ _=>rfl,HBD.out⟩,rfl,rfl,fun _ _ _ _=>rfl⟩,?_,h.keep⟩;rintro k (rfl|rfl|hk|⟨d,hd,rfl⟩)
    ·exact h.ge.1
    ·exact aU h.own (k:=k) rfl
    ·cases hk
    ·exact h.ge.2 d hd)
   clear HI;go_wp2
   go_ret2
   exact HP.out
end
end Go.Proofs.YtiinnfhjpaeffaaGreat
