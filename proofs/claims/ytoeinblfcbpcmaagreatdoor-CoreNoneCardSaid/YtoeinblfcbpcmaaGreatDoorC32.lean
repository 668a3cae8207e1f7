import Derived.Test.YtoeinblfcbpcmaaGreatDoorC18
import Derived.LaidEql
import Derived.Stop.Asserts
import Derived.RowKitTokens
import Derived.OwnWalk
namespace Go.Proofs.YtoeinblfcbpcmaaGreatDoor
open Tryz
set_option maxHeartbeats 0
set_option maxRecDepth 100000
set_option linter.unusedVariables false
section
open Go.RowKit
abbrev esV(a:Addr):Value:=.iface 385 (.pointer (some a))
abbrev jeV(b:Nat):Value:=.iface 367 (.pointer b)
variable{w w':World}{b base jb:Nat}{l:List Value}{sv x:Value}
theorem NG(v:Value)(w:World):(Extern.ReflectliteType.typeOf #[.iface 385 v]).run prog w=.ok (.iface 307 (.agg #[.pointer (some ⟨3,385,none⟩)])) w:=by kernel_rfl
theorem Fs(w : World) : ((Extern.ReflectliteType.method fun t => do Extern.Rtype.noPackHeld "Comparable" t; (fun a => Value.bool a.comparable) <$> typeInfo t) #[.agg #[.pointer (some ⟨3, 385, none⟩)]]).run prog w = .ok (.bool true) w := by kernel_rfl
theorem yE(v : Value)(w : World) : (Go.method 527 307 v "Comparable").run prog w = .ok (320, v) w := by kernel_rfl
theorem Cx(v : Value)(w : World) : (Go.method 527 367 v "Unwrap").run prog w = .ok (331, v) w := by kernel_rfl
theorem Lu:(prog.info? 385).map (·.comparable)=some true:=by kernel_rfl
theorem Lv:(prog.info? 415).map (·.size)=some 1:=by kernel_rfl
theorem QR(v:Value)(a:TypeId)(w:World):(Instr.typeAssert (.iface 385 v) a 309 true).run prog w=.ok (.tuple #[.nilIface,.bool false]) w:=run_typeAssert_lacksB underlying309 (by kernel_rfl) (by kernel_rfl) v a w
theorem Lx(v:Value)(a:TypeId)(w:World):(Instr.typeAssert (.iface 385 v) a 312 true).run prog w=.ok (.tuple #[.nilIface,.bool false]) w:=run_typeAssert_lacksB underlying312 (by kernel_rfl) (by kernel_rfl) v a w
theorem I4(v:Value)(a:TypeId)(w:World):(Instr.typeAssert (.iface 385 v) a 314 true).run prog w=.ok (.tuple #[.nilIface,.bool false]) w:=run_typeAssert_lacksB underlying314 (by kernel_rfl) (by kernel_rfl) v a w
theorem QS(v:Value)(a:TypeId)(w:World):(Instr.typeAssert (.iface 367 v) a 309 true).run prog w=.ok (.tuple #[.nilIface,.bool false]) w:=run_typeAssert_lacksB underlying309 (by kernel_rfl) (by kernel_rfl) v a w
theorem Ly(v:Value)(a:TypeId)(w:World):(Instr.typeAssert (.iface 367 v) a 312 true).run prog w=.ok (.tuple #[.nilIface,.bool false]) w:=run_typeAssert_lacksB underlying312 (by kernel_rfl) (by kernel_rfl) v a w
theorem Gq(v:Value)(a:TypeId)(w:World):(Instr.typeAssert (.iface 367 v) a 314 true).run prog w=.ok (.tuple #[.iface 367 v,.bool true]) w:=run_typeAssert_hasB underlying314 (by kernel_rfl) v a w
theorem G3(a:Addr)(w:World):Calls prog 172 #[esV a,esV a,.bool true] w (bM w true):=by
 obtain⟨i,e,c⟩:=Option.map_eq_some_iff.1 Lu;obtain⟨j,f,g⟩:=Option.map_eq_some_iff.1 Lv;have d:=run_eql_iface_ptr_same (P:=prog) w a underlying118 underlying385 e c f;go_in
 go_wp2
 refine wp_loop_rounds 1 ?_;rw[rounds_succ]
 go_wp2
 go_ret;exact⟨rfl,aA.refl _ _⟩
theorem NH(a b:Addr)(f g:Array Value)(p q:TypeId)(w:World)(e:a≠b)(h:w.heap[a.block]?=some (.cells f p (0,0)))(k:w.heap[b.block]?=some (.cells g q (0,0))) :
 Calls prog 172 #[esV a,esV b,.bool true] w (bM w false):=by
 obtain⟨i,n,c⟩:=Option.map_eq_some_iff.1 Lu;obtain⟨j,o,d⟩:=Option.map_eq_some_iff.1 Lv;have r:=QR;have s:=Lx;have t:=I4;have m:=run_eql_iface_ptr_other (P:=prog) w underlying118 underlying385 n c o (by rw[d];decide) e h k;go_in
 go_wp2
 refine wp_loop_rounds 1 ?_;rw[rounds_succ]
 go_wp2
 go_ret;exact⟨rfl,aA.refl _ _⟩
def eY(w:World)(b:Nat)(l:List Value):Prop:=∃sv base,w.heap[b]?=some (.cells #[sv] 369 (0,0))/\w.ownsRow base 118 1 sv l.length l
theorem eY.same(h:eY w b l)(k:aA aB w w'):eY w' b l:=by
 obtain⟨sv,base,a,c⟩:=h;exact⟨sv,base,k.blk a id,k.owns c fun _ _=>id⟩
theorem eY.put{s:Nat}{j:Array Value}{t:TypeId}{m:Nat×Nat}(h:eY w b l)(k:aA (fun i=>i=s) w w')(f:w.heap[s]?=some (.cells j t m))(n:t≠369)(o:t≠118):eY w' b l:=by
 obtain⟨sv,base,a,c⟩:=h;refine⟨sv,base,k.blk a ?_,k.owns c fun g p e=>?_⟩
 ·rintro rfl
  rw[f] at a;cases a
  exact n rfl
 ·subst e
  obtain⟨cur,d⟩:=aH c p;rw[f] at d;cases d
  exact o rfl
theorem I5(w:World)(b:Nat)(sv:Value)(h:w.heap[b]?=some (.cells #[sv] 369 (0,0))):Calls prog 331 #[.pointer b] w fun e w'=>e=.returned sv/\w'=w:=by
 have h0:=aC (i:=0) (v:=sv) h rfl;go_in
 go_wp2
 go_ret;exact⟨rfl,rfl⟩
theorem G4(w:World)(b:Nat)(a:Addr)(l:List Value)(B:List Bool)(G:B.length=l.length)(h:eY w b l)
 (I:∀(i:Nat) v t,l[i]?=some v->B[i]?=some t->∀w',aA aB w w'->Calls prog 172 #[v,esV a,.bool true] w' (bM w' t)) :
 Calls prog 172 #[jeV b,esV a,.bool true] w (bM w (B.any id)):=by
 obtain⟨sv,base,s,J⟩:=h;have r:=Rd.of_owns J;clear J;obtain⟨Y,ca,rfl,-,-⟩:=r.form;have F:=O (I5 w b _ s);obtain⟨n,z⟩:=zX9 l.length
 have N:=O r;have M:=O I;have q:=O z;have D:=O G;rw[z] at F;have X:=QS;have Z:=Ly;have vE:=Gq;have W:=Cx;have A:=run_eql_iface_types (P:=prog) 367 385 (.pointer b) (.pointer (some a)) underlying118 (by decide) w;have y:n≤maxLen:=by obtain⟨_,a',c',s,S,T,-⟩:=r;omega
 unfold maxLen at y;clear r I z G s;go_in
 go_wp2
 refine wp_loop_rounds 1 ?_;rw[rounds_succ];go_wp2_with fail;refine F.mono ?_;rintro e w2 ⟨rfl,L⟩;rw[L];clear X Z vE W A L w2;go_wp2_with fail
 go_loopw [45] (fun i wr=>∃k:Nat,k≤n/\i=.int .i64 k/\Hid (aA aB w wr)/\Hid ((B.take k).any id=false)) (fun i _=>n-(intOf i).toNat)
 case atStart=>exact⟨0,Nat.zero_le _,rfl,O (aA.refl _ _),O rfl⟩
 case round =>
 obtain⟨k,hk,rfl,p,E⟩:=hrel
 by_cases m:k<n
 ·obtain⟨x,C⟩:∃x,l[k]?=some x:=⟨l[k]'(by rw[q.out];exact m),List.getElem?_eq_getElem _⟩
  obtain⟨t,K⟩:∃t,B[k]?=some t:=⟨B[k]'(by rw[D.out,q.out];exact m),List.getElem?_eq_getElem _⟩
  have Q:=O C;have f:=O K;have u:(k:Int)<(n:Int):=by omega
  have V:(0:Int)≤(k:Int):=by omega
  obtain⟨g,o,rfl,H⟩:∃g o,Y=some ⟨g,o,none⟩/\wr.cell? ⟨g,o+k,none⟩=some x:=by
   obtain⟨h0,a2,c2,R,S,T,h4,U⟩:=N.out;obtain⟨g,o,rfl,H⟩:=U (by rw[q.out];omega);exact⟨g,o,by cases R;rfl,by have:=p.cell (by simpa using H k x C) id;simpa using this⟩
  clear C K;go_wp2_with fail;refine(M k x t Q.out f.out wr p.out).mono ?_;rintro e w3 ⟨rfl,j⟩;have c:=O (p.trans j);clear j;have d:Hid ((B.take (k+1)).any id=t):=O (by rw[List.take_add_one,f.out,List.any_append,E.out];simp);cases t
  ·go_wp2
   go_roundw
   case rel=>exact⟨k+1,by omega,by go_num,c,d⟩
   case measure=>simp[intOf];omega
  ·go_wp2
   go_ret;refine⟨?_,c.out⟩
   have h:B.any id=true:=by
    rw[←List.take_append_drop (k+1) B,List.any_append,d.out];rfl
   rw[h];rfl
 ·obtain rfl:k=n:=by omega
  have u:¬((k:Int)<(k:Int)):=by omega
  go_wp2;go_ret;refine⟨?_,p.out⟩;have h:=E.out;rw[List.take_of_length_le (by rw[D.out,q.out];exact Nat.le_refl _)] at h;rw[h];rfl
theorem Df(w:World)(x:Value)(i:TypeId)(v:Value)(g:x=.iface i v)(a:Addr)(t:Bool)(h:Calls prog 172 #[x,esV a,.bool true] w (bM w t)):Calls prog 116 #[x,esV a] w (bM w t):=by
 subst g;have H:=O h;clear h;have k:=@run_callFunc_extern prog 171 _ Extern.ReflectliteType.typeOf func171 (by kernel_rfl) (by kernel_rfl) (by kernel_rfl) (by kernel_rfl);have f := @run_callFunc_extern prog 320 _ (Extern.ReflectliteType.method fun t => do Extern.Rtype.noPackHeld "Comparable" t; pure (.bool (← typeInfo t).comparable)) func320 (by kernel_rfl) (by kernel_rfl) (by kernel_rfl) (by kernel_rfl);have n:=NG;have j:=Fs;have m:=yE;go_in;go_wp2_with fail;refine H.mono ?_;rintro e w' ⟨rfl,c⟩;have d:=O c;clear c;go_wp2;go_ret;exact⟨rfl,d.out⟩
theorem Dg(w:World)(a:Addr):Calls prog 116 #[.nilIface,esV a] w (bM w false):=by
 have c:=run_eql_iface_nil_left (P:=prog) w 385 (.pointer (some a)) underlying118;go_in;go_wp2;go_ret;exact⟨rfl,aA.refl _ _⟩
open Go.RowKit
set_option maxRecDepth 100000
set_option linter.unusedVariables false
theorem tZ:(prog.info? 118).map (fun i=>(i.zero,i.size,i.bytes))=some (some .nilIface,1,16):=by kernel_rfl
structure JSt(w wr:World)(base jb:Nat)(sv:Value)(l:List Value):Prop where
 blk:wr.heap[jb]?=some (.cells #[sv] 369 (0,0))
 own:wr.ownsRow base 118 1 sv l.length l
 keep:aA aB w wr
 le:w.heap.size≤base
 bj:base≤jb
 ne:sv.ownBlock≠some jb
theorem JSt.same{wr:World}(h:JSt w wr base jb sv l)(k:aA aB wr w'):JSt w w' base jb sv l:=
 ⟨k.blk h.blk id,k.owns h.own (fun _ _=>id),h.keep.trans k,h.le,h.bj,h.ne⟩
theorem JSt.put{wr:World}{a:Value}(h:JSt w wr base jb sv l)(o:w'.ownsRow base 118 1 a (l.length+1) (l++[x]))(g:aA (fun k=>sv.ownBlock=some k) wr w')
 (d:a.ownBlock=sv.ownBlock\/a.ownBlock=some wr.heap.size):JSt w (w'.setCell ⟨jb,0,none⟩ a) base jb a (l++[x]):=by
 have m:=g.blk h.blk h.ne
 have c:a.ownBlock≠some jb:=by
  rcases d with e|e
  ·rw[e];exact h.ne
  ·rw[e]
   intro j;have:=lt_of_block h.blk;cases j
   omega
 refine⟨by rw[cH m];rfl,?_,?_,h.le,h.bj,c⟩
 ·rw[List.length_append]
  exact ownsRow_setCell_other o c _
 ·refine(h.keep.tT g (fun i n f=>?_)).trans' ((aA.refl (fun i=>i=jb) w').setCell (p:=⟨jb,0,none⟩) (fun _=>rfl) _) (fun _ _ h=>h) (fun i n f=>?_)
  ·have:=bG h.own f
   have:=h.le;omega
  ·have:=h.le
   have:=h.bj;omega
def AT(w:World)(l:List Value)(e:Ending)(w':World):Prop:=∃jb,e=.returned (jeV jb)/\eY w' jb l/\aA aB w w'/\w.heap.size≤jb
theorem JSt.post{wr:World}(h:JSt w wr base jb sv l):AT w l (.returned (jeV jb)) wr:=⟨jb,rfl,⟨sv,base,h.blk,h.own⟩,h.keep,by have:=h.le;have:=h.bj;omega⟩
theorem Dh{v y:Value}(f:Rd w 1 v 2 [x,y]):∃g o c,v=.slice (some ⟨g,o,none⟩) 2 c/\w.cell? ⟨g,o,none⟩=some x/\w.cell? ⟨g,o+1,none⟩=some y:=by
 obtain⟨h0,a,c,rfl,h,i,j,e⟩:=f;obtain⟨g,o,rfl,d⟩:=e (by omega);exact⟨g,o,c,rfl,by simpa using d 0 x rfl,by simpa using d 1 y rfl⟩
theorem Cy(w:World)(x:Value)(t:TypeId):Rd (w.alloc (.cells #[x] t)) 1 (.slice (w.heap.size) 1 1) 1 [x]:=by
 refine⟨by simp,_,_,rfl,Nat.le_refl _,by unfold maxLen;omega,(by intro h;cases h),fun _=>⟨_,0,rfl,fun i u a=>?_⟩⟩;rw[Nat.zero_add];exact aC (heap_alloc_new _ _) (by simpa using a)
theorem NI(w:World)(v:Value)(E:TypeId)(F:Value)(V:Rd w 1 v 2 [.nilIface,.iface E F]):Calls prog 259 #[v] w (AT w [.iface E F]):=by
 obtain⟨g,o,c,rfl,c0,c1⟩:=Dh V;have U:=O (fun wr (k:aA aB w wr)=>And.intro (k.cell c0 id) (k.cell c1 id));clear V;go_in;go_wp2_with fail;refine wp_loop_rounds 3 ?_;rw[rounds_succ];go_wp2_with fail;rw[rounds_succ];go_wp2_with fail;rw[rounds_succ];obtain⟨X,Q,a⟩:=Option.map_eq_some_iff.1 tZ
 go_wp2_with ((with_reducible show WL (some 23) (.makeSlice _ _ _));refine wpList_make_own w rfl (.const (.int .i64 0)) (.tmp 22) 315 rfl w.heap.size 118 X .nilIface 1 underlying315 Q (by simp only[Prod.mk.injEq] at a;exact a.1) (by simp only[Prod.mk.injEq] at a;exact a.2.1) .i64 .i64 1 1 rfl rfl rfl (by simp only[Prod.mk.injEq] at a;rw[a.2.2];omega) (by unfold maxLen;omega) (Nat.le_refl _) ?_;intro q D A;have s:=O D;have r:=O (aA.of_grown A);clear D A)
 have G:Hid (JSt w (q.alloc (.cells #[.slice (w.heap.size) 0 1] 369)) w.heap.size q.heap.size (.slice (w.heap.size) 0 1) []):=by
  have K:aA aB q (q.alloc (.cells #[.slice (w.heap.size) 0 1] 369)):=(aA.refl _ _).alloc _;exact O ⟨heap_alloc_new _ _,K.owns s.out (fun _ _=>id),(r.mono (fun _ _ h=>by cases h)).trans K,Nat.le_refl _,r.size,by obtain⟨cur,W⟩:=aH s.out rfl;have:=lt_of_block W;intro h;have Z:w.heap.size=q.heap.size:=(by simpa [Value.ownBlock] using h);have h3:w.heap.size<q.heap.size:=this;omega⟩
 clear s r c0 c1;obtain⟨p,f⟩:=zX9 ((Value.slice (w.heap.size) 0 1))
 rw[f] at G ⊢;obtain⟨u,j⟩:=zX9 (q.alloc (.cells #[p] 369))
 obtain⟨jb,B⟩:=zX9 q.heap.size
 rw[j,B] at G ⊢;have m:=G;clear G f j B;refine wp_loop_rounds 3 ?_;obtain⟨J,L⟩:=U.out _ m.keep;rw[rounds_succ];go_wp2_with fail;clear J L;have N:=aC (i:=0) (v:=p) m.blk rfl;obtain⟨J,L⟩:=U.out _ m.keep;have d:=O (m.same (w':=u.alloc (.cells #[.iface E F] 118)) ((aA.refl _ _).alloc _));have y:=O (Cy u (.iface E F) 118);rw[rounds_succ]
 go_wp2_with (at_builtin;go_loud (refine aK rfl (.tmp 38) (.tmp 40) 315 rfl w.heap.size 118 .nilIface 1 16 underlying315 tZ rfl (by omega) p _ _ rfl d.own (.slice (u.heap.size) 1 1) 1 _ rfl y.out ?_ ?_ ?_ ?_ ?_;(simp[Value.oneCell']);(unfold maxLen;simp);simp;(have:=d.keep.size;omega);intro v' T e R C z;obtain⟨av,I,rfl,-,-⟩:=(Rd.of_owns e).form;have n:Hid (JSt w (T.setCell ⟨jb,0,none⟩ (.slice av 1 I)) w.heap.size jb (.slice av 1 I) [.iface E F]):=O (d.put e R (by simpa using z));have t:=R.blk d.blk d.ne;have M:=aC (i:=0) (v:=p) t rfl;have P:=fun i=>frozen_of_row T jb i _ _ t;clear e R C z t))
 clear M P N J L d y;obtain⟨S,f⟩:=zX9 (Value.slice av 1 I)
 rw[f] at n ⊢;clear f;obtain⟨Y,j⟩:=zX9 (T.setCell ⟨jb,0,none⟩ S)
 rw[j] at n ⊢;have H:=n;clear n j;rw[rounds_succ];go_wp2;go_ret;exact H.post
theorem NJ(w:World)(v:Value)(L:TypeId)(M:Value)(R:TypeId)(S:Value)(hr:Rd w 1 v 2 [.iface L M,.iface R S]):Calls prog 259 #[v] w (AT w [.iface L M,.iface R S]):=by
 obtain⟨g,o,c,rfl,c0,c1⟩:=Dh hr;have Z:=O (fun wr (k:aA aB w wr)=>And.intro (k.cell c0 id) (k.cell c1 id));clear hr;go_in;go_wp2_with fail;refine wp_loop_rounds 3 ?_;rw[rounds_succ];go_wp2_with fail;rw[rounds_succ];go_wp2_with fail;rw[rounds_succ];obtain⟨ie,X,e⟩:=Option.map_eq_some_iff.1 tZ
 go_wp2_with ((with_reducible show WL (some 23) (.makeSlice _ _ _));refine wpList_make_own w rfl (.const (.int .i64 0)) (.tmp 22) 315 rfl w.heap.size 118 ie .nilIface 1 underlying315 X (by simp only[Prod.mk.injEq] at e;exact e.1) (by simp only[Prod.mk.injEq] at e;exact e.2.1) .i64 .i64 2 2 rfl rfl rfl (by simp only[Prod.mk.injEq] at e;rw[e.2.2];omega) (by unfold maxLen;omega) (Nat.le_refl _) ?_;intro u Q N;have B:=O Q;have A:=O (aA.of_grown N);clear Q N)
 have T:Hid (JSt w (u.alloc (.cells #[.slice (w.heap.size) 0 2] 369)) w.heap.size u.heap.size (.slice (w.heap.size) 0 2) []):=by
  have K:aA aB u (u.alloc (.cells #[.slice (w.heap.size) 0 2] 369)):=(aA.refl _ _).alloc _;exact O ⟨heap_alloc_new _ _,K.owns B.out (fun _ _=>id),(A.mono (fun _ _ h=>by cases h)).trans K,Nat.le_refl _,A.size,by obtain⟨cur,hc⟩:=aH B.out rfl;have:=lt_of_block hc;intro h;have h2:w.heap.size=u.heap.size:=(by simpa [Value.ownBlock] using h);have h3:w.heap.size<u.heap.size:=this;omega⟩
 clear B A c0 c1;obtain⟨s,j⟩:=zX9 ((Value.slice (w.heap.size) 0 2))
 rw[j] at T ⊢;obtain⟨I,m⟩:=zX9 (u.alloc (.cells #[s] 369))
 obtain⟨jb,P⟩:=zX9 u.heap.size
 rw[m,P] at T ⊢;have y:=T;clear T j m P;refine wp_loop_rounds 3 ?_;have E:=aC (i:=0) (v:=s) y.blk rfl;obtain⟨V,W⟩:=Z.out _ y.keep;have a:=O (y.same (w':=I.alloc (.cells #[.iface L M] 118)) ((aA.refl _ _).alloc _));have p:=O (Cy I (.iface L M) 118);rw[rounds_succ]
 go_wp2_with (at_builtin;go_loud (refine aK rfl (.tmp 38) (.tmp 40) 315 rfl w.heap.size 118 .nilIface 1 16 underlying315 tZ rfl (by omega) s _ _ rfl a.own (.slice (I.heap.size) 1 1) 1 _ rfl p.out ?_ ?_ ?_ ?_ ?_;(simp[Value.oneCell']);(unfold maxLen;simp);simp;(have:=a.keep.size;omega);intro v' H d G r q;obtain⟨av,C,rfl,-,-⟩:=(Rd.of_owns d).form;have f:Hid (JSt w (H.setCell ⟨jb,0,none⟩ (.slice av 1 C)) w.heap.size jb (.slice av 1 C) [.iface L M]):=O (a.put d G (by simpa using q));have n:=G.blk a.blk a.ne;have D:=aC (i:=0) (v:=s) n rfl;have F:=fun i=>frozen_of_row H jb i _ _ n;clear d G r q n))
 clear D F E V W a p;obtain⟨t,j⟩:=zX9 (Value.slice av 1 C)
 rw[j] at f ⊢;clear j;obtain⟨J,m⟩:=zX9 (H.setCell ⟨jb,0,none⟩ t)
 rw[m] at f ⊢;have z:=f;clear f m;have E:=aC (i:=0) (v:=t) z.blk rfl;obtain⟨V,W⟩:=Z.out _ z.keep;have a:=O (z.same (w':=J.alloc (.cells #[.iface R S] 118)) ((aA.refl _ _).alloc _));have p:=O (Cy J (.iface R S) 118);rw[rounds_succ]
 go_wp2_with (at_builtin;go_loud (refine aK rfl (.tmp 38) (.tmp 40) 315 rfl w.heap.size 118 .nilIface 1 16 underlying315 tZ rfl (by omega) t _ _ rfl a.own (.slice (J.heap.size) 1 1) 1 _ rfl p.out ?_ ?_ ?_ ?_ ?_;(simp[Value.oneCell']);(unfold maxLen;simp);simp;(have:=a.keep.size;omega);intro v' H d G r q;obtain⟨av,C,rfl,-,-⟩:=(Rd.of_owns d).form;have f:Hid (JSt w (H.setCell ⟨jb,0,none⟩ (.slice av 2 C)) w.heap.size jb (.slice av 2 C) [.iface L M,.iface R S]):=O (a.put d G (by simpa using q));have n:=G.blk a.blk a.ne;have D:=aC (i:=0) (v:=t) n rfl;have F:=fun i=>frozen_of_row H jb i _ _ n;clear d G r q n))
 clear D F E V W a p;obtain⟨Y,j⟩:=zX9 (Value.slice av 2 C)
 rw[j] at f ⊢;clear j;obtain⟨qa,m⟩:=zX9 (H.setCell ⟨jb,0,none⟩ Y)
 rw[m] at f ⊢;have U:=f;clear f m;rw[rounds_succ];go_wp2;go_ret;exact U.post
end
end Go.Proofs.YtoeinblfcbpcmaaGreatDoor
