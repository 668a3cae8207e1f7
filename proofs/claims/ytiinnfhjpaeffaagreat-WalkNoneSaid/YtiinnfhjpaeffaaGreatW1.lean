import Derived.Test.YtiinnfhjpaeffaaGreatProg
import Derived.WalkKit
import Derived.WalkSpells
import Derived.WalkLawsBesides
import Derived.Deep.QuietTactic
import Derived.BigQuiet
import Derived.Lib.Hide
import Derived.StillTailTactics
import Derived.Deep.RegionHeld3
import Derived.Deep.AppendLies
import Derived.Laws.AppendOwnNone
import Derived.Laws.CopyOwn
import Derived.Deep.MidRow
import Derived.Maps.AppendAt
namespace Go.Proofs.YtiinnfhjpaeffaaGreat
set_option maxHeartbeats 64000000
set_option maxRecDepth 100000
set_option linter.unusedVariables false
abbrev WL {P : Program} {ops : Array Oper} {Q : Exit → Act → World → Prop} {rest : List Oper} {a : Act} {w : World} {t : TypeId} {s : String} {af : Array Edge} {g : Option (Nat × Bool)} (d : Option Tmp) (op : Op) : Prop := wpList P ops Q (⟨d, op, t, s, af, g⟩ :: rest) a w
theorem O {p : Prop} (h : p) : Go.RowKit.Hid p := Lib.hid h
section
open Go.RowKit
theorem nrm{p q:Prop}(h:q)(e:p=q:=by simp only[Act.put,List.setIfInBounds_toArray,List.set_cons_zero,List.set_cons_succ,List.getElem_toArray,List.getElem_cons_succ,List.getElem_cons_zero];rfl):p:=e▸h
theorem tna{P:Program}{ops:Array Oper}{Q:Exit->Act->World->Prop}{md:Region.Mode}{S:World->Prop}(i:Nat)(v:Value){oi:Oper}{fuel:Nat}{listed:Array Bool}{a:Act}{w:World}{q:Prop}(hi:ops[i]?=some oi)(hS:S w)
 (h:q) (e:wpAnyH P md ops Q S fuel (listed.setIfInBounds i true) (a.put oi.dst v) w=q:=by first|(simp only[Act.put,List.setIfInBounds_toArray,List.set_cons_zero,List.set_cons_succ,List.getElem_toArray,List.getElem_cons_succ,List.getElem_cons_zero];rfl)|rfl) (hs:Region.noSelect ops=true:=by kernel_rfl) (hf:Region.free md ops listed i=true:=by kernel_rfl) (hr:(Region.ready md ops listed).contains i=true:=by kernel_rfl)
 (hQ:∀c a w,Q (.panic c) (a.put oi.dst v) w->Q (.panic c) a w:=by exact fun _ _ _ h=>h) (hy:YieldsIf P ops S oi v a:=by exact .inl ⟨by rfl,fun _ _=>rfl⟩):wpAnyH P md ops Q S (fuel+1) listed a w:=wpAnyH_take hi hs hf hr hQ hy hS (e▸h)
theorem tnb{P:Program}{ops:Array Oper}{Q:Exit->Act->World->Prop}{md:Region.Mode}{S:World->Prop}(i:Nat)(v:Value){oi:Oper}{fuel:Nat}{listed:Array Bool}{a:Act}{w:World}{q:Prop}(hi:ops[i]?=some oi)(hS:S w)
 (h:q) (e:wpAnyH P md ops Q S fuel (listed.setIfInBounds i true) (a.put oi.dst v) w=q:=by first|(simp only[Act.put,List.setIfInBounds_toArray,List.set_cons_zero,List.set_cons_succ,List.getElem_toArray,List.getElem_cons_succ,List.getElem_cons_zero];rfl)|rfl) (hs:Region.noSelect ops=true:=by kernel_rfl) (hf:Region.free md ops listed i=true:=by kernel_rfl) (hr:(Region.ready md ops listed).contains i=true:=by kernel_rfl)
 (hQ:∀c a w,Q (.panic c) (a.put oi.dst v) w->Q (.panic c) a w:=by exact fun _ _ _ h=>h) (hy:YieldsIf P ops S oi v a:=by exact .inl ⟨by rfl,fun _ _=>by go_simp⟩):wpAnyH P md ops Q S (fuel+1) listed a w:=wpAnyH_take hi hs hf hr hQ hy hS (e▸h)
theorem tnc{P:Program}{ops:Array Oper}{Q:Exit->Act->World->Prop}{md:Region.Mode}{S:World->Prop}(i:Nat)(v:Value){oi:Oper}{fuel:Nat}{listed:Array Bool}{a:Act}{w:World}{q:Prop}(hi:ops[i]?=some oi)(hS:S w)
 (h:q) (e:wpAnyH P md ops Q S fuel (listed.setIfInBounds i true) (a.put oi.dst v) w=q:=by first|(simp only[Act.put,List.setIfInBounds_toArray,List.set_cons_zero,List.set_cons_succ,List.getElem_toArray,List.getElem_cons_succ,List.getElem_cons_zero];rfl)|rfl) (hs:Region.noSelect ops=true:=by kernel_rfl) (hf:Region.free md ops listed i=true:=by kernel_rfl) (hr:(Region.ready md ops listed).contains i=true:=by kernel_rfl)
 (hQ:∀c a w,Q (.panic c) (a.put oi.dst v) w->Q (.panic c) a w:=by exact fun _ _ _ h=>h) (hy:YieldsIf P ops S oi v a:=by exact .inr ⟨by rfl,rfl⟩):wpAnyH P md ops Q S (fuel+1) listed a w:=wpAnyH_take hi hs hf hr hQ hy hS (e▸h)
theorem tnd{P:Program}{ops:Array Oper}{Q:Exit->Act->World->Prop}{md:Region.Mode}{S:World->Prop}(i:Nat)(v:Value){oi:Oper}{fuel:Nat}{listed:Array Bool}{a:Act}{w:World}{q:Prop}(hi:ops[i]?=some oi)(hy:YieldsIf P ops S oi v a)(hS:S w)
 (h:q) (e:wpAnyH P md ops Q S fuel (listed.setIfInBounds i true) (a.put oi.dst v) w=q:=by first|(simp only[Act.put,List.setIfInBounds_toArray,List.set_cons_zero,List.set_cons_succ,List.getElem_toArray,List.getElem_cons_succ,List.getElem_cons_zero];rfl)|rfl) (hs:Region.noSelect ops=true:=by kernel_rfl) (hf:Region.free md ops listed i=true:=by kernel_rfl) (hr:(Region.ready md ops listed).contains i=true:=by kernel_rfl)
 (hQ:∀c a w,Q (.panic c) (a.put oi.dst v) w->Q (.panic c) a w:=by exact fun _ _ _ h=>h):wpAnyH P md ops Q S (fuel+1) listed a w:=wpAnyH_take hi hs hf hr hQ hy hS (e▸h)
theorem tka{P:Program}{ops:Array Oper}{Q:Exit->Act->World->Prop}{md:Region.Mode}{S:World->Prop}(i:Nat)(v:Value){oi:Oper}{fuel:Nat}{listed:Array Bool}{a:Act}{w:World}(hi:ops[i]?=some oi)(hS:S w)
 (h:wpAnyH P md ops Q S fuel (listed.setIfInBounds i true) (a.put oi.dst v) w) (hs:Region.noSelect ops=true:=by kernel_rfl) (hf:Region.free md ops listed i=true:=by kernel_rfl) (hr:(Region.ready md ops listed).contains i=true:=by kernel_rfl)
 (hQ:∀c a w,Q (.panic c) (a.put oi.dst v) w->Q (.panic c) a w:=by exact fun _ _ _ h=>h) (hy:YieldsIf P ops S oi v a:=by exact .inl ⟨by rfl,fun _ _=>rfl⟩):wpAnyH P md ops Q S (fuel+1) listed a w:=wpAnyH_take hi hs hf hr hQ hy hS h
theorem tkb{P:Program}{ops:Array Oper}{Q:Exit->Act->World->Prop}{md:Region.Mode}{S:World->Prop}(i:Nat)(v:Value){oi:Oper}{fuel:Nat}{listed:Array Bool}{a:Act}{w:World}(hi:ops[i]?=some oi)(hS:S w)
 (h:wpAnyH P md ops Q S fuel (listed.setIfInBounds i true) (a.put oi.dst v) w) (hs:Region.noSelect ops=true:=by kernel_rfl) (hf:Region.free md ops listed i=true:=by kernel_rfl) (hr:(Region.ready md ops listed).contains i=true:=by kernel_rfl)
 (hQ:∀c a w,Q (.panic c) (a.put oi.dst v) w->Q (.panic c) a w:=by exact fun _ _ _ h=>h) (hy:YieldsIf P ops S oi v a:=by exact .inl ⟨by rfl,fun _ _=>by go_simp⟩):wpAnyH P md ops Q S (fuel+1) listed a w:=wpAnyH_take hi hs hf hr hQ hy hS h
theorem tkd{P:Program}{ops:Array Oper}{Q:Exit->Act->World->Prop}{md:Region.Mode}{S:World->Prop}(i:Nat)(v:Value){oi:Oper}{fuel:Nat}{listed:Array Bool}{a:Act}{w:World}(hi:ops[i]?=some oi)(hy:YieldsIf P ops S oi v a)(hS:S w)
 (h:wpAnyH P md ops Q S fuel (listed.setIfInBounds i true) (a.put oi.dst v) w) (hs:Region.noSelect ops=true:=by kernel_rfl) (hf:Region.free md ops listed i=true:=by kernel_rfl) (hr:(Region.ready md ops listed).contains i=true:=by kernel_rfl)
 (hQ:∀c a w,Q (.panic c) (a.put oi.dst v) w->Q (.panic c) a w:=by exact fun _ _ _ h=>h):wpAnyH P md ops Q S (fuel+1) listed a w:=wpAnyH_take hi hs hf hr hQ hy hS h
structure aA(S:Nat->Prop)(w w':World):Prop where
 os:w'.os=w.os
 tape:w'.tape=w.tape
 output:w'.output=w.output
 size:w.heap.size≤w'.heap.size
 block:∀k,k<w.heap.size->¬S k->w'.heap[k]?=w.heap[k]?
def aB:Nat->Prop:=fun _=>False
theorem aA.refl(S:Nat->Prop)(w:World):aA S w w:=⟨rfl,rfl,rfl,Nat.le_refl _,fun _ _ _=>rfl⟩
theorem aA.mono{S T:Nat->Prop}{w w':World}(h:aA S w w')(hs:∀k,k<w.heap.size->S k->T k):aA T w w':=
 ⟨h.os,h.tape,h.output,h.size,fun k hk ht=>h.block k hk (fun hS=>ht (hs k hk hS))⟩
theorem aA.trans{S:Nat->Prop}{a b c:World}(h:aA S a b)(k:aA S b c):aA S a c:=
 ⟨k.os.trans h.os,k.tape.trans h.tape,k.output.trans h.output,Nat.le_trans h.size k.size,
  fun i hi hS=>(k.block i (Nat.lt_of_lt_of_le hi h.size) hS).trans (h.block i hi hS)⟩
theorem aA.trans'{S T U:Nat->Prop}{a b c:World}(h:aA S a b)(k:aA T b c)(hs:∀i,i<a.heap.size->S i->U i)(ht:∀i,i<a.heap.size->T i->U i):aA U a c:=
 ⟨k.os.trans h.os,k.tape.trans h.tape,k.output.trans h.output,Nat.le_trans h.size k.size,
  fun i hi hU=>(k.block i (Nat.lt_of_lt_of_le hi h.size) (fun hT=>hU (ht i hi hT))).trans (h.block i hi (fun hS=>hU (hs i hi hS)))⟩
theorem aA.alloc{S:Nat->Prop}{a w:World}(h:aA S a w)(o:Obj):aA S a (w.alloc o):=
 h.trans ⟨rfl,rfl,rfl,by simp,fun _ hk _=>heap_alloc_old w o hk⟩
theorem aA.setCell{S:Nat->Prop}{a w:World}(h:aA S a w){p:Addr}(hp:p.block<a.heap.size->S p.block)(u:Value):aA S a (w.setCell p u):=
 ⟨h.os,h.tape,h.output,by simpa using h.size,fun k hk hS=>by
  by_cases e:k=p.block
  ·subst e;exact absurd (hp hk) hS
  ·rw[heap_setCell_other w p k u e];exact h.block k hk hS⟩
theorem aA.drew{S:Nat->Prop}{a w:World}(h:aA S a w):aA S a w.drew:=⟨h.os,h.tape,h.output,h.size,h.block⟩
theorem aA.drewN{S:Nat->Prop}{a w:World}(h:aA S a w)(n:Nat):aA S a (w.drewN n):=⟨h.os,h.tape,h.output,h.size,h.block⟩
theorem aA.grown{S:Nat->Prop}{a w w':World}{row:Option Nat}(h:aA S a w)(hg:w.grownBy w' row)(hr:∀k,row=some k->k<a.heap.size->S k):aA S a w':=
 ⟨hg.os.trans h.os,hg.tape.trans h.tape,hg.output.trans h.output,Nat.le_trans h.size hg.size,fun k hk hS =>
  (hg.block k (Nat.lt_of_lt_of_le hk h.size) (fun e=>hS (hr k e.symm hk))).trans (h.block k hk hS)⟩
theorem aA.of_grown{w w':World}{row:Option Nat}(hg:w.grownBy w' row):aA (fun k=>row=some k) w w':=
 (aA.refl _ w).grown hg fun _ h _=>h
theorem aA.below{w w':World}(h:aA aB w w'):Below w.heap.size w w':=⟨h.os,h.tape,h.output,h.size,fun k hk=>h.block k hk id⟩
theorem aA.any{S:Nat->Prop}{w w':World}(h:aA aB w w'):aA S w w':=h.mono fun _ _ h=>h.elim
theorem aA.blk{S:Nat->Prop}{w w':World}(h:aA S w w'){k:Nat}{o:Obj}(hb:w.heap[k]?=some o)(hS:¬S k):w'.heap[k]?=some o:=
 (h.block k (lt_of_block hb) hS).trans hb
theorem aA.cell{S:Nat->Prop}{w w':World}(h:aA S w w'){b o:Nat}{v:Value}(hc:w.cell? ⟨b,o,none⟩=some v)(hS:¬S b):w'.cell? ⟨b,o,none⟩=some v:=
 (World.cell?_of_block (w:=w) (w':=w') (a:=⟨b,o,none⟩) (h.block b (World.block_lt_of_cell? w _ hc) hS)).trans hc
theorem aA.owns{S:Nat->Prop}{w w':World}(h:aA S w w'){base e size n:Nat}{v:Value}{xs:List Value}(ho:w.ownsRow base e size v n xs)(hS:∀k,v.ownBlock=some k->¬S k):w'.ownsRow base e size v n xs:=by
 refine⟨ho.1,?_⟩;rcases ho.2 with h1|⟨g,cap,cur,rfl,hb,hh,r⟩
 ·exact .inl h1
 ·exact .inr ⟨g,cap,cur,rfl,hb,h.blk hh (hS g rfl),r⟩
theorem aV{w:World}{base base' e size n:Nat}{v:Value}{xs:List Value}(ho:w.ownsRow base e size v n xs)(hb:base'≤base):w.ownsRow base' e size v n xs:=by
 refine⟨ho.1,?_⟩;rcases ho.2 with h1|⟨g,cap,cur,rfl,hb',r⟩
 ·exact .inl h1
 ·exact .inr ⟨g,cap,cur,rfl,Nat.le_trans hb hb',r⟩
theorem GU{w:World}{a b:Addr}{v u:Value}(hne:a≠b)(h:w.cell? b=some u):(w.setCell a v).cell? b=some u:=(World.cell?_setCell_other _ _ _ _ hne).trans h
theorem dO{w:World}{p:Nat}{cs:Array Value}{t:TypeId}(h:w.heap[p]?=some (.cells cs t (0,0)))(i:Nat)(u:Value) :
 (w.setCell ⟨p,i,none⟩ u).heap[p]?=some (.cells (cs.setIfInBounds i u) t (0,0)):=heap_setCell_same w p i cs t u h
theorem aC{w:World}{p:Nat}{cs:Array Value}{t:TypeId}{fr:Nat×Nat}(h:w.heap[p]?=some (.cells cs t fr)){i:Nat}{v:Value}(hv:cs[i]?=some v):w.cell? ⟨p,i,none⟩=some v:=
 (cell_of_row w p i cs t fr h).trans hv
theorem cV{w:World}{p:Nat}{cs:Array Value}{t:TypeId}(h:w.heap[p]?=some (.cells cs t (0,0)))(i:Nat):w.frozen? ⟨p,i,none⟩=false:=frozen_of_row w p i cs t h
def vb(b:UInt8):Value:=.int .u8 (b.toNat:Int)
theorem NO(b:UInt8):vb b=.int .u8 (b.toNat:Int):=rfl
theorem bN(l:List UInt8):∀u∈l.map vb,u.oneCell'=true:=by
 intro u hu;obtain⟨b,_,rfl⟩:=List.mem_map.1 hu;rfl
theorem lB(g o j:Nat):(⟨g,o,none⟩:Addr).add j=⟨g,o+j,none⟩:=by
 unfold Addr.add;split
 ·rename_i h;subst h;rfl
 ·rfl
def Rd(w:World)(size:Nat)(v:Value)(n:Nat)(xs:List Value):Prop:=
 xs.length=n*size/\∃a cap,v=.slice a n cap/\n≤cap/\cap≤maxLen/\(a=none->cap=0) /\
  (0<xs.length->∃g o,a=some ⟨g,o,none⟩/\∀i u,xs[i]?=some u->w.cell? ⟨g,o+i,none⟩=some u)
theorem Rd.of_owns{w:World}{base e size n:Nat}{v:Value}{xs:List Value}(h:w.ownsRow base e size v n xs):Rd w size v n xs:=by
 refine⟨h.1,?_⟩;rcases h.2 with⟨rfl,rfl⟩|⟨g,cap,cur,rfl,_,hh,h1,h2,h3,h4⟩
 ·have hx:xs=[]:=List.eq_nil_of_length_eq_zero (by simpa using h.1)
  subst hx;exact⟨none,0,rfl,by simp,by unfold maxLen;omega,fun _=>rfl,fun h=>by simp at h⟩
 ·refine⟨some ⟨g,0,none⟩,cap,rfl,by omega,h2,(by intro h;cases h),fun _=>⟨g,0,rfl,fun i u hu=>?_⟩⟩
  have:=h.cells (g:=g) rfl i u hu
  rwa [lB] at this
theorem Rd.keep{S:Nat->Prop}{w w':World}{size n:Nat}{v:Value}{l:List Value}(h:Rd w size v n l)(hk:aA S w w')(hS:∀k,v.ownBlock=some k->¬S k):Rd w' size v n l:=by
 obtain⟨h0,a,cap,rfl,h1,h2,h3,h4⟩:=h;refine⟨h0,a,cap,rfl,h1,h2,h3,fun h0=>?_⟩;obtain⟨g,o,rfl,hc⟩:=h4 h0;exact⟨g,o,rfl,fun i u hu=>hk.cell (hc i u hu) (hS g rfl)⟩
theorem Rd.nil(w:World)(size:Nat):Rd w size (.slice none 0 0) 0 []:=⟨by simp,none,0,rfl,by simp,by unfold maxLen;omega,fun _=>rfl,fun h=>by simp at h⟩
theorem Rd.lt{w:World}{size n:Nat}{v:Value}{l:List Value}(h:Rd w size v n l)(h0:0<l.length):∃k,v.ownBlock=some k/\k<w.heap.size:=by
 obtain⟨_,a,cap,rfl,h1,h2,h3,h4⟩:=h;obtain⟨g,o,rfl,hc⟩:=h4 h0;obtain⟨u,hu⟩:∃u,l[0]?=some u:=⟨l[0],by simp[h0]⟩
 exact⟨g,rfl,World.block_lt_of_cell? w _ (hc 0 u hu)⟩
theorem Rd.form{w:World}{size n:Nat}{v:Value}{l:List Value}(h:Rd w size v n l):∃a cap,v=.slice a n cap/\n≤cap/\cap≤maxLen:=
 let ⟨_,a,cap,h1,h2,h3,_⟩:=h;⟨a,cap,h1,h2,h3⟩
theorem Rd.setCell{w:World}{size n:Nat}{v:Value}{l:List Value}(h:Rd w size v n l){p i:Nat}{u0:Value}(hold:w.cell? ⟨p,i,none⟩=some u0)(hne:u0 ∉ l)(u:Value):Rd (w.setCell ⟨p,i,none⟩ u) size v n l:=by
 obtain⟨h0,a,cap,rfl,h1,h2,h3,h4⟩:=h;refine⟨h0,a,cap,rfl,h1,h2,h3,fun h0=>?_⟩;obtain⟨g,o,rfl,hc⟩:=h4 h0;refine⟨g,o,rfl,fun j x hx=>?_⟩;rw[World.cell?_setCell_other]
 ·exact hc j x hx
 ·intro e
  have:=hc j x hx;rw[←e,hold] at this;cases this
  exact hne (List.mem_of_getElem? hx)
theorem tF(w:World)(u:Value)(t:TypeId):Rd (w.alloc (.cells #[u] t)) 1 (.slice (some ⟨w.heap.size,0,none⟩) 1 1) 1 [u]:=
 ⟨rfl,_,1,rfl,Nat.le_refl _,by unfold maxLen;omega,(by intro h;cases h),fun _=>⟨w.heap.size,0,rfl,fun i x hx=>by
  match i,hx with
  | 0,hx=>simp at hx;subst hx;simp⟩⟩
theorem qA{P:Program}{w:World}{ops:Array Oper}{rest:List Oper}{o:Oper}{a:Act}{Q:Exit->Act->World->Prop}(hg:o.guard=none)(l c:Operand)(t:TypeId)(hop:o.op=Op.makeSlice t l c)
 (base:Nat) (e:TypeId) (z:Value) (bytes:Nat) (h1:P.underlying t=some (.slice e)) (hinf:(P.info? e).map (fun i=>(i.zero,i.size,i.bytes))=some (some z,1,bytes)) (hz:z.cells=#[z])
 (n:Nat) (hl:a.eval l=.int .i64 (n:Int)) (hc:a.eval c=.int .i64 (n:Int)) (b2:bytes*n≤281474976710656) (b3:n≤maxLen) (b4:base≤w.heap.size)
 (hK:∀w',w'.ownsRow base e 1 (.slice (some ⟨w.heap.size,0,none⟩) n n) n (List.replicate n z)->aA aB w w'->wpList P ops Q rest (a.put o.dst (.slice (some ⟨w.heap.size,0,none⟩) n n)) w') :
 wpList P ops Q (o::rest) a w:=by
 obtain⟨i,hi,hz0,hz1,hz2⟩:=info_parts hinf;refine wpList_make_full w hg l c t hop base e i z 1 h1 hi hz0 hz1 .i64 .i64 n n n hl hc rfl rfl (by rw[hz2];exact b2) b3 b4 ?_;intro w' g1 g2;refine hK w' ?_ (by have:=aA.of_grown g2;exact this.mono fun k _ h=>by cases h);rw[hz] at g1
 simpa [toList_madeCells_one] using g1
theorem aN{P:Program}{w:World}{ops:Array Oper}{rest:List Oper}{o:Oper}{a:Act}{Q:Exit->Act->World->Prop}(hgd:o.guard=none)(s x:Operand)(t:TypeId)
 (ho:o.op=.call { callee:=.builtin .append,args:=#[s,x],argTypes:=#[t,t] })
 (base:Nat) (e:TypeId) (z:Value) (size bytes:Nat) (ht:P.underlying t=some (.slice e)) (hinf:(P.info? e).map (fun i=>(i.zero,i.size,i.bytes))=some (some z,size,bytes)) (hzs:z.cells.size=size) (hsz:0<size)
 (v:Value) (n:Nat) (xs:List Value) (hs:a.eval s=v) (hown:w.ownsRow base e size v n xs)
 (v2:Value) (m:Nat) (news:List Value) (hx:a.eval x=v2) (hrd:Rd w size v2 m news) (h1:∀u∈news,u.oneCell'=true)
 (h63:n+m≤maxLen) (hbytes:(n+m)*bytes≤140737488355328) (hbase:base≤w.heap.size)
 (h:∀v' w',w'.ownsRow base e size v' (n+m) (xs++news)->aA (fun k=>v.ownBlock=some k) w w' ->
   (v'=.slice none 0 0↔v=.slice none 0 0/\m=0) ->
   (v'.ownBlock=v.ownBlock\/v'.ownBlock=some w.heap.size)->wpList P ops Q rest (a.put o.dst v') w'):wpList P ops Q (o::rest) a w:=by
 obtain⟨i,hi,hz0,hz1,hz2⟩:=info_parts hinf;obtain⟨hlen,ad,cap,rfl,h2,h3,h4,h5⟩:=hrd;cases ad with
 | none =>
   have hc:=h4 rfl;have hl:m=0:=by omega
   subst hl;have hn:news=[]:=List.eq_nil_of_length_eq_zero (by simpa using hlen);subst hn;subst hc;exact wpList_append_own_none hgd s x t ho base e i size ht hi v n xs hs hown hx (h v w (by simpa using hown) (aA.refl _ _) (by simp) (.inl rfl))
 | some ad =>
   have hcells:∀j u,news[j]?=some u->w.cell? (ad.add j)=some u:=by
    intro j u hu
    have hlen:0<news.length:=by
     rcases Nat.eq_zero_or_pos news.length with h0|h0
     ·rw[List.eq_nil_of_length_eq_zero h0] at hu;simp at hu
     ·exact h0
    obtain⟨g,o',hh,hc⟩:=h5 hlen;cases hh
    rw[lB];exact hc j u hu
   refine wpList_append_own_at (w:=w) hgd s x t ho base e i z size bytes ht hi hz0 hz1 hz2 hzs hsz v n xs hs hown ad m cap news hx hlen hcells h1 h63 hbytes hbase ?_;intro v' w' g1 g2 g3 g4;exact h v' w' g1 (aA.of_grown g2) g3 g4
theorem lZ{P:Program}{T:TypeId}{z:Value}(hz:∀w,(zeroValue T).run P w=.ok z w)(w:World) :
 (Instr.alloc T true (.tuple #[])).run P w=.ok (.pointer (some ⟨w.heap.size,0,none⟩)) (w.alloc (.cells z.cells T)):=by
 simp[Instr.alloc,hz,newVar,go_sem]
theorem fL{P:Program}{w:World}{ops:Array Oper}{rest:List Oper}{o:Oper}{a:Act}{Q:Exit->Act->World->Prop}(hg:o.guard=none)(T:TypeId)(ho:o.op=.alloc T)(z:Value)(hz:∀w,(zeroValue T).run P w=.ok z w)
 (h:wpList P ops Q rest (a.put o.dst (.pointer (some ⟨w.heap.size,0,none⟩))) (w.alloc (.cells z.cells T))):wpList P ops Q (o::rest) a w:=by
 refine wpList_plain hg fun K hK=>?_
 unfold Oper.wp execOp;simp only[ho,Sem.run_bind,Sem.run_pure,lZ hz,Result.andThen_ok];exact hK _ _ h
theorem aR{P:Program}{w:World}{ops:Array Oper}{rest:List Oper}{o:Oper}{a:Act}{Q:Exit->Act->World->Prop}(hg:o.guard=none)(T:TypeId)(ho:o.op=.alloc T)(z:Value)(hz:∀w,(zeroValue T).run P w=.ok z w)
 (cs:Array Value) (hcs:z.cells=cs) (h:wpList P ops Q rest (a.put o.dst (.pointer (some ⟨w.heap.size,0,none⟩))) (w.alloc (.cells cs T))):wpList P ops Q (o::rest) a w:=by
 subst hcs;exact fL hg T ho z hz h
def spl:Array Value->Nat->List Value->Array Value
 | cs,_,[]=>cs
 | cs,o,v::vs=>spl (cs.setIfInBounds o v) (o+1) vs
theorem fJ:∀(vs:List Value) (cs:Array Value) (o:Nat),(spl cs o vs).size=cs.size
 | [],_,_=>rfl
 | v::vs,cs,o=>by rw[spl,fJ vs];simp
theorem mA:∀(vs:List Value) (cs:Array Value) (o j:Nat),o+vs.length≤cs.size->(spl cs o vs)[j]?=if o≤j/\j<o+vs.length then vs[j-o]? else cs[j]?
 | [],cs,o,j,_=>by simp[spl];intro h1 h2;omega
 | v::vs,cs,o,j,h=>by
   simp only[List.length_cons] at h ⊢;rw[spl,mA vs _ _ _ (by simp;omega)]
   by_cases e:j=o
   ·subst e
    rw[if_neg (by omega),if_pos (by omega)];have:j<cs.size:=by omega
    simp[this]
   ·rw[Array.getElem?_setIfInBounds_ne (by omega)]
    by_cases h2:o+1≤j/\j<o+1+vs.length
    ·rw[if_pos h2,if_pos (by omega)]
     rw[show j-o=(j-(o+1))+1 by omega];rfl
    ·rw[if_neg h2,if_neg (by omega)]
theorem aI(vs:List Value)(cs:Array Value)(h:vs.length=cs.size):spl cs 0 vs=vs.toArray:=by
 apply Array.ext_getElem?;intro j;rw[mA _ _ _ _ (by omega)]
 by_cases hj:j<vs.length
 ·rw[if_pos (by omega)];simp
 ·rw[if_neg (by omega),Array.getElem?_eq_none (by omega),Array.getElem?_eq_none (by simp;omega)]
theorem lH{b:Nat}{t:TypeId}:∀(vs:List Value) (o:Nat) (w:World) (cs:Array Value),w.heap[b]?=some (.cells cs t (0,0)) ->
 (w.setCells b o vs).heap[b]?=some (.cells (spl cs o vs) t (0,0))
 | [],_,_,_,h=>h
 | v::vs,o,_,_,h=>lH vs (o+1) _ _ (dO h o v)
theorem aA.setCells{S:Nat->Prop}{a:World}{b:Nat}(hb:b<a.heap.size->S b):∀(vs:List Value) (o:Nat) (w:World),aA S a w->aA S a (w.setCells b o vs)
 | [],_,_,h=>h
 | v::vs,o,_,h=>aA.setCells hb vs (o+1) _ (h.setCell (p:=⟨b,o,none⟩) hb v)
theorem aP{P:Program}{w:World}{ops:Array Oper}{rest:List Oper}{op:Oper}{a:Act}{Q:Exit->Act->World->Prop}(hgd:op.guard=none)(ty:TypeId)(x y:Operand)(ho:op.op=.store ty x y)
 (b o:Nat) (vs:List Value) (hx:a.eval x=.pointer (some ⟨b,o,none⟩)) (hy:a.eval y=.agg vs.toArray) (cs:Array Value) (t:TypeId) (hb:w.heap[b]?=some (.cells cs t (0,0))) (hfit:o+vs.length≤cs.size)
 (hi:(P.info? ty).map (·.size)=some vs.length) (h1:∀v∈vs,v.oneCell'=true)
 (h:∀w',w'.heap[b]?=some (.cells (spl cs o vs) t (0,0))->aA (fun k=>k=b) w w'->wpList P ops Q rest (a.put op.dst undef) w'):wpList P ops Q (op::rest) a w:=by
 refine wpList_store_mid hgd ty x y ho b o vs.toArray hx hy ?_ (by simpa using hi) (all_oneCell_toArray h1) (h _ (lH _ _ _ _ hb) (aA.setCells (S:=fun k=>k=b) (fun _=>rfl) _ _ _ (aA.refl _ _)));intro j hj;refine⟨?_,frozen_of_row w b _ _ _ hb⟩;rw[cell_of_row w b _ _ _ _ hb];have:o+j<cs.size:=by simp at hj;omega
 simp[this]
open Go.RowKit
theorem aS{w:World}{base e size n:Nat}{v:Value}{xs:List Value}(h:w.ownsRow base e size v n xs){k:Nat}(hb:v.ownBlock=some k):base≤k:=by
 rcases h.2 with⟨h1,-⟩|⟨g,cap,cur,h1,hg,-⟩
 ·rw[h1] at hb;cases hb
 ·rw[h1] at hb
  have:g=k:=by simpa [Value.ownBlock] using hb
  omega
end
section
def eJ(fr:List Int)(th:List Bool)(i:Nat):Bool:=th.getD i false && decide (0<fr.getD i 0)
def cU(fr:List Int)(th:List Bool)(k:Nat):List Nat:=(List.range k).filter (eJ fr th)
theorem qN(fr:List Int)(th:List Bool)(k:Nat):cU fr th (k+1)=cU fr th k++if eJ fr th k then [k] else []:=by
 unfold cU;rw[List.range_succ,List.filter_append]
 congr 1
 cases h:eJ fr th k<;>simp[h]
theorem rT{fr:List Int}{th:List Bool}{k i:Nat}:i∈cU fr th k↔i<k/\eJ fr th i=true:=by unfold cU;rw[List.mem_filter,List.mem_range]
theorem Fc(fr:List Int)(th:List Bool)(k:Nat):(cU fr th k).length≤k:=by
 unfold cU;have:=List.length_filter_le (eJ fr th) (List.range k)
 rwa [List.length_range] at this
theorem tG(fr:List Int)(th:List Bool)(k:Nat):(cU fr th k).Nodup:=List.Nodup.sublist List.filter_sublist List.nodup_range
def cX(fr:List Int)(i j:Nat):Bool:=decide (fr.getD j 0<fr.getD i 0) || (decide (fr.getD i 0=fr.getD j 0) && decide (i<j))
theorem oK(fr:List Int)(i j:Nat):cX fr i j=true↔fr.getD j 0<fr.getD i 0\/(fr.getD i 0=fr.getD j 0/\i<j):=by simp[cX]
theorem pC(fr:List Int)(i j:Nat):cX fr i j=false↔¬(fr.getD j 0<fr.getD i 0\/(fr.getD i 0=fr.getD j 0/\i<j)):=by rw[←oK];simp
theorem DU{fr:List Int}{i j k:Nat}(h:cX fr i j=true)(h':cX fr j k=true):cX fr i k=true:=by rw[oK] at *;omega
theorem AE{fr:List Int}{i j:Nat}(h:i≠j)(h':cX fr i j=false):cX fr j i=true:=by rw[pC] at h';rw[oK];omega
theorem tH{fr:List Int}{i j:Nat}(h:cX fr i j=true):cX fr j i=false:=by rw[oK] at h;rw[pC];omega
def mZ(fr:List Int)(l:List Nat):Prop:=l.Pairwise fun i j=>cX fr i j=true
def iW(fr:List Int)(th:List Bool):List Nat:=(cU fr th fr.length).mergeSort fun i j=>!cX fr j i
theorem nK(fr:List Int)(th:List Bool):(iW fr th).Perm (cU fr th fr.length):=List.mergeSort_perm _ _
theorem Fd(fr:List Int)(th:List Bool):mZ fr (iW fr th):=by
 have h1:(iW fr th).Pairwise fun i j=>(!cX fr j i)=true:=List.pairwise_mergeSort (le:=fun i j=>!cX fr j i) (fun a b c=>by
  simp only[Bool.not_eq_true',pC];omega) (fun a b=>by
  cases h:cX fr b a
  ·rfl
  ·rw[tH h];rfl) _
 have h2:(iW fr th).Nodup:=(nK fr th).nodup_iff.2 (tG _ _ _);refine(List.Pairwise.and h1 h2).imp fun {x y} ⟨p,q⟩=>?_
 simp only[Bool.not_eq_true'] at p;exact AE (fun e=>q e.symm) p
theorem vV{fr:List Int}{th:List Bool}{l:List Nat}(h:l.Perm (cU fr th fr.length))(hr:mZ fr l):l=iW fr th:=by
 refine List.Perm.eq_of_pairwise (le:=fun i j=>cX fr i j=true) ?_ hr (Fd fr th) (h.trans (nK fr th).symm);intro x y _ _ h k;rw[tH h] at k;cases k
theorem Js(fr:List Int)(th:List Bool):(iW fr th).length=(cU fr th fr.length).length:=(nK fr th).length_eq
def upN(th:List Bool):Nat:=th.countP id
def kO(th:List Bool)(cp:Nat):Nat:=min cp (upN th)
def bV(fr:List Int)(th:List Bool)(cp:Nat):Option (List Nat):=
 if cU fr th fr.length=[]\/(cU fr th fr.length).length<kO th cp then none else some ((iW fr th).take (kO th cp))
theorem Jt{fr:List Int}{th:List Bool}{i:Nat}:i∈iW fr th↔i<fr.length/\eJ fr th i=true:=by rw[(nK fr th).mem_iff,rT]
theorem eZ{fr:List Int}{th:List Bool}{cp:Nat}{l:List Nat}(h:bV fr th cp=some l):l=(iW fr th).take (kO th cp)/\l.length=kO th cp/\0<upN th/\l.Nodup/\∀i∈l,i<fr.length/\eJ fr th i=true:=by
 unfold bV at h;split at h
 ·cases h
 ·rename_i hn
  have e:=Option.some.inj h;subst e;have hl:kO th cp≤(iW fr th).length:=by rw[Js];omega
  refine⟨rfl,by rw[List.length_take];omega,?_,List.Nodup.sublist (List.take_sublist _ _) ((nK fr th).nodup_iff.2 (tG _ _ _)),fun i hi=>Jt.1 (List.mem_of_mem_take hi)⟩;have hne:cU fr th fr.length≠[]:=fun e=>hn (.inl e)
  obtain⟨i,hi⟩:=List.exists_mem_of_ne_nil _ hne;have hc:=(rT.1 hi).2;unfold eJ at hc;rw[Bool.and_eq_true] at hc;unfold upN;rw[List.countP_pos_iff];refine⟨true,?_,rfl⟩;rw[List.getD_eq_getElem?_getD] at hc;cases e:th[i]? with
  | none=>rw[e] at hc;simp at hc
  | some b =>
    rw[e] at hc;have:b=true:=by simpa using hc.1
    subst this;exact List.mem_of_getElem? e
def mB(fr:List Int)(l:List Nat):List Int:=l.foldl (fun f i=>f.set i (f.getD i 0-1)) fr
theorem Ju(l:List Nat):∀fr:List Int,(mB fr l).length=fr.length:=by
 induction l with
 | nil=>intro fr;rfl
 | cons i l ih=>intro fr;exact(ih _).trans (List.length_set ..)
theorem Jv(l:List Nat):∀(fr:List Int),l.Nodup->(∀i∈l,i<fr.length)->∀j,(mB fr l).getD j 0=fr.getD j 0-if j∈l then 1 else 0:=by
 induction l with
 | nil=>intro fr _ _ j;simp[mB]
 | cons i l ih =>
   intro fr hn hb j;have hi:=hb i (List.mem_cons_self ..);have h1:=ih (fr.set i (fr.getD i 0-1)) (List.nodup_cons.1 hn).2 (fun k hk=>by rw[List.length_set];exact hb k (List.mem_cons_of_mem _ hk)) j;have h2:mB fr (i::l)=mB (fr.set i (fr.getD i 0-1)) l:=rfl;rw[h2,h1];have hni:=(List.nodup_cons.1 hn).1
   by_cases e:i=j
   ·subst e
    rw[if_neg hni,if_pos (List.mem_cons_self ..),List.getD_eq_getElem?_getD,List.getElem?_set,if_pos rfl,if_pos hi];simp
   ·have e1:(fr.set i (fr.getD i 0-1)).getD j 0=fr.getD j 0:=by
     rw[List.getD_eq_getElem?_getD,List.getElem?_set,if_neg e,←List.getD_eq_getElem?_getD]
    rw[e1]
    by_cases h3:j∈l
    ·rw[if_pos h3,if_pos (List.mem_cons_of_mem _ h3)]
    ·rw[if_neg h3,if_neg (fun h=>(List.mem_cons.1 h).elim (fun h=>e h.symm) h3)]
inductive oL(th:List Bool)(cp:Nat):List Int->Nat->Prop
 | none {fr:List Int}:bV fr th cp=none->oL th cp fr 0
 | more {fr:List Int}{l:List Nat}{n:Nat}:bV fr th cp=some l->oL th cp (mB fr l) n->oL th cp fr (n+1)
def rU(fr:List Int):Nat:=(fr.map Int.toNat).sum
theorem EA:∀(fr:List Int) (i:Nat),i<fr.length->0<fr.getD i 0->((fr.set i (fr.getD i 0-1)).map Int.toNat).sum+1=(fr.map Int.toNat).sum
 | [],i,h,_=>by simp at h
 | x::fr,0,_,hp=>by
   have hp':0<x:=by simpa using hp
   simp only[List.set_cons_zero,List.map_cons,List.sum_cons,List.getD_cons_zero];omega
 | x::fr,i+1,h,hp=>by
   have ih:=EA fr i (by simpa using h) (by simpa using hp);simp only[List.set_cons_succ,List.map_cons,List.sum_cons,List.getD_cons_succ] at ih ⊢;omega
theorem LD(l:List Nat):∀fr:List Int,l.Nodup->(∀i∈l,i<fr.length/\0<fr.getD i 0)->rU (mB fr l)+l.length=rU fr:=by
 induction l with
 | nil=>intro fr _ _;rfl
 | cons i l ih =>
   intro fr hn hb;obtain⟨hi,hp⟩:=hb i (List.mem_cons_self ..);have hni:=(List.nodup_cons.1 hn).1
   have h1:=ih (fr.set i (fr.getD i 0-1)) (List.nodup_cons.1 hn).2 (fun k hk=>by
    obtain⟨h2,h3⟩:=hb k (List.mem_cons_of_mem _ hk);refine⟨by rw[List.length_set];exact h2,?_⟩;have hne:i≠k:=fun e=>hni (by rw[e];exact hk)
    rw[List.getD_eq_getElem?_getD,List.getElem?_set,if_neg hne,←List.getD_eq_getElem?_getD];exact h3)
   have h2:mB fr (i::l)=mB (fr.set i (fr.getD i 0-1)) l:=rfl;have h3:=EA fr i hi hp;rw[h2,List.length_cons];unfold rU at h1 ⊢;omega
end
section
open Go.RowKit
section
variable {α:Type}{enc:α->List Value}{k:Nat}
theorem pE(hk:∀x,(enc x).length=k):∀l:List α,(l.flatMap enc).length=l.length*k
 | []=>by simp
 | x::l=>by rw[List.flatMap_cons,List.length_append,hk x,pE hk l,List.length_cons,Nat.succ_mul];omega
theorem wU(hk:∀x,(enc x).length=k)(h0:0<k):∀(l:List α) (t:Nat),(l.flatMap enc)[t]?=(l[t / k]?).bind fun x=>(enc x)[t % k]?
 | [],t=>by simp
 | x::l,t=>by
   rw[List.flatMap_cons]
   by_cases h:t<k
   ·rw[List.getElem?_append_left (by rw[hk];exact h),Nat.div_eq_of_lt h,Nat.mod_eq_of_lt h];rfl
   ·rw[List.getElem?_append_right (by rw[hk];omega),hk,wU hk h0 l]
    have e1:t / k=(t-k) / k+1:=Nat.div_eq_sub_div h0 (by omega);have e2:t % k=(t-k) % k:=Nat.mod_eq_sub_mod (by omega);rw[e1,e2,List.getElem?_cons_succ]
end
end
end Go.Proofs.YtiinnfhjpaeffaaGreat
