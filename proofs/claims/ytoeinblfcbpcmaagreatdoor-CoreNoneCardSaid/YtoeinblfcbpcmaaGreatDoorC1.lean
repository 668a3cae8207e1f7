import Derived.Test.YtoeinblfcbpcmaaGreatDoorProg
import Derived.WalkKit
import Derived.WalkSpells
import Derived.WalkLawsBesides
import Derived.Deep.QuietTactic
import Derived.BigQuiet
import Derived.Lib.Hide
import Derived.StillTailTactics
import Derived.Deep.RegionHeld3
import Derived.Deep.AppendLies
import Derived.Laws.AppendOwnNone
import Derived.Laws.CopyOwn
import Derived.Deep.MidRow
import Derived.Maps.AppendAt
namespace Go.Proofs.YtoeinblfcbpcmaaGreatDoor
set_option maxHeartbeats 0
set_option maxRecDepth 100000
set_option linter.unusedVariables false
abbrev WL {P : Program} {ops : Array Oper} {Q : Exit → Act → World → Prop} {rest : List Oper} {a : Act} {w : World} {t : TypeId} {s : String} {f : Array Edge} {g : Option (Nat × Bool)} (d : Option Tmp) (op : Op) : Prop := wpList P ops Q (⟨d, op, t, s, f, g⟩ :: rest) a w
theorem O {p : Prop} (h : p) : Go.RowKit.Hid p := Lib.hid h
section
open Go.RowKit
variable{p xT b k base e size n i:Nat}{q:Prop}{P:Program}{ops:Array Oper}{Q:Exit->Act->World->Prop}{md:Region.Mode}{S T:Nat->Prop}{oi o:Oper}{vE:Array Bool}{a:Act}{w w' c:World}{row:Option Nat}{v:Value}{xs l:List Value}{cs:Array Value}{t:TypeId}{rest:List Oper}
theorem nrm{p:Prop}(h:q)(e:p=q:=by simp only[Act.put,List.setIfInBounds_toArray,List.set_cons_zero,List.set_cons_succ,List.getElem_toArray,List.getElem_cons_succ,List.getElem_cons_zero];rfl):p:=e▸h
theorem tna{S:World->Prop}(i:Nat)(v:Value)(m:ops[i]?=some oi)(f:S w)
 (h:q) (e:wpAnyH P md ops Q S xT (vE.setIfInBounds i true) (a.put oi.dst v) w=q:=by first|(simp only[Act.put,List.setIfInBounds_toArray,List.set_cons_zero,List.set_cons_succ,List.getElem_toArray,List.getElem_cons_succ,List.getElem_cons_zero];rfl)|rfl) (s:Region.noSelect ops=true:=by kernel_rfl) (g:Region.free md ops vE i=true:=by kernel_rfl) (r:(Region.ready md ops vE).contains i=true:=by kernel_rfl)
 (d:∀c a w,Q (.panic c) (a.put oi.dst v) w->Q (.panic c) a w:=by exact fun _ _ _ h=>h) (u:YieldsIf P ops S oi v a:=by exact .inl ⟨by rfl,fun _ _=>rfl⟩):wpAnyH P md ops Q S (xT+1) vE a w:=wpAnyH_take m s g r d u f (e▸h)
theorem tnb{S:World->Prop}(i:Nat)(v:Value)(m:ops[i]?=some oi)(f:S w)
 (h:q) (e:wpAnyH P md ops Q S xT (vE.setIfInBounds i true) (a.put oi.dst v) w=q:=by first|(simp only[Act.put,List.setIfInBounds_toArray,List.set_cons_zero,List.set_cons_succ,List.getElem_toArray,List.getElem_cons_succ,List.getElem_cons_zero];rfl)|rfl) (s:Region.noSelect ops=true:=by kernel_rfl) (g:Region.free md ops vE i=true:=by kernel_rfl) (r:(Region.ready md ops vE).contains i=true:=by kernel_rfl)
 (d:∀c a w,Q (.panic c) (a.put oi.dst v) w->Q (.panic c) a w:=by exact fun _ _ _ h=>h) (u:YieldsIf P ops S oi v a:=by exact .inl ⟨by rfl,fun _ _=>by go_simp⟩):wpAnyH P md ops Q S (xT+1) vE a w:=wpAnyH_take m s g r d u f (e▸h)
theorem tnc{S:World->Prop}(i:Nat)(v:Value)(m:ops[i]?=some oi)(f:S w)
 (h:q) (e:wpAnyH P md ops Q S xT (vE.setIfInBounds i true) (a.put oi.dst v) w=q:=by first|(simp only[Act.put,List.setIfInBounds_toArray,List.set_cons_zero,List.set_cons_succ,List.getElem_toArray,List.getElem_cons_succ,List.getElem_cons_zero];rfl)|rfl) (s:Region.noSelect ops=true:=by kernel_rfl) (g:Region.free md ops vE i=true:=by kernel_rfl) (r:(Region.ready md ops vE).contains i=true:=by kernel_rfl)
 (d:∀c a w,Q (.panic c) (a.put oi.dst v) w->Q (.panic c) a w:=by exact fun _ _ _ h=>h) (u:YieldsIf P ops S oi v a:=by exact .inr ⟨by rfl,rfl⟩):wpAnyH P md ops Q S (xT+1) vE a w:=wpAnyH_take m s g r d u f (e▸h)
theorem tnd{S:World->Prop}(i:Nat)(v:Value)(m:ops[i]?=some oi)(u:YieldsIf P ops S oi v a)(f:S w)
 (h:q) (e:wpAnyH P md ops Q S xT (vE.setIfInBounds i true) (a.put oi.dst v) w=q:=by first|(simp only[Act.put,List.setIfInBounds_toArray,List.set_cons_zero,List.set_cons_succ,List.getElem_toArray,List.getElem_cons_succ,List.getElem_cons_zero];rfl)|rfl) (s:Region.noSelect ops=true:=by kernel_rfl) (g:Region.free md ops vE i=true:=by kernel_rfl) (r:(Region.ready md ops vE).contains i=true:=by kernel_rfl)
 (d:∀c a w,Q (.panic c) (a.put oi.dst v) w->Q (.panic c) a w:=by exact fun _ _ _ h=>h):wpAnyH P md ops Q S (xT+1) vE a w:=wpAnyH_take m s g r d u f (e▸h)
theorem tka{S:World->Prop}(i:Nat)(v:Value)(m:ops[i]?=some oi)(f:S w)
 (h:wpAnyH P md ops Q S xT (vE.setIfInBounds i true) (a.put oi.dst v) w) (s:Region.noSelect ops=true:=by kernel_rfl) (g:Region.free md ops vE i=true:=by kernel_rfl) (r:(Region.ready md ops vE).contains i=true:=by kernel_rfl)
 (d:∀c a w,Q (.panic c) (a.put oi.dst v) w->Q (.panic c) a w:=by exact fun _ _ _ h=>h) (u:YieldsIf P ops S oi v a:=by exact .inl ⟨by rfl,fun _ _=>rfl⟩):wpAnyH P md ops Q S (xT+1) vE a w:=wpAnyH_take m s g r d u f h
theorem tkb{S:World->Prop}(i:Nat)(v:Value)(m:ops[i]?=some oi)(f:S w)
 (h:wpAnyH P md ops Q S xT (vE.setIfInBounds i true) (a.put oi.dst v) w) (s:Region.noSelect ops=true:=by kernel_rfl) (g:Region.free md ops vE i=true:=by kernel_rfl) (r:(Region.ready md ops vE).contains i=true:=by kernel_rfl)
 (d:∀c a w,Q (.panic c) (a.put oi.dst v) w->Q (.panic c) a w:=by exact fun _ _ _ h=>h) (u:YieldsIf P ops S oi v a:=by exact .inl ⟨by rfl,fun _ _=>by go_simp⟩):wpAnyH P md ops Q S (xT+1) vE a w:=wpAnyH_take m s g r d u f h
theorem tkd{S:World->Prop}(i:Nat)(v:Value)(m:ops[i]?=some oi)(u:YieldsIf P ops S oi v a)(f:S w)
 (h:wpAnyH P md ops Q S xT (vE.setIfInBounds i true) (a.put oi.dst v) w) (s:Region.noSelect ops=true:=by kernel_rfl) (g:Region.free md ops vE i=true:=by kernel_rfl) (r:(Region.ready md ops vE).contains i=true:=by kernel_rfl)
 (d:∀c a w,Q (.panic c) (a.put oi.dst v) w->Q (.panic c) a w:=by exact fun _ _ _ h=>h):wpAnyH P md ops Q S (xT+1) vE a w:=wpAnyH_take m s g r d u f h
structure aA(S:Nat->Prop)(w w':World):Prop where
 os:w'.os=w.os
 tape:w'.tape=w.tape
 output:w'.output=w.output
 size:w.heap.size≤w'.heap.size
 block:∀k,k<w.heap.size->¬S k->w'.heap[k]?=w.heap[k]?
def aB:Nat->Prop:=fun _=>False
theorem aA.refl(S:Nat->Prop)(w:World):aA S w w:=⟨rfl,rfl,rfl,Nat.le_refl _,fun _ _ _=>rfl⟩
theorem aA.mono(h:aA S w w')(g:∀k,k<w.heap.size->S k->T k):aA T w w':=
 ⟨h.os,h.tape,h.output,h.size,fun k d m=>h.block k d (fun f=>m (g k d f))⟩
theorem aA.trans{a b:World}(h:aA S a b)(k:aA S b c):aA S a c:=
 ⟨k.os.trans h.os,k.tape.trans h.tape,k.output.trans h.output,Nat.le_trans h.size k.size,
  fun i f d=>(k.block i (Nat.lt_of_lt_of_le f h.size) d).trans (h.block i f d)⟩
theorem aA.trans'{U:Nat->Prop}{a b:World}(h:aA S a b)(k:aA T b c)(r:∀i,i<a.heap.size->S i->U i)(s:∀i,i<a.heap.size->T i->U i):aA U a c:=
 ⟨k.os.trans h.os,k.tape.trans h.tape,k.output.trans h.output,Nat.le_trans h.size k.size,
  fun i d f=>(k.block i (Nat.lt_of_lt_of_le d h.size) (fun m=>f (s i d m))).trans (h.block i d (fun g=>f (r i d g)))⟩
theorem aA.alloc{a:World}(h:aA S a w)(o:Obj):aA S a (w.alloc o):=
 h.trans ⟨rfl,rfl,rfl,by simp,fun _ d _=>heap_alloc_old w o d⟩
theorem aA.setCell{a:World}(h:aA S a w){p:Addr}(g:p.block<a.heap.size->S p.block)(u:Value):aA S a (w.setCell p u):=
 ⟨h.os,h.tape,h.output,by simpa using h.size,fun k f d=>by
  by_cases e:k=p.block
  ·subst e;exact absurd (g f) d
  ·rw[heap_setCell_other w p k u e];exact h.block k f d⟩
theorem aA.drew{a:World}(h:aA S a w):aA S a w.drew:=⟨h.os,h.tape,h.output,h.size,h.block⟩
theorem aA.drewN{a:World}(h:aA S a w)(n:Nat):aA S a (w.drewN n):=⟨h.os,h.tape,h.output,h.size,h.block⟩
theorem aA.grown{a:World}(h:aA S a w)(d:w.grownBy w' row)(m:∀k,row=some k->k<a.heap.size->S k):aA S a w':=
 ⟨d.os.trans h.os,d.tape.trans h.tape,d.output.trans h.output,Nat.le_trans h.size d.size,fun k f g =>
  (d.block k (Nat.lt_of_lt_of_le f h.size) (fun e=>g (m k e.symm f))).trans (h.block k f g)⟩
theorem aA.of_grown(d:w.grownBy w' row):aA (fun k=>row=some k) w w':=
 (aA.refl _ w).grown d fun _ h _=>h
theorem aA.below(h:aA aB w w'):Below w.heap.size w w':=⟨h.os,h.tape,h.output,h.size,fun k d=>h.block k d id⟩
theorem aA.any(h:aA aB w w'):aA S w w':=h.mono fun _ _ h=>h.elim
theorem aA.blk(h:aA S w w'){o:Obj}(d:w.heap[k]?=some o)(f:¬S k):w'.heap[k]?=some o:=
 (h.block k (lt_of_block d) f).trans d
theorem aA.grownBy(h:aA (fun k=>row=some k) w w'):w.grownBy w' row:=
 ⟨h.os,h.tape,h.output,h.size,fun k f d=>h.block k f (fun e=>d e.symm)⟩
theorem aA.cell(h:aA S w w'){o:Nat}(d:w.cell? ⟨b,o,none⟩=some v)(f:¬S b):w'.cell? ⟨b,o,none⟩=some v:=
 (World.cell?_of_block (w:=w) (w':=w') (a:=⟨b,o,none⟩) (h.block b (World.block_lt_of_cell? w _ d) f)).trans d
theorem aA.owns(h:aA S w w')(f:w.ownsRow base e size v n xs)(s:∀k,v.ownBlock=some k->¬S k):w'.ownsRow base e size v n xs:=by
 refine⟨f.1,?_⟩;rcases f.2 with m|⟨g,d,cur,rfl,u,x,r⟩
 ·exact .inl m
 ·exact .inr ⟨g,d,cur,rfl,u,h.blk x (s g rfl),r⟩
theorem aQ{d:Nat}(m:w.ownsRow base e size v n xs)(u:d≤base):w.ownsRow d e size v n xs:=by
 refine⟨m.1,?_⟩;rcases m.2 with s|⟨g,f,cur,rfl,h,r⟩
 ·exact .inl s
 ·exact .inr ⟨g,f,cur,rfl,Nat.le_trans u h,r⟩
theorem JI{a b:Addr}{u:Value}(d:a≠b)(h:w.cell? b=some u):(w.setCell a v).cell? b=some u:=(World.cell?_setCell_other _ _ _ _ d).trans h
theorem cH(h:w.heap[p]?=some (.cells cs t (0,0)))(i:Nat)(u:Value) :
 (w.setCell ⟨p,i,none⟩ u).heap[p]?=some (.cells (cs.setIfInBounds i u) t (0,0)):=heap_setCell_same w p i cs t u h
theorem aC{fr:Nat×Nat}(h:w.heap[p]?=some (.cells cs t fr))(d:cs[i]?=some v):w.cell? ⟨p,i,none⟩=some v:=
 (cell_of_row w p i cs t fr h).trans d
theorem bP(h:w.heap[p]?=some (.cells cs t (0,0)))(i:Nat):w.frozen? ⟨p,i,none⟩=false:=frozen_of_row w p i cs t h
def vb(b:UInt8):Value:=.int .u8 (b.toNat:Int)
theorem QC(b:UInt8):vb b=.int .u8 (b.toNat:Int):=rfl
theorem bA(l:List UInt8):∀u∈l.map vb,u.oneCell'=true:=by
 intro u d;obtain⟨b,_,rfl⟩:=List.mem_map.1 d;rfl
theorem iO(g o j:Nat):(⟨g,o,none⟩:Addr).add j=⟨g,o+j,none⟩:=by
 unfold Addr.add;split
 ·rename_i h;subst h;rfl
 ·rfl
def Rd(w:World)(size:Nat)(v:Value)(n:Nat)(xs:List Value):Prop:=
 xs.length=n*size/\∃a d,v=.slice a n d/\n≤d/\d≤maxLen/\(a=none->d=0) /\
  (0<xs.length->∃g o,a=some ⟨g,o,none⟩/\∀i u,xs[i]?=some u->w.cell? ⟨g,o+i,none⟩=some u)
theorem Rd.of_owns(h:w.ownsRow base e size v n xs):Rd w size v n xs:=by
 refine⟨h.1,?_⟩;rcases h.2 with⟨rfl,rfl⟩|⟨g,d,cur,rfl,_,z,s,f,x,y⟩
 ·have r:xs=[]:=List.eq_nil_of_length_eq_zero (by simpa using h.1)
  subst r;exact⟨none,0,rfl,by simp,by unfold maxLen;omega,fun _=>rfl,fun h=>by simp at h⟩
 ·refine⟨some ⟨g,0,none⟩,d,rfl,by omega,f,(by intro h;cases h),fun _=>⟨g,0,rfl,fun i u m=>?_⟩⟩
  have:=h.cells (g:=g) rfl i u m
  rwa [iO] at this
theorem Rd.keep(h:Rd w size v n l)(z:aA S w w')(x:∀k,v.ownBlock=some k->¬S k):Rd w' size v n l:=by
 obtain⟨h0,a,d,rfl,f,m,r,s⟩:=h;refine⟨h0,a,d,rfl,f,m,r,fun h0=>?_⟩;obtain⟨g,o,rfl,y⟩:=s h0;exact⟨g,o,rfl,fun i u A=>z.cell (y i u A) (x g rfl)⟩
theorem Rd.nil(w:World)(size:Nat):Rd w size (.slice none 0 0) 0 []:=⟨by simp,none,0,rfl,by simp,by unfold maxLen;omega,fun _=>rfl,fun h=>by simp at h⟩
theorem Rd.lt(h:Rd w size v n l)(h0:0<l.length):∃k,v.ownBlock=some k/\k<w.heap.size:=by
 obtain⟨_,a,d,rfl,s,x,y,f⟩:=h;obtain⟨g,o,rfl,m⟩:=f h0;obtain⟨u,r⟩:∃u,l[0]?=some u:=⟨l[0],by simp[h0]⟩
 exact⟨g,rfl,World.block_lt_of_cell? w _ (m 0 u r)⟩
theorem Rd.form(h:Rd w size v n l):∃a d,v=.slice a n d/\n≤d/\d≤maxLen:=
 let ⟨_,a,d,f,g,m,_⟩:=h;⟨a,d,f,g,m⟩
theorem Rd.setCell(h:Rd w size v n l){s:Value}(hold:w.cell? ⟨p,i,none⟩=some s)(f:s ∉ l)(u:Value):Rd (w.setCell ⟨p,i,none⟩ u) size v n l:=by
 obtain⟨h0,a,d,rfl,y,z,A,B⟩:=h;refine⟨h0,a,d,rfl,y,z,A,fun h0=>?_⟩;obtain⟨g,o,rfl,r⟩:=B h0;refine⟨g,o,rfl,fun j x m=>?_⟩;rw[World.cell?_setCell_other]
 ·exact r j x m
 ·intro e
  have:=r j x m;rw[←e,hold] at this;cases this
  exact f (List.mem_of_getElem? m)
theorem wL(w:World)(u:Value)(t:TypeId):Rd (w.alloc (.cells #[u] t)) 1 (.slice (some ⟨w.heap.size,0,none⟩) 1 1) 1 [u]:=
 ⟨rfl,_,1,rfl,Nat.le_refl _,by unfold maxLen;omega,(by intro h;cases h),fun _=>⟨w.heap.size,0,rfl,fun i x d=>by
  match i,d with
  | 0,d=>simp at d;subst d;simp⟩⟩
theorem gC(E:o.guard=none)(l c:Operand)(t:TypeId)(f:o.op=Op.makeSlice t l c)
 (base:Nat) (e:TypeId) (z:Value) (bytes:Nat) (B:P.underlying t=some (.slice e)) (d:(P.info? e).map (fun i=>(i.zero,i.size,i.bytes))=some (some z,1,bytes)) (H:z.cells=#[z])
 (n:Nat) (G:a.eval l=.int .i64 (n:Int)) (D:a.eval c=.int .i64 (n:Int)) (u:bytes*n≤281474976710656) (x:n≤maxLen) (y:base≤w.heap.size)
 (C:∀w',w'.ownsRow base e 1 (.slice (some ⟨w.heap.size,0,none⟩) n n) n (List.replicate n z)->aA aB w w'->wpList P ops Q rest (a.put o.dst (.slice (some ⟨w.heap.size,0,none⟩) n n)) w') :
 wpList P ops Q (o::rest) a w:=by
 obtain⟨i,F,g,m,r⟩:=info_parts d;refine wpList_make_full w E l c t f base e i z 1 B F g m .i64 .i64 n n n G D rfl rfl (by rw[r];exact u) x y ?_;intro w' s A;refine C w' ?_ (by have:=aA.of_grown A;exact this.mono fun k _ h=>by cases h);rw[H] at s
 simpa [toList_madeCells_one] using s
theorem aK(D:o.guard=none)(s x:Operand)(t:TypeId)
 (W:o.op=.call { callee:=.builtin .append,args:=#[s,x],argTypes:=#[t,t] })
 (base:Nat) (e:TypeId) (z:Value) (size bytes:Nat) (Y:P.underlying t=some (.slice e)) (E:(P.info? e).map (fun i=>(i.zero,i.size,i.bytes))=some (some z,size,bytes)) (U:z.cells.size=size) (K:0<size)
 (v:Value) (n:Nat) (xs:List Value) (X:a.eval s=v) (r:w.ownsRow base e size v n xs)
 (v2:Value) (m:Nat) (d:List Value) (Z:a.eval x=v2) (J:Rd w size v2 m d) (h1:∀u∈d,u.oneCell'=true)
 (H:n+m≤maxLen) (y:(n+m)*bytes≤140737488355328) (B:base≤w.heap.size)
 (h:∀C w',w'.ownsRow base e size C (n+m) (xs++d)->aA (fun k=>v.ownBlock=some k) w w' ->
   (C=.slice none 0 0↔v=.slice none 0 0/\m=0) ->
   (C.ownBlock=v.ownBlock\/C.ownBlock=some w.heap.size)->wpList P ops Q rest (a.put o.dst C) w'):wpList P ops Q (o::rest) a w:=by
 obtain⟨i,V,M,N,R⟩:=info_parts E;obtain⟨f,F,G,rfl,h2,h3,h4,h5⟩:=J;cases F with
 | none =>
   have I:=h4 rfl;have hl:m=0:=by omega
   subst hl;have hn:d=[]:=List.eq_nil_of_length_eq_zero (by simpa using f);subst hn;subst I;exact wpList_append_own_none D s x t W base e i size Y V v n xs X r Z (h v w (by simpa using r) (aA.refl _ _) (by simp) (.inl rfl))
 | some F =>
   have A:∀j u,d[j]?=some u->w.cell? (F.add j)=some u:=by
    intro j u L
    have f:0<d.length:=by
     rcases Nat.eq_zero_or_pos d.length with h0|h0
     ·rw[List.eq_nil_of_length_eq_zero h0] at L;simp at L
     ·exact h0
    obtain⟨g,o',hh,I⟩:=h5 f;cases hh
    rw[iO];exact I j u L
   refine wpList_append_own_at (w:=w) D s x t W base e i z size bytes Y V M N R U K v n xs X r F m G d Z f A h1 H y B ?_;intro C w' g1 g2 g3 g4;exact h C w' g1 (aA.of_grown g2) g3 g4
theorem nQ{T:TypeId}{z:Value}(d:∀w,(zeroValue T).run P w=.ok z w)(w:World) :
 (Instr.alloc T true (.tuple #[])).run P w=.ok (.pointer (some ⟨w.heap.size,0,none⟩)) (w.alloc (.cells z.cells T)):=by
 simp[Instr.alloc,d,newVar,go_sem]
theorem gH(f:o.guard=none)(T:TypeId)(g:o.op=.alloc T)(z:Value)(m:∀w,(zeroValue T).run P w=.ok z w)
 (h:wpList P ops Q rest (a.put o.dst (.pointer (some ⟨w.heap.size,0,none⟩))) (w.alloc (.cells z.cells T))):wpList P ops Q (o::rest) a w:=by
 refine wpList_plain f fun K d=>?_
 unfold Oper.wp execOp;simp only[g,Sem.run_bind,Sem.run_pure,nQ m,Result.andThen_ok];exact d _ _ h
theorem aG(f:o.guard=none)(T:TypeId)(g:o.op=.alloc T)(z:Value)(m:∀w,(zeroValue T).run P w=.ok z w)
 (cs:Array Value) (d:z.cells=cs) (h:wpList P ops Q rest (a.put o.dst (.pointer (some ⟨w.heap.size,0,none⟩))) (w.alloc (.cells cs T))):wpList P ops Q (o::rest) a w:=by
 subst d;exact gH f T g z m h
def spl:Array Value->Nat->List Value->Array Value
 | cs,_,[]=>cs
 | cs,o,v::d=>spl (cs.setIfInBounds o v) (o+1) d
theorem cU:∀(d:List Value) (cs:Array Value) (o:Nat),(spl cs o d).size=cs.size
 | [],_,_=>rfl
 | v::d,cs,o=>by rw[spl,cU d];simp
theorem jR:∀(d:List Value) (cs:Array Value) (o j:Nat),o+d.length≤cs.size->(spl cs o d)[j]?=if o≤j/\j<o+d.length then d[j-o]? else cs[j]?
 | [],cs,o,j,_=>by simp[spl];intro g f;omega
 | v::d,cs,o,j,h=>by
   simp only[List.length_cons] at h ⊢;rw[spl,jR d _ _ _ (by simp;omega)]
   by_cases e:j=o
   ·subst e
    rw[if_neg (by omega),if_pos (by omega)];have:j<cs.size:=by omega
    simp[this]
   ·rw[Array.getElem?_setIfInBounds_ne (by omega)]
    by_cases f:o+1≤j/\j<o+1+d.length
    ·rw[if_pos f,if_pos (by omega)]
     rw[show j-o=(j-(o+1))+1 by omega];rfl
    ·rw[if_neg f,if_neg (by omega)]
theorem aI(d:List Value)(cs:Array Value)(h:d.length=cs.size):spl cs 0 d=d.toArray:=by
 apply Array.ext_getElem?;intro j;rw[jR _ _ _ _ (by omega)]
 by_cases f:j<d.length
 ·rw[if_pos (by omega)];simp
 ·rw[if_neg (by omega),Array.getElem?_eq_none (by omega),Array.getElem?_eq_none (by simp;omega)]
theorem mQ:∀(d:List Value) (o:Nat) (w:World) (cs:Array Value),w.heap[b]?=some (.cells cs t (0,0)) ->
 (w.setCells b o d).heap[b]?=some (.cells (spl cs o d) t (0,0))
 | [],_,_,_,h=>h
 | v::d,o,_,_,h=>mQ d (o+1) _ _ (cH h o v)
theorem aA.setCells{a:World}(f:b<a.heap.size->S b):∀(d:List Value) (o:Nat) (w:World),aA S a w->aA S a (w.setCells b o d)
 | [],_,_,h=>h
 | v::d,o,_,h=>aA.setCells f d (o+1) _ (h.setCell (p:=⟨b,o,none⟩) f v)
theorem aE{op:Oper}(g:op.guard=none)(m:TypeId)(x y:Operand)(A:op.op=.store m x y)
 (b o:Nat) (d:List Value) (B:a.eval x=.pointer (some ⟨b,o,none⟩)) (C:a.eval y=.agg d.toArray) (cs:Array Value) (t:TypeId) (f:w.heap[b]?=some (.cells cs t (0,0))) (r:o+d.length≤cs.size)
 (u:(P.info? m).map (·.size)=some d.length) (s:∀v∈d,v.oneCell'=true)
 (h:∀w',w'.heap[b]?=some (.cells (spl cs o d) t (0,0))->aA (fun k=>k=b) w w'->wpList P ops Q rest (a.put op.dst undef) w'):wpList P ops Q (op::rest) a w:=by
 refine wpList_store_mid g m x y A b o d.toArray B C ?_ (by simpa using u) (all_oneCell_toArray s) (h _ (mQ _ _ _ _ f) (aA.setCells (S:=fun k=>k=b) (fun _=>rfl) _ _ _ (aA.refl _ _)));intro j z;refine⟨?_,frozen_of_row w b _ _ _ f⟩;rw[cell_of_row w b _ _ _ _ f];have:o+j<cs.size:=by simp at z;omega
 simp[this]
open Go.RowKit
theorem bG(h:w.ownsRow base e size v n xs)(d:v.ownBlock=some k):base≤k:=by
 rcases h.2 with⟨f,-⟩|⟨g,m,cur,f,r,-⟩
 ·rw[f] at d;cases d
 ·rw[f] at d
  have:g=k:=by simpa [Value.ownBlock] using d
  omega
section
variable {α:Type}{enc:α->List Value}{k:Nat}
theorem qY(d:∀x,(enc x).length=k):∀l:List α,(l.flatMap enc).length=l.length*k
 | []=>by simp
 | x::l=>by rw[List.flatMap_cons,List.length_append,d x,qY d l,List.length_cons,Nat.succ_mul];omega
theorem As(d:∀x,(enc x).length=k)(h0:0<k):∀(l:List α) (t:Nat),(l.flatMap enc)[t]?=(l[t / k]?).bind fun x=>(enc x)[t % k]?
 | [],t=>by simp
 | x::l,t=>by
   rw[List.flatMap_cons]
   by_cases h:t<k
   ·rw[List.getElem?_append_left (by rw[d];exact h),Nat.div_eq_of_lt h,Nat.mod_eq_of_lt h];rfl
   ·rw[List.getElem?_append_right (by rw[d];omega),d,As d h0 l]
    have f:t / k=(t-k) / k+1:=Nat.div_eq_sub_div h0 (by omega);have g:t % k=(t-k) % k:=Nat.mod_eq_sub_mod (by omega);rw[f,g,List.getElem?_cons_succ]
end
end
section
def dU(fr:List Int)(th:List Bool)(i:Nat):Bool:=th.getD i false && decide (0<fr.getD i 0)
def cZ(fr:List Int)(th:List Bool)(k:Nat):List Nat:=(List.range k).filter (dU fr th)
variable{fr:List Int}{th:List Bool}{k i j cp:Nat}{l:List Nat}
theorem oK(fr:List Int)(th:List Bool)(k:Nat):cZ fr th (k+1)=cZ fr th k++if dU fr th k then [k] else []:=by
 unfold cZ;rw[List.range_succ,List.filter_append]
 congr 1
 cases h:dU fr th k<;>simp[h]
theorem uJ:i∈cZ fr th k↔i<k/\dU fr th i=true:=by unfold cZ;rw[List.mem_filter,List.mem_range]
theorem Ho(fr:List Int)(th:List Bool)(k:Nat):(cZ fr th k).length≤k:=by
 unfold cZ;have:=List.length_filter_le (dU fr th) (List.range k)
 rwa [List.length_range] at this
theorem wQ(fr:List Int)(th:List Bool)(k:Nat):(cZ fr th k).Nodup:=List.Nodup.sublist List.filter_sublist List.nodup_range
def dI(fr:List Int)(i j:Nat):Bool:=decide (fr.getD j 0<fr.getD i 0) || (decide (fr.getD i 0=fr.getD j 0) && decide (i<j))
theorem pX(fr:List Int)(i j:Nat):dI fr i j=true↔fr.getD j 0<fr.getD i 0\/(fr.getD i 0=fr.getD j 0/\i<j):=by simp[dI]
theorem qZ(fr:List Int)(i j:Nat):dI fr i j=false↔¬(fr.getD j 0<fr.getD i 0\/(fr.getD i 0=fr.getD j 0/\i<j)):=by rw[←pX];simp
theorem F1(h:dI fr i j=true)(d:dI fr j k=true):dI fr i k=true:=by rw[pX] at *;omega
theorem CK(h:i≠j)(d:dI fr i j=false):dI fr j i=true:=by rw[qZ] at d;rw[pX];omega
theorem wR(h:dI fr i j=true):dI fr j i=false:=by rw[pX] at h;rw[qZ];omega
def oL(fr:List Int)(l:List Nat):Prop:=l.Pairwise fun i j=>dI fr i j=true
def kC(fr:List Int)(th:List Bool):List Nat:=(cZ fr th fr.length).mergeSort fun i j=>!dI fr j i
theorem oW(fr:List Int)(th:List Bool):(kC fr th).Perm (cZ fr th fr.length):=List.mergeSort_perm _ _
theorem Hp(fr:List Int)(th:List Bool):oL fr (kC fr th):=by
 have d:(kC fr th).Pairwise fun i j=>(!dI fr j i)=true:=List.pairwise_mergeSort (le:=fun i j=>!dI fr j i) (fun a b c=>by
  simp only[Bool.not_eq_true',qZ];omega) (fun a b=>by
  cases h:dI fr b a
  ·rfl
  ·rw[wR h];rfl) _
 have f:(kC fr th).Nodup:=(oW fr th).nodup_iff.2 (wQ _ _ _);refine(List.Pairwise.and d f).imp fun {x y} ⟨p,q⟩=>?_
 simp only[Bool.not_eq_true'] at p;exact CK (fun e=>q e.symm) p
theorem zN(h:l.Perm (cZ fr th fr.length))(d:oL fr l):l=kC fr th:=by
 refine List.Perm.eq_of_pairwise (le:=fun i j=>dI fr i j=true) ?_ d (Hp fr th) (h.trans (oW fr th).symm);intro x y _ _ h k;rw[wR h] at k;cases k
theorem Mg(fr:List Int)(th:List Bool):(kC fr th).length=(cZ fr th fr.length).length:=(oW fr th).length_eq
def upN(th:List Bool):Nat:=th.countP id
def kU(th:List Bool)(cp:Nat):Nat:=min cp (upN th)
def bL(fr:List Int)(th:List Bool)(cp:Nat):Option (List Nat):=
 if cZ fr th fr.length=[]\/(cZ fr th fr.length).length<kU th cp then none else some ((kC fr th).take (kU th cp))
theorem Mh:i∈kC fr th↔i<fr.length/\dU fr th i=true:=by rw[(oW fr th).mem_iff,uJ]
theorem eM(h:bL fr th cp=some l):l=(kC fr th).take (kU th cp)/\l.length=kU th cp/\0<upN th/\l.Nodup/\∀i∈l,i<fr.length/\dU fr th i=true:=by
 unfold bL at h;split at h
 ·cases h
 ·rename_i m
  have e:=Option.some.inj h;subst e;have r:kU th cp≤(kC fr th).length:=by rw[Mg];omega
  refine⟨rfl,by rw[List.length_take];omega,?_,List.Nodup.sublist (List.take_sublist _ _) ((oW fr th).nodup_iff.2 (wQ _ _ _)),fun i f=>Mh.1 (List.mem_of_mem_take f)⟩;have g:cZ fr th fr.length≠[]:=fun e=>m (.inl e)
  obtain⟨i,f⟩:=List.exists_mem_of_ne_nil _ g;have d:=(uJ.1 f).2;unfold dU at d;rw[Bool.and_eq_true] at d;unfold upN;rw[List.countP_pos_iff];refine⟨true,?_,rfl⟩;rw[List.getD_eq_getElem?_getD] at d;cases e:th[i]? with
  | none=>rw[e] at d;simp at d
  | some b =>
    rw[e] at d;have:b=true:=by simpa using d.1
    subst this;exact List.mem_of_getElem? e
def fK(fr:List Int)(l:List Nat):List Int:=l.foldl (fun f i=>f.set i (f.getD i 0-1)) fr
theorem Au(l:List Nat):∀fr:List Int,(fK fr l).length=fr.length:=by
 induction l with
 | nil=>intro fr;rfl
 | cons i l d=>intro fr;exact(d _).trans (List.length_set ..)
theorem JM(fr:List Int)(l:List Nat)(i:Nat):fK fr (l++[i])=(fK fr l).set i ((fK fr l).getD i 0-1):=by simp[fK,List.foldl_append]
theorem Av(l:List Nat):∀(fr:List Int),l.Nodup->(∀i∈l,i<fr.length)->∀j,(fK fr l).getD j 0=fr.getD j 0-if j∈l then 1 else 0:=by
 induction l with
 | nil=>intro fr _ _ j;simp[fK]
 | cons i l z =>
   intro fr m g j;have x:=g i (List.mem_cons_self ..);have s:=z (fr.set i (fr.getD i 0-1)) (List.nodup_cons.1 m).2 (fun k y=>by rw[List.length_set];exact g k (List.mem_cons_of_mem _ y)) j;have u:fK fr (i::l)=fK (fr.set i (fr.getD i 0-1)) l:=rfl;rw[u,s];have f:=(List.nodup_cons.1 m).1
   by_cases e:i=j
   ·subst e
    rw[if_neg f,if_pos (List.mem_cons_self ..),List.getD_eq_getElem?_getD,List.getElem?_set,if_pos rfl,if_pos x];simp
   ·have r:(fr.set i (fr.getD i 0-1)).getD j 0=fr.getD j 0:=by
     rw[List.getD_eq_getElem?_getD,List.getElem?_set,if_neg e,←List.getD_eq_getElem?_getD]
    rw[r]
    by_cases d:j∈l
    ·rw[if_pos d,if_pos (List.mem_cons_of_mem _ d)]
    ·rw[if_neg d,if_neg (fun h=>(List.mem_cons.1 h).elim (fun h=>e h.symm) d)]
inductive gJ(th:List Bool)(cp:Nat):List Int->Nat->Prop
 | none {fr:List Int}:bL fr th cp=none->gJ th cp fr 0
 | more {fr:List Int}{l:List Nat}{n:Nat}:bL fr th cp=some l->gJ th cp (fK fr l) n->gJ th cp fr (n+1)
theorem gJ.unique{n m:Nat}(h:gJ th cp fr n):gJ th cp fr m->n=m:=by
 induction h generalizing m with
 | none h =>
   intro f;cases f with
   | none _=>rfl
   | more d _=>rw[h] at d;cases d
 | more h _ r =>
   intro f;cases f with
   | none d=>rw[h] at d;cases d
   | more d g =>
     rw[h] at d;cases d
     rw[r g]
def jD(fr:List Int):Nat:=(fr.map Int.toNat).sum
theorem GJ:∀(fr:List Int) (i:Nat),i<fr.length->0<fr.getD i 0->((fr.set i (fr.getD i 0-1)).map Int.toNat).sum+1=(fr.map Int.toNat).sum
 | [],i,h,_=>by simp at h
 | x::fr,0,_,d=>by
   have f:0<x:=by simpa using d
   simp only[List.set_cons_zero,List.map_cons,List.sum_cons,List.getD_cons_zero];omega
 | x::fr,i+1,h,d=>by
   have g:=GJ fr i (by simpa using h) (by simpa using d);simp only[List.set_cons_succ,List.map_cons,List.sum_cons,List.getD_cons_succ] at g ⊢;omega
theorem GK(l:List Nat):∀fr:List Int,l.Nodup->(∀i∈l,i<fr.length/\0<fr.getD i 0)->jD (fK fr l)+l.length=jD fr:=by
 induction l with
 | nil=>intro fr _ _;rfl
 | cons i l z =>
   intro fr s m;obtain⟨x,y⟩:=m i (List.mem_cons_self ..);have g:=(List.nodup_cons.1 s).1
   have u:=z (fr.set i (fr.getD i 0-1)) (List.nodup_cons.1 s).2 (fun k r=>by
    obtain⟨d,h⟩:=m k (List.mem_cons_of_mem _ r);refine⟨by rw[List.length_set];exact d,?_⟩;have f:i≠k:=fun e=>g (by rw[e];exact r)
    rw[List.getD_eq_getElem?_getD,List.getElem?_set,if_neg f,←List.getD_eq_getElem?_getD];exact h)
   have d:fK fr (i::l)=fK (fr.set i (fr.getD i 0-1)) l:=rfl;have h:=GJ fr i x y;rw[d,List.length_cons];unfold jD at u ⊢;omega
theorem Ba(h:bL fr th cp=some l)(u:0<cp):jD (fK fr l)<jD fr:=by
 obtain⟨-,g,r,m,d⟩:=eM h;have:=GK l fr m fun i f=>⟨(d i f).1,by have:=(d i f).2;unfold dU at this;rw[Bool.and_eq_true] at this;exact of_decide_eq_true this.2⟩
 have s:0<l.length:=by rw[g];unfold kU;omega
 omega
end
theorem zX9{α:Type}(a:α):∃x,a=x:=⟨_,rfl⟩
instance:Coe Nat (Option Addr):=⟨fun b=>some ⟨b,0,none⟩⟩
theorem aA.tT{S T:Nat->Prop}{w w1 w2:World}(h:aA S w w1)(k:aA T w1 w2)(e:∀i,i<w.heap.size->T i->S i):aA S w w2:=h.trans' k (fun _ _ h=>h) e
abbrev Ka{P:Program}{f:Nat}{x:Array Value}(w:World)(Q:Ending->World->Prop):Prop:=Calls P f x w Q
end Go.Proofs.YtoeinblfcbpcmaaGreatDoor
