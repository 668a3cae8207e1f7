import Derived.Test.YtiinnfhjpaeffaaGreatU16
import Derived.Lib.SlBytesConst
namespace Go.Proofs.YtiinnfhjpaeffaaGreat
open Tryz
set_option maxHeartbeats 0
set_option maxRecDepth 100000
set_option linter.unusedVariables false
section
open Go.RowKit
structure PkW(w:World)(L:Lab)(b1 b5 base p:Nat)(v:Value)(l:List UInt8)(e:Int):Prop where
 pool:L.pool.length=32
 lab:w.heap[b1]?=some (.cells L.cells.toArray 192 (0,0))
 q:w.heap[b5]?=some (.cells #[.pointer (some ⟨p,0,none⟩)] 214 (0,0))
 wr:Wr w base p v l e
 len:l.length≤65536
variable{w w':World}{L:Lab}{b1 b5 base p:Nat}{v:Value}{l:List UInt8}{e:Int}
theorem PkW.cells(h:PkW w L b1 b5 base p v l e) :
 w.cell? ⟨b5,0,none⟩=some (.pointer p)/\w.cell? ⟨b1,32,none⟩=some (.int .i64 L.dev)/\w.cell? ⟨b1,33,none⟩=some (.int .i64 L.devs)/\w.cell? ⟨b1,34,none⟩=some (.int .i64 L.copies) /\
 w.cell? ⟨b1,35,none⟩=some (.int .i64 L.sectors)/\w.cell? ⟨b1,36,none⟩=some (.int .i64 L.life):=by
 obtain⟨c0,c1,c2,c3,c4⟩:=L.at h.pool;exact⟨aD h.q rfl,aD h.lab c0,aD h.lab c1,aD h.lab c2,aD h.lab c3,aD h.lab c4⟩
theorem PkW.same(h:PkW w L b1 b5 base p v l e)(k:aA aB w w'):PkW w' L b1 b5 base p v l e:=
 ⟨h.pool,k.blk h.lab id,k.blk h.q id,h.wr.keep k id (fun _ _=>id),h.len⟩
theorem PkW.rd(h:PkW w L b1 b5 base p v l e):Rd w 1 (.slice b1 32 32) L.pool.length (L.pool.map vb):=by
 refine⟨by simp,_,32,by rw[h.pool],by rw[h.pool];omega,by unfold maxLen;omega,(by intro h;cases h),fun _=>⟨b1,0,rfl,fun i u a=>?_⟩⟩
 have b:i<32:=by
  rw[←h.pool];have:=(List.getElem?_eq_some_iff.1 a).1
  simpa using this
 rw[Nat.zero_add];exact aD h.lab (by rw[List.getElem?_toArray,L.cells_pool h.pool i b];exact a)
theorem dV.end{r:List UInt8×Int}{e:Ending}(h:dV w base p v r e w'):e=.returned (.tuple #[])/\Hid (dV w base p v r (.returned (.tuple #[])) w'):=
 ⟨h.1,O ⟨rfl,h.2⟩⟩
theorem PC(w:World)(l:List UInt8)(t:TypeId)(fr:Nat×Nat)(h:l.length≤maxLen):Rd (w.alloc (.cells (l.map vb).toArray t fr)) 1 (.slice (w.heap.size) l.length l.length) l.length (l.map vb):=by
 refine⟨by simp,_,_,rfl,Nat.le_refl _,h,(by intro h;cases h),fun _=>⟨_,0,rfl,fun i u a=>?_⟩⟩;rw[Nat.zero_add];exact aD (heap_alloc_new _ _) (by rw[List.getElem?_toArray];exact a)
theorem pk1(w:World)(L:Lab)(b1 b5 base p:Nat)(v:Value)(l:List UInt8)(e:Int)(h:PkW w L b1 b5 base p v l e) :
 Calls prog 169 #[.pointer b5] w (dV w base p v (wst (l,e) (cH,0))):=by
 obtain⟨d,c0,c1,c2,c3,c4⟩:=h.cells;have f:=fun(w:World) (C:Array Value) (n c:Nat)=>Lib.run_convert_bytes_const (P:=prog) w 109 5 C n c underlying109 underlying5
 have H:=O h;clear h;go_in;go_wp2_with fail;have K:aA aB w (w.alloc (.cells (cH.map vb).toArray 5 (8,9))):=(aA.refl _ _).alloc _;refine(tM p _ cH (w.alloc (.cells (cH.map vb).toArray 5 (8,9))) base v l e (H.same K).wr H.len (PC w cH 5 (8,9) (by decide)) (by decide)).mono ?_;rintro e g a;obtain⟨rfl,b⟩:=a.end;go_wp2_with fail
 go_end0
 exact dV.of K b.out
theorem pk2(w:World)(L:Lab)(b1 b5 base p:Nat)(v:Value)(l:List UInt8)(e:Int)(h:PkW w L b1 b5 base p v l e) :
 Calls prog 170 #[.pointer b5,.pointer b1] w (dV w base p v (wst (l,e) (L.pool,0))):=by
 obtain⟨c,c0,c1,c2,c3,c4⟩:=h.cells;have H:=O h;clear h;go_in;go_wp2_with fail
 go_still_tail 3,(by kernel_rfl)
 go_wp2_with fail;refine(tM p _ L.pool w.drew base v l e (H.same (aA.refl aB w).drew).wr H.len (H.same (aA.refl aB w).drew).rd (by rw[H.pool];omega)).mono ?_;rintro e d a;obtain⟨rfl,b⟩:=a.end;go_wp2_with fail
 go_end0
 exact dV.of (aA.refl aB w).drew b.out
theorem pk3(w:World)(L:Lab)(b1 b5 base p:Nat)(v:Value)(l:List UInt8)(e:Int)(h:PkW w L b1 b5 base p v l e) :
 Calls prog 171 #[.pointer b5,.pointer b1] w (dV w base p v (wst (l,e) (fB L.dev 1))):=by
 obtain⟨c,c0,c1,c2,c3,c4⟩:=h.cells;have C:=O (nY p L.dev 1 w base v l e h.wr h.len);clear h;go_in;go_wp2_with fail;refine C.out.mono ?_;rintro e d a;obtain⟨rfl,b⟩:=a.end;go_wp2_with fail
 go_end0
 exact b.out
theorem pk4(w:World)(L:Lab)(b1 b5 base p:Nat)(v:Value)(l:List UInt8)(e:Int)(h:PkW w L b1 b5 base p v l e) :
 Calls prog 172 #[.pointer b5,.pointer b1] w (dV w base p v (wst (l,e) (fB L.devs 1))):=by
 obtain⟨c,c0,c1,c2,c3,c4⟩:=h.cells;have C:=O (nY p L.devs 1 w base v l e h.wr h.len);clear h;go_in;go_wp2_with fail;refine C.out.mono ?_;rintro e d a;obtain⟨rfl,b⟩:=a.end;go_wp2_with fail
 go_end0
 exact b.out
theorem pk5(w:World)(L:Lab)(b1 b5 base p:Nat)(v:Value)(l:List UInt8)(e:Int)(h:PkW w L b1 b5 base p v l e) :
 Calls prog 173 #[.pointer b5,.pointer b1] w (dV w base p v (wst (l,e) (fB L.copies 1))):=by
 obtain⟨c,c0,c1,c2,c3,c4⟩:=h.cells;have C:=O (nY p L.copies 1 w base v l e h.wr h.len);clear h;go_in;go_wp2_with fail;refine C.out.mono ?_;rintro e d a;obtain⟨rfl,b⟩:=a.end;go_wp2_with fail
 go_end0
 exact b.out
theorem pk6(w:World)(L:Lab)(b1 b5 base p:Nat)(v:Value)(l:List UInt8)(e:Int)(h:PkW w L b1 b5 base p v l e) :
 Calls prog 174 #[.pointer b5,.pointer b1] w (dV w base p v (wst (l,e) (fB L.sectors 2))):=by
 obtain⟨c,c0,c1,c2,c3,c4⟩:=h.cells;have C:=O (nY p L.sectors 2 w base v l e h.wr h.len);clear h;go_in;go_wp2_with fail;refine C.out.mono ?_;rintro e d a;obtain⟨rfl,b⟩:=a.end;go_wp2_with fail
 go_end0
 exact b.out
theorem pk7(w:World)(L:Lab)(b1 b5 base p:Nat)(v:Value)(l:List UInt8)(e:Int)(h:PkW w L b1 b5 base p v l e) :
 Calls prog 175 #[.pointer b5,.pointer b1] w (dV w base p v (wst (l,e) (fB L.life 5))):=by
 obtain⟨c,c0,c1,c2,c3,c4⟩:=h.cells;have C:=O (nY p L.life 5 w base v l e h.wr h.len);clear h;go_in;go_wp2_with fail;refine C.out.mono ?_;rintro e d a;obtain⟨rfl,b⟩:=a.end;go_wp2_with fail
 go_end0
 exact b.out
theorem pk8(w:World)(L:Lab)(b1 b5 base p:Nat)(v:Value)(l:List UInt8)(e:Int)(h:PkW w L b1 b5 base p v l e) :
 Calls prog 176 #[.pointer b5] w (dV w base p v (wst (l,e) (jR 224 l))):=by
 obtain⟨c,c0,c1,c2,c3,c4⟩:=h.cells;have C:=O (GB p 224 w base v l e h.wr h.len);clear h;go_in;go_wp2_with fail;refine C.out.mono ?_;rintro e d a;obtain⟨rfl,b⟩:=a.end;go_wp2_with fail
 go_end0
 exact b.out
def IB:Nat->Nat
 | 0=>169
 | 1=>170
 | 2=>171
 | 3=>172
 | 4=>173
 | 5=>174
 | 6=>175
 | _=>176
def DT(b1 b5:Nat):Nat->Array Value
 | 0=>#[.pointer b5]
 | 7=>#[.pointer b5]
 | _=>#[.pointer b5,.pointer b1]
theorem PD(b1 b5 k:Nat)(a:k<8):∀w,Sem.run prog (callFunc (IB k) (DT b1 b5 k)) w=.ok (.enter (IB k) (DT b1 b5 k)) w:=by
 intro w;have h:k=0\/k=1\/k=2\/k=3\/k=4\/k=5\/k=6\/k=7:=by omega
 rcases h with rfl|rfl|rfl|rfl|rfl|rfl|rfl|rfl<;>rfl
theorem PE(k:Nat)(b:k<8)(w:World)(L:Lab)(b1 b5 base p:Nat)(v:Value)(h:PkW w L b1 b5 base p v (dP L k).1 (dP L k).2) :
 Calls prog (IB k) (DT b1 b5 k) w (dV w base p v (dP L (k+1))):=by
 have a:k=0\/k=1\/k=2\/k=3\/k=4\/k=5\/k=6\/k=7:=by omega
 rcases a with rfl|rfl|rfl|rfl|rfl|rfl|rfl|rfl
 ·exact pk1 w L b1 b5 base p v _ _ h
 ·exact pk2 w L b1 b5 base p v _ _ h
 ·exact pk3 w L b1 b5 base p v _ _ h
 ·exact pk4 w L b1 b5 base p v _ _ h
 ·exact pk5 w L b1 b5 base p v _ _ h
 ·exact pk6 w L b1 b5 base p v _ _ h
 ·exact pk7 w L b1 b5 base p v _ _ h
 ·exact pk8 w L b1 b5 base p v _ _ h
def eH(L:Lab):List UInt8:=if L.may then bY L++dD (bY L) else []
def ER(w:World)(L:Lab)(e:Ending)(w':World):Prop:=
 ∃v,e=.returned (.tuple #[v,.int .i64 (if L.may then 0 else 2)])/\w'.ownsRow w.heap.size 5 1 v (eH L).length ((eH L).map vb)/\aA aB w w'
def xQ(w:World)(L:Lab)(e:Ending)(w':World):Prop:=
 ∃v,e=.returned (.tuple #[v,.int .i64 (if L.may then 0 else 2)])/\w'.ownsRow w.heap.size 5 1 v (eH L).length ((eH L).map vb)/\aA aB w w'/\Fit IsB w' v
theorem gV:(prog.info? 192).map (·.size)=some 37:=by kernel_rfl
def IC(b1 b5:Nat):Array Value:=#[.func (.func 169) #[] #[.pointer b5],
 .func (.func 170) #[] #[.pointer b5,.pointer b1],.func (.func 171) #[] #[.pointer b5,.pointer b1],
 .func (.func 172) #[] #[.pointer b5,.pointer b1],.func (.func 173) #[] #[.pointer b5,.pointer b1],
 .func (.func 174) #[] #[.pointer b5,.pointer b1],.func (.func 175) #[] #[.pointer b5,.pointer b1],
 .func (.func 176) #[] #[.pointer b5]]
theorem ML(b1 b5 k:Nat)(a:k<8):(IC b1 b5)[k]?=some (.func (.func (IB k)) #[] (DT b1 b5 k)):=by
 have h:k=0\/k=1\/k=2\/k=3\/k=4\/k=5\/k=6\/k=7:=by omega
 rcases h with rfl|rfl|rfl|rfl|rfl|rfl|rfl|rfl<;>rfl
structure PkR(w wr:World)(L:Lab)(b1 b5 b6 base p k:Nat):Prop where
 pk:∃v,PkW wr L b1 b5 base p v (dP L k).1 (dP L k).2
 fs:wr.heap[b6]?=some (.cells (IC b1 b5) 1 (0,0))
 keep:aA aB w wr
 le:w.heap.size≤base
theorem PkR.next{wr o:World}{n k:Nat}(h:PkR w wr L b1 b5 n base p k)(b:PkW wr L b1 b5 base p v (dP L k).1 (dP L k).2){e:Ending}
 (u:dV wr base p v (dP L (k+1)) e o):PkR w o L b1 b5 n base p (k+1):=by
 obtain⟨-,x,m,j,-⟩:=u
 have c:∀i cs t fr,wr.heap[i]?=some (.cells cs t fr)->t≠5->t≠271->¬(i=p\/v.ownBlock=some i):=by
  intro i cs t fr f d r a;rcases a with rfl|a
  ·rw[b.wr.blk] at f;cases f;exact r rfl
  ·obtain⟨cur,s⟩:=aL b.wr.own a
   rw[s] at f;cases f;exact d rfl
 refine⟨⟨x,b.pool,j.blk b.lab (c _ _ _ _ b.lab (by decide) (by decide)),j.blk b.q (c _ _ _ _ b.q (by decide) (by decide)),m,EQ L (k+1)⟩,
  j.blk h.fs (c _ _ _ _ h.fs (by decide) (by decide)),?_,h.le⟩
 refine h.keep.tT j (fun i f a=>?_);have:=h.le;rcases a with rfl|a
 ·have:=b.wr.le;omega
 ·rcases b.wr.own.2 with⟨d,-⟩|⟨g,q,cur,d,y,-⟩
  ·rw[d] at a;cases a
  ·rw[d] at a
   have:g=i:=by simpa [Value.ownBlock] using a
   omega
theorem Ox{m d f:World}{n:Nat}{r:Value}{l g:List Value}{o:Obj}(q:m.ownsRow base 5 1 r n l)(a:aA aB m d)
 (j:f.heap[d.heap.size]?=some (.cells (spl (Array.replicate 32 (.int .u8 0)) 0 g) 25 (0,0))) (c:aA (fun k=>k=d.heap.size) (d.alloc o) f) (b:g.length=32) :
 f.ownsRow base 5 1 r n l/\Rd f 1 (.slice (d.heap.size) 32 32) 32 g/\aA aB m f:=by
 refine⟨?_,?_,(a.alloc o).tT c (fun i y e=>by have:=a.size;omega)⟩
 ·refine c.owns ((a.alloc o).owns q fun _ _=>id) (fun k t e=>?_)
  obtain⟨cur,s⟩:=aL (a.owns q fun _ _=>id) t;have:=lt_of_block s;omega
 ·refine⟨by simpa using b,_,32,rfl,Nat.le_refl _,by unfold maxLen;omega,(by intro h;cases h),fun _=>⟨_,0,rfl,fun i u x=>?_⟩⟩
  rw[Nat.zero_add];refine aD j ?_;rw[aI _ _ (by simpa using b)]
  simpa using x
theorem Oy(L:Lab)(d:L.pool.length=32)(f:L.may=false)(w:World) :
 Calls prog 119 #[.agg L.cells.toArray] w (xQ w L):=by
 have C:=O (xP L d (w.alloc (.cells L.cells.toArray 192)));have c:=O f;clear f;obtain⟨cs,a⟩:=zX9 L.cells
 have b:cs.length=37:=by rw[←a];exact L.cells_length d
 rw[a] at C ⊢;have g:=O a;clear a;go_in
 go_wp2_with (first
  | ((with_reducible show WL (some 11) (.load 192 (.tmp 1)));refine wpList_load_mid rfl 192 (.tmp 1) rfl w.heap.size 0 rfl cs _ (aC (heap_alloc_new _ _)) underlying192 rfl (by rw[b];exact gV) ?_))
 refine C.out.mono ?_;rintro e h ⟨rfl,rfl⟩;rw[c.out];go_wp2
 go_ret2
 refine⟨_,by rw[c.out];rfl,?_,(((aA.refl _ _).alloc _).alloc _),Fit.nil _ _⟩;rw[show eH L=[] by unfold eH;rw[c.out];rfl];exact World.ownsRow_nil _ _ _ _
theorem MM(L:Lab)(X:L.pool.length=32)(hm:L.may=true)(w:World) :
 Calls prog 119 #[.agg L.cells.toArray] w (xQ w L):=by
 have C:=O (xP L X (w.alloc (.cells L.cells.toArray 192)));have I:=O hm;clear hm;have qp:∀(fn:Fn) (first M:Array Value) (w:World),(Instr.makeFunc fn first M).run prog w=.ok (.func fn first M) w:=fun _ _ _ _=>rfl
 obtain⟨cs,o⟩:=zX9 L.cells
 have Y:cs.length=37:=by rw[←o];exact L.cells_length X
 rw[o] at C ⊢;have qa:=O o;clear o;go_in
 go_wp2_with (first
  | ((with_reducible show WL (some 11) (.load 192 (.tmp 1)));refine wpList_load_mid rfl 192 (.tmp 1) rfl w.heap.size 0 rfl cs _ (aC (heap_alloc_new _ _)) underlying192 rfl (by rw[Y];exact gV) ?_))
 refine C.out.mono ?_;rintro e c ⟨rfl,rfl⟩;rw[I.out];go_wp2_with fail;refine(GA _).mono ?_;rintro e c ⟨p,rfl,F,n,hp⟩;have s:c.heap[w.heap.size]?=some (.cells cs.toArray 192 (0,0)):=n.blk (heap_alloc2_old _ _ _) id;have W:aA aB w c:=((((aA.refl aB w).alloc _).alloc _)).trans n;have j:w.heap.size+2=((w.alloc (.cells cs.toArray 192)).alloc (.cells cs.toArray 192)).heap.size:=by simp
 rw[←j] at F hp;have J:=O F;have qd:=O n;have q:=O s;have f:=O W;clear F n s j W;go_wp2_with fail
 have R0:Hid (PkR w ((c.alloc (.cells #[.pointer p] 214)).alloc (.cells (IC w.heap.size c.heap.size) 1)) L w.heap.size c.heap.size (c.heap.size+1) (w.heap.size+2) p 0):=by
  have K:aA aB c ((c.alloc (.cells #[.pointer p] 214)).alloc (.cells (IC w.heap.size c.heap.size) 1)):=((aA.refl _ _).alloc _).alloc _;refine O ⟨⟨.slice none 0 0,X,?_,heap_alloc2_old _ _ _,J.keep K id (fun _ _=>id),by simp[dP]⟩,heap_alloc2_new _ _ _,f.trans K,by omega⟩;rw[qa.out];exact K.blk q.out id
 go_loopw [27] (fun i wr=>∃k:Nat,k≤8/\i=.int .i64 k/\Hid (PkR w wr L w.heap.size c.heap.size (c.heap.size+1) (w.heap.size+2) p k)) (fun i _=>8-(intOf i).toNat)
 case atStart=>exact⟨0,by omega,rfl,R0⟩
 case round =>
  clear R0 J qd q f C;obtain⟨k,hk,rfl,hR⟩:=hrel
  by_cases B:k<8
  ·obtain⟨v,E⟩:=hR.out.pk
   have G:=O E;clear E;have qk:=aD hR.out.fs (ML w.heap.size c.heap.size k B);have y:=PD w.heap.size c.heap.size k B;have qo:(0:Int)≤(k:Int):=by omega
   have n:(k:Int)<8:=by omega
   go_wp2_with fail;refine(PE k B wr L _ _ _ p v G.out).mono ?_;rintro e w2 h1;have qi:=O (hR.out.next G.out h1);obtain⟨rfl,-⟩:=h1.end;clear y qk;go_wp2
   go_roundw
   case rel=>exact⟨k+1,by omega,by go_num,qi⟩
   case measure=>simp[intOf];omega
  ·obtain rfl:k=8:=by omega
   obtain⟨v,E⟩:=hR.out.pk;rw[Ow L X I.out] at E;have ql:=aD (i:=0) (v:=.pointer p) E.q rfl;have f:=O hR.out.keep;have G:=O E;clear E hR;have P:=tP L X;have t:=O P;clear P;go_wp2_with fail;refine(GH p wr _ v _ 0 G.wr G.len).mono ?_;rintro e w3 ⟨v3,rfl,b,A,r⟩;rw[if_pos rfl] at b;have D:=Rd.of_owns b;obtain⟨a3,c3,rfl,-,-⟩:=D.form;have HO:=O b;have HR:=O D;have qb:=O r;have qe:=O (f.trans A);have S:=A.size;have qm:w.heap.size≤wr.heap.size:=f.size;clear b D A r G ql;go_wp2_with fail;refine(yN _ (bY L) w3 HR.out (by rw[t.out];omega)).mono ?_;rintro e w4 ⟨rfl,T⟩;obtain⟨x,m⟩:=zX9 ((dD (bY L)).map vb)
   have z:x.length=32:=by rw[←m];simp[dC]
   have Q:∀u∈x,u.oneCell'=true:=by rw[←m];exact bT _
   rw[m];have H:=O m;have qf:=O T;clear m T
   go_wp2_with (first
    | (refine aS rfl 25 rfl xA A7 (Array.replicate 32 (.int .u8 0)) rfl ?_)
    | ((with_reducible show WL none (.store 25 (.tmp 10) (.tmp 43)));refine aQ rfl 25 (.tmp 10) (.tmp 43) rfl w4.heap.size 0 x rfl rfl _ _ (heap_alloc_new _ _) (by rw[z];simp) (by rw[z];exact pI) Q ?_;intro w5 N U;have d:=O (Ox HO.out qf.out N U z);have qn:wr.heap.size≤w5.heap.size:=Nat.le_trans S d.2.2.size;clear N U)
    | (at_builtin;refine lP rfl (.tmp 44) (.tmp 45) 109 rfl wr.heap.size 5 _ 1 1 underlying109 gL rfl (by omega) (.slice a3 (bY L).length c3) (bY L).length _ rfl d.1 (.slice (w4.heap.size) 32 32) 32 x rfl d.2.1 Q (by unfold maxLen;have:=t.out;omega) (by have:=t.out;omega) qn IsB Ap (by rw[←H.out];exact BY _) (qb.keep d.2.2 (fun g hg=>⟨by obtain⟨cur,hc⟩:=aL HO.out hg;exact lt_of_block hc,id⟩)) ?_;intro v6 w6 a V Z qj R;obtain⟨a6,c6,rfl,-,-⟩:=(Rd.of_owns a).form;have qh:=O a;have qg:=O V;have qc:=O R;clear a V Z qj R))
   go_ret2
   refine⟨_,by rw[I.out];rfl,?_,?_,by simpa using qc.out⟩
   ·have h1:(eH L).length=(bY L).length+32:=by unfold eH;rw[I.out];simp[dC]
    have h2:(eH L).map vb=(bY L).map vb++x:=by unfold eH;rw[I.out,←H.out];simp
    rw[h1,h2];exact aW qh.out qm
   ·exact(qe.trans d.2.2).tT qg.out (fun i hi e=>by have:=aU HO.out e;omega)
theorem MN(L:Lab)(a:L.pool.length=32)(w:World):Calls prog 119 #[.agg L.cells.toArray] w (xQ w L):=by
 rcases b:L.may with _|_
 ·exact Oy L a b w
 ·exact MM L a b w
theorem ES(L:Lab)(d:L.pool.length=32)(w:World):Calls prog 119 #[.agg L.cells.toArray] w (ER w L):=
 (MN L d w).mono fun _ _ ⟨v,a,b,c,_⟩=>⟨v,a,b,c⟩
end
section
def gQ(b:List UInt8):Lab:=
 ⟨(b.drop 8).take 32,beN ((b.drop 40).take 1),beN ((b.drop 41).take 1),beN ((b.drop 42).take 1),beN ((b.drop 43).take 2),beN ((b.drop 45).take 5)⟩
def gG:Lab:=⟨List.replicate 32 0,0,0,0,0,0⟩
def qQ(b:List UInt8):Lab×Int:=
 if b.length≠256 then (gG,4) else if b=List.replicate 256 0 then (gG,6)
 else if (gQ b).may=true/\eH (gQ b)=b then (gQ b,0) else (gG,11)
theorem ID(b:List UInt8)(h:b.length=256):(gQ b).pool.length=32:=by simp[gQ,h]
theorem Ax(l:List UInt8)(h:l.length≤1):(beN l:Int)≤255:=by
 have a:=Es l;have b:256 ^ l.length≤256 ^ 1:=Nat.pow_le_pow_right (by omega) h;omega
theorem xR(L:Lab)(a:L.may=true):eH L=bY L++dD (bY L):=by unfold eH;rw[a];rfl
theorem xS(L:Lab)(a:L.pool.length=32)(b:L.may=true):(eH L).length=256:=by rw[xR L b,List.length_append,tP L a,dC]
theorem Bi(L:Lab)(a:L.may=true):(eH L).take 8=cH:=by
 rw[xR L a];unfold bY iZ;simp only[List.append_assoc];rw[List.take_append_of_le_length (by decide)]
 decide
set_option linter.unusedVariables false
theorem Oz(n k:Nat):be n (k+1)=be (n / 256) k++[UInt8.ofNat n]:=by
 unfold be;rw[List.range_succ,List.map_append,List.map_cons,List.map_nil]
 congr 1
 ·refine List.map_congr_left fun j a=>?_
  rw[List.mem_range] at a;unfold jI;rw[show 8*(k+1-1-j)=8*(k-1-j)+8 by omega,Nat.pow_add,Nat.mul_comm,←Nat.div_div_eq_div_mul]
 ·unfold jI
  simp
theorem PF(n:Nat):∀k,beN (be n k)=n % 256 ^ k:=by
 intro k
 induction k generalizing n with
 | zero=>simp[be,beN,Nat.mod_one]
 | succ k b =>
   rw[Oz,uV,b];have a:(UInt8.ofNat n).toNat=n % 256:=by simp
   rw[a,Nat.pow_succ,Nat.mul_comm (256 ^ k) 256,Nat.mod_mul];omega
theorem rG{z:Int}{k:Nat}(h0:0≤z)(h:z<256 ^ k):(beN (be z.toNat k):Int)=z:=by
 rw[PF,Nat.mod_eq_of_lt]
 ·exact Int.toNat_of_nonneg h0
 ·have:((z.toNat:Nat):Int)<((256 ^ k:Nat):Int):=by rw[Int.toNat_of_nonneg h0];simpa using h
  exact_mod_cast this
theorem iF{α:Type}(a m c:List α){i n:Nat}(b:a.length=i)(d:m.length=n):((a++m++c).drop i).take n=m:=by
 subst b;subst d;rw[List.append_assoc,List.drop_left,List.take_left]
theorem vC(L:Lab)(a:L.pool.length=32)(c:L.may=true):gQ (eH L)=L:=by
 have h:=of_decide_eq_true c;obtain⟨pool,dev,devs,copies,sectors,life⟩:=L;dsimp only at a h;rw[xR _ c];generalize dD (bY ⟨pool,dev,devs,copies,sectors,life⟩)=D;have b:cH.length=8:=rfl;have b1:∀z:Int,(be z.toNat 1).length=1:=fun z=>bL _ _
 have b2:(be sectors.toNat 2).length=2:=bL _ _;have b5:(be life.toNat 5).length=5:=bL _ _
 have k:bY ⟨pool,dev,devs,copies,sectors,life⟩++D=cH++pool++(be dev.toNat 1++be devs.toNat 1++be copies.toNat 1++be sectors.toNat 2++be life.toNat 5++List.replicate 174 0++D):=by
  simp only[bY,iZ,List.append_assoc]
 have m:bY ⟨pool,dev,devs,copies,sectors,life⟩++D=(cH++pool)++be dev.toNat 1++(be devs.toNat 1++be copies.toNat 1++be sectors.toNat 2++be life.toNat 5++List.replicate 174 0++D):=by
  simp only[bY,iZ,List.append_assoc]
 have n:bY ⟨pool,dev,devs,copies,sectors,life⟩++D=(cH++pool++be dev.toNat 1)++be devs.toNat 1++(be copies.toNat 1++be sectors.toNat 2++be life.toNat 5++List.replicate 174 0++D):=by
  simp only[bY,iZ,List.append_assoc]
 have o:bY ⟨pool,dev,devs,copies,sectors,life⟩++D=(cH++pool++be dev.toNat 1++be devs.toNat 1)++be copies.toNat 1++(be sectors.toNat 2++be life.toNat 5++List.replicate 174 0++D):=by
  simp only[bY,iZ,List.append_assoc]
 have q:bY ⟨pool,dev,devs,copies,sectors,life⟩++D=(cH++pool++be dev.toNat 1++be devs.toNat 1++be copies.toNat 1)++be sectors.toNat 2++(be life.toNat 5++List.replicate 174 0++D):=by
  simp only[bY,iZ,List.append_assoc]
 have r:bY ⟨pool,dev,devs,copies,sectors,life⟩++D=(cH++pool++be dev.toNat 1++be devs.toNat 1++be copies.toNat 1++be sectors.toNat 2)++be life.toNat 5++(List.replicate 174 0++D):=by
  simp only[bY,iZ,List.append_assoc]
 unfold gQ;have d:((bY ⟨pool,dev,devs,copies,sectors,life⟩++D).drop 8).take 32=pool:=by rw[k];exact iF _ _ _ b a
 have d2:((bY ⟨pool,dev,devs,copies,sectors,life⟩++D).drop 40).take 1=be dev.toNat 1:=by rw[m];exact iF _ _ _ (by simp[b,a]) (b1 _)
 have f:((bY ⟨pool,dev,devs,copies,sectors,life⟩++D).drop 41).take 1=be devs.toNat 1:=by rw[n];exact iF _ _ _ (by simp[b,a,b1]) (b1 _)
 have g:((bY ⟨pool,dev,devs,copies,sectors,life⟩++D).drop 42).take 1=be copies.toNat 1:=by rw[o];exact iF _ _ _ (by simp[b,a,b1]) (b1 _)
 have i:((bY ⟨pool,dev,devs,copies,sectors,life⟩++D).drop 43).take 2=be sectors.toNat 2:=by rw[q];exact iF _ _ _ (by simp[b,a,b1]) b2
 have j:((bY ⟨pool,dev,devs,copies,sectors,life⟩++D).drop 45).take 5=be life.toNat 5:=by rw[r];exact iF _ _ _ (by simp[b,a,b1,b2]) b5
 rw[d,d2,f,g,i,j];rw[rG (by omega) (by omega),rG (by omega) (by omega),rG (by omega) (by omega),rG (by omega) (by omega),rG (by omega) (by omega)]
theorem ET(L:Lab)(b:L.pool.length=32)(a:L.may=true):qQ (eH L)=(L,0):=by
 unfold qQ;rw[if_neg (by rw[xS L b a];simp),if_neg,if_pos]
 ·rw[vC L b a]
 ·rw[vC L b a];exact⟨a,rfl⟩
 ·intro e
  have:=congrArg (fun l=>l.take 8) e;simp only[Bi L a] at this;revert this
  decide
end
section
open Go.RowKit
def Bj(w:World)(r:Lab×Int)(e:Ending)(w':World):Prop:=e=.returned (.tuple #[.agg r.1.cells.toArray,.int .i64 r.2])/\aA aB w w'
variable{w w':World}{v:Value}{base b2 b5 p at_:Nat}{bs:List UInt8}{fe fa:Int}{zc:List Value}{cs:Array Value}
theorem qL(w:World):(zeroValue 192).run prog w=.ok (.agg gG.cells.toArray) w:=by kernel_rfl
theorem MO(w:World):(Instr.build 192 #[]).run prog w=.ok (.agg gG.cells.toArray) w:=by kernel_rfl
theorem oV(L:Lab):∀u∈L.cells,u.oneCell'=true:=by
 intro u a;rcases List.mem_append.1 a with h|h
 ·exact bT _ u h
 ·simp[Lab.nums] at h
  rcases h with rfl|rfl|rfl|rfl|rfl<;>rfl
theorem IE(x y:Int)(w:World):(Instr.field 182 (.agg #[.int .i64 x,.int .i64 y]) 0).run prog w=.ok (.int .i64 x) w:=by kernel_rfl
theorem jX:gG.cells.length=37:=rfl
theorem MP{n:Nat}(h:w.ownsRow base 5 1 v n (List.replicate n (.int .u8 0))):Rd w 1 v (List.replicate n (0:UInt8)).length ((List.replicate n (0:UInt8)).map vb):=by
 have:=Rd.of_owns h;rw[List.length_replicate,List.map_replicate];exact this
structure UpW(w wr:World)(b2 b5 base p:Nat)(v:Value)(bs:List UInt8)(at_:Nat)(fe fa:Int)(zc:List Value)(cs:Array Value):Prop where
 res:wr.heap[b2]?=some (.cells zc.toArray 192 (0,0))
 lab:wr.heap[b5]?=some (.cells cs 192 (0,0))
 rd:Rdr wr base p v bs at_ fe fa
 keep:aA aB w wr
 ne:b2≠b5
 lb:w.heap.size≤base
 l2:w.heap.size≤b2
 l5:w.heap.size≤b5
theorem UpW.same{wr:World}(h:UpW w wr b2 b5 base p v bs at_ fe fa zc cs)(k:aA aB wr w'):UpW w w' b2 b5 base p v bs at_ fe fa zc cs:=
 ⟨k.blk h.res id,k.blk h.lab id,h.rd.keep k id (fun _ _=>id),h.keep.trans k,h.ne,h.lb,h.l2,h.l5⟩
theorem UpW.read{wr:World}{a:Nat}{d c:Int}(h:UpW w wr b2 b5 base p v bs at_ fe fa zc cs)(k:aA (fun i=>i=p) wr w')(j:Rdr w' base p v bs a d c):UpW w w' b2 b5 base p v bs a d c zc cs:=by
 have g:∀i b,wr.heap[i]?=some (.cells b 192 (0,0))->¬i=p:=by
  rintro i b f rfl;rw[h.rd.blk] at f;cases f
 refine⟨k.blk h.res (g _ _ h.res),k.blk h.lab (g _ _ h.lab),j,h.keep.tT k (fun i f e=>?_),h.ne,h.lb,h.l2,h.l5⟩;have:=h.rd.le;have:=h.lb;omega
theorem UpW.put{wr:World}{a:Array Value}(h:UpW w wr b2 b5 base p v bs at_ fe fa zc cs)(k:aA (fun i=>i=b5) wr w')(d:w'.heap[b5]?=some (.cells a 192 (0,0))):UpW w w' b2 b5 base p v bs at_ fe fa zc a:=by
 have f:=h.l5;refine⟨k.blk h.res h.ne,d,h.rd.keep k ?_ (fun g c e=>?_),h.keep.tT k (fun i j e=>by omega),h.ne,h.lb,h.l2,h.l5⟩
 ·intro e
  have:=h.rd.blk;rw[e,h.lab] at this;cases this
 ·subst e
  obtain⟨cur,b⟩:=aL h.rd.own c;rw[h.lab] at b;cases b
theorem UpW.set{wr:World}(h:UpW w wr b2 b5 base p v bs at_ fe fa zc cs)(i:Nat)(u:Value):UpW w (wr.setCell ⟨b5,i,none⟩ u) b2 b5 base p v bs at_ fe fa zc (cs.setIfInBounds i u):=
 h.put ((aA.refl (fun i=>i=b5) wr).setCell (p:=⟨b5,i,none⟩) (fun _=>rfl) _) (dX h.lab i u)
def iR(P:List Value)(a b c d f:Int):Array Value:=(P++([.int .i64 a,.int .i64 b,.int .i64 c,.int .i64 d,.int .i64 f]:List Value)).toArray
theorem pQ(P:List Value)(h:P.length=32)(a b c d f x:Int):(iR P a b c d f).setIfInBounds 32 (.int .i64 x)=iR P x b c d f/\(iR P a b c d f).setIfInBounds 33 (.int .i64 x)=iR P a x c d f /\
 (iR P a b c d f).setIfInBounds 34 (.int .i64 x)=iR P a b x d f/\(iR P a b c d f).setIfInBounds 35 (.int .i64 x)=iR P a b c x f/\(iR P a b c d f).setIfInBounds 36 (.int .i64 x)=iR P a b c d x:=by
 unfold iR;refine⟨?_,?_,?_,?_,?_⟩<;>rw[List.setIfInBounds_toArray,List.set_append_right _ _ (by omega),h]<;>rfl
theorem pR(P:List Value)(h:P.length=32)(a b c d f:Int)(i:Nat)(g:i<5):∃u,(iR P a b c d f)[32+i]?=some u:=by
 unfold iR;rw[List.getElem?_toArray,List.getElem?_append_right (by omega)];exact⟨_,List.getElem?_eq_getElem (by simp;omega)⟩
theorem Kn(P:List Value)(h:P.length=32)(zc:List Value)(a:gG.cells=zc):spl zc.toArray 0 P=iR P 0 0 0 0 0:=by
 subst a;apply Array.ext_getElem?;intro j;rw[nO _ _ _ _ (by rw[h];decide),h];unfold iR;simp only[List.getElem?_toArray]
 by_cases b:j<32
 ·rw[if_pos (by omega),List.getElem?_append_left (by omega)];rfl
 ·rw[if_neg (by omega),List.getElem?_append_right (by omega),h]
  show (List.replicate 32 (Value.int .u8 0)++[.int .i64 0,.int .i64 0,.int .i64 0,.int .i64 0,.int .i64 0])[j]?=_;rw[List.getElem?_append_right (by simp;omega)];simp
theorem Ko(w:World)(bv:Value)(b:List UInt8)(hr:Rd w 1 bv b.length (b.map vb))(hl:b.length=256)(hz:¬b=List.replicate 256 0)(h3:(gQ b).sectors≤4096)(h4:(gQ b).life≤2147483648)(hm:(gQ b).may=true)(r:eH (gQ b)=b) :
 Calls prog 186 #[bv] w (Bj w (qQ b)):=by
 have xn:∀g,bv.ownBlock=some g->g<w.heap.size:=by
  obtain⟨k,hk,Y⟩:=hr.lt (by simp;omega);intro g hg;rw[hg] at hk;cases hk;exact Y
 obtain⟨a,c,hv,-,-⟩:=hr.form;rw[hl] at hv;subst hv;have HR:=O hr;have H3:=O h3;have H4:=O h4;have HM:=O hm;have HQ:=O r;clear h3 h4 hm r;clear hr;obtain⟨zc,qe,qf,xo⟩:∃zc,gG.cells=zc/\zc.length=37/\∀u∈zc,u.oneCell'=true:=⟨_,rfl,rfl,oV _⟩
 have z0:∀w,(zeroValue 192).run prog w=.ok (.agg zc.toArray) w:=by rw[←qe];exact qL
 have xl:∀w,(Instr.build 192 #[]).run prog w=.ok (.agg zc.toArray) w:=by rw[←qe];exact MO
 have HZ:=O qe;clear qe;have V:=O hl;clear hl;go_in
 go_wp2_with (first
  | (refine aS rfl 192 rfl _ z0 zc.toArray rfl ?_)
  | ((with_reducible show WL (some 15) (.makeSlice _ _ _));refine rT rfl (.const (.int .i64 256)) (.const (.int .i64 256)) 109 rfl w.heap.size 5 (.int .u8 0) 1 underlying109 gL rfl 256 rfl rfl (by omega) (by unfold maxLen;omega) (by simp) ?_;intro E s Y;rw[World.size_alloc] at s;have zl:=O (MP s);have qv:=O Y;clear s Y))
 have qm:aA aB w E:=((aA.refl aB w).alloc _).trans qv.out;have qr:E.heap[w.heap.size]?=some (.cells zc.toArray 192 (0,0)):=qv.blk (heap_alloc_new _ _) id;have qi:=O qr;have n:=O qm;clear qr qm;have zx:decide (b=List.replicate 256 0)=false:=by simpa using hz
 refine(oA E _ _ b (List.replicate 256 0) (HR.keep n.out fun _ _=>id) zl.out false zx).mono ?_;rintro e w3 ⟨rfl,rfl⟩;have qq:=ID b V.out;have HP:=O qq;have z5:=O hz;clear hz zx qq qv zl;go_wp2_with fail;refine(JV _ b E (HR.keep n.out fun _ _=>id) (by rw[V.out];omega)).mono ?_;rintro e w3 ⟨p,v,rfl,d,zb⟩;have T:=zb.blk qi.out id;have qn:=n.trans zb;have z7:=n.size;have I:=O d;have H:=O T;have zj:=O qn;clear d zb T qn qi n;go_wp2_with fail;refine(GE w3 E.heap.size p v b 0 0 I.out 8 (by omega) (by rw[V.out];omega)).mono ?_;rintro e w4 ⟨v4,rfl,-,d,zd⟩;have zy:w.heap.size≠p:=by have:=I.le;have:=lt_of_block H.out;intro e;rw[e,I.blk] at H;cases H.out
 have U:=zd.blk H.out zy;have z9:w.heap.size≤p:=by have:=I.le;omega
 have qo:aA aB w w4:=zj.tT zd (fun i hi e=>by omega);have qg:=O d;have qy:=O U;have qw:=O qo;clear d zd U qo I H zj zy
 go_wp2_with (first
  | (refine aS rfl 192 rfl _ z0 zc.toArray rfl ?_))
 have U5:UpW w ((w4.alloc (.cells zc.toArray 192)).drew) w.heap.size w4.heap.size E.heap.size p v b 8 0 0 zc zc.toArray:=by
  have K:aA aB w4 ((w4.alloc (.cells zc.toArray 192)).drew):=((aA.refl _ _).alloc _).drew;have xg:=lt_of_block qy.out;exact⟨K.blk qy.out id,heap_alloc_new w4 _,qg.keep K id (fun _ _=>id),qw.trans K,by omega,z7,Nat.le_refl _,qw.size⟩
 obtain⟨b5,zt⟩:=zX9 w4.heap.size
 refine wp_region_any (by kernel_rfl) ?_;obtain⟨w5,zz⟩:=zX9 ((w4.alloc (.cells zc.toArray 192)).drew)
 change wpAny _ _ _ _ _ _ _ ((w4.alloc (.cells zc.toArray 192)).drew);rw[zz] at U5 ⊢;rw[zt] at U5 ⊢;have q0:=O U5;clear U5 qg qy qw zz zt z9;refine wpAny_take (i:=0) (v:=.pointer (some ⟨b5,0,none⟩)) rfl (by kernel_rfl) (by kernel_rfl) (by kernel_rfl) (fun _ _ _ h=>h) (.inl ⟨by rfl,fun w'=>?_⟩) ?_
 ·go_simp
 refine wpAny_take (i:=1) (v:=.slice (some ⟨b5,0,none⟩) 32 32) rfl (by kernel_rfl) (by kernel_rfl) (by kernel_rfl) (fun _ _ _ h=>h) (.inl ⟨by rfl,fun w'=>?_⟩) ?_
 ·go_simp
 refine wpAny_take (i:=2) (v:=.pointer p) rfl (by kernel_rfl) (by kernel_rfl) (by kernel_rfl) (fun _ _ _ h=>h) (.inl ⟨by rfl,fun w'=>rfl⟩) ?_;refine Cv (k:=3) rfl (by kernel_rfl) ?_;go_wp2_with fail;refine(GE w5 E.heap.size p v b 8 0 q0.rd 32 (by omega) (by rw[V.out];omega)).mono ?_;rintro e w6 ⟨v6,rfl,qp,d,zu⟩;have B:Rd w6 1 v6 32 ((gQ b).pool.map vb):=Rd.of_owns qp;obtain⟨a6,c6,rfl,-,-⟩:=B.form;have U6:=q0.read zu d;obtain⟨P,hP⟩:=zX9 ((gQ b).pool.map vb)
 have j:P.length=32:=by rw[←hP];simp[HP.out]
 have z6:∀u∈P,u.oneCell'=true:=by rw[←hP];exact bT _
 rw[hP] at B;have z2:=O hP;have q1:=O U6;have qh:=O B;clear hP U6 B qp d zu q0;go_wp2_with fail;refine Cv (k:=4) rfl (by kernel_rfl) ?_;refine tE rfl (.tmp 23) (.tmp 25) 109 109 rfl 5 underlying109 AV b5 0 32 32 rfl _ 32 P rfl qh.out 32 rfl zc.toArray _ q1.lab (by simp[qf]) z6 ?_;intro w7 za zv;rw[List.take_of_length_le (by rw[j];exact Nat.le_refl _),Kn P j zc HZ.out] at za;have q3:=O (q1.put zv za);clear za zv;refine wpList_nil ?_;refine wpAny_done (by kernel_rfl) ?_ _;clear q1 qh;obtain⟨y,Z⟩:=zX9 (beN ((b.drop 40).take 1))
 have zm:=O Z;obtain⟨C,qa⟩:=zX9 (beN ((b.drop 41).take 1))
 have zn:=O qa;obtain⟨F,qb⟩:=zX9 (beN ((b.drop 42).take 1))
 have zo:=O qb;obtain⟨W,qc⟩:=zX9 (beN ((b.drop 43).take 2))
 have zp:=O qc;obtain⟨x4,qd⟩:=zX9 (beN ((b.drop 45).take 5))
 have zq:=O qd;have l0:(y:Int)≤255:=by rw[←Z];exact Ax _ (by simp;omega)
 have l1:(C:Int)≤255:=by rw[←qa];exact Ax _ (by simp;omega)
 have l2:(F:Int)≤255:=by rw[←qb];exact Ax _ (by simp;omega)
 have G:=O (show gQ b=⟨(gQ b).pool,y,C,F,W,x4⟩ by rw[←Z,←qa,←qb,←qc,←qd];rfl);have xh:=O qc;have xi:=O qd;clear Z qa qb qc qd;go_wp2_with fail;refine(pL w7 E.heap.size p v b 40 0 q3.rd 1 0 255 (by omega) (by omega) (by rw[V.out];omega) y zm.out).mono ?_;rintro e w8 ⟨f,r⟩;rw[if_pos ⟨by omega,l0⟩] at r;obtain⟨rfl,d⟩:=r;have q5:=O (q3.read f d);clear f d q3;go_wp2_with fail;refine(pL w8 E.heap.size p v b 41 0 q5.rd 1 0 255 (by omega) (by omega) (by rw[V.out];omega) C zn.out).mono ?_;rintro e w9 ⟨f,r⟩;rw[if_pos ⟨by omega,l1⟩] at r;obtain⟨rfl,d⟩:=r;have q9:=O (q5.read f d);clear f d q5;go_wp2_with fail;refine(pL w9 E.heap.size p v b 42 0 q9.rd 1 0 255 (by omega) (by omega) (by rw[V.out];omega) F zo.out).mono ?_;rintro e xa ⟨f,r⟩;rw[if_pos ⟨by omega,l2⟩] at r;obtain⟨rfl,d⟩:=r;have m:=O (q9.read f d);clear f d q9;have X:=((m.set 32 (.int .i64 y)).set 33 (.int .i64 C)).set 34 (.int .i64 F);rw[(pQ P j 0 0 0 0 0 y).1,(pQ P j y 0 0 0 0 C).2.1,(pQ P j y C 0 0 0 F).2.2.1] at X;obtain⟨u0,g0⟩:=pR P j 0 0 0 0 0 0 (by omega);obtain⟨u1,g1⟩:=pR P j 0 0 0 0 0 1 (by omega);obtain⟨u2,g2⟩:=pR P j 0 0 0 0 0 2 (by omega);have k0:=aD m.lab g0;have k1:=aD m.lab g1;have k2:=aD m.lab g2;have kf:=fun i=>dF m.lab i
 obtain⟨ze,qt⟩:=zX9 (((xa.setCell ⟨b5,32,none⟩ (.int .i64 y)).setCell ⟨b5,33,none⟩ (.int .i64 C)).setCell ⟨b5,34,none⟩ (.int .i64 F))
 rw[qt] at X;have J:=O X;clear X g0 g1 g2;simp only[Nat.add_zero,Nat.reduceAdd] at k0 k1 k2;go_wp2_with fail;clear k0 k1 k2 kf qt m;have l3:(W:Int)≤4096:=by have:=H3.out;rw[G.out] at this;exact this
 have l4:(x4:Int)≤2147483648:=by have:=H4.out;rw[G.out] at this;exact this
 go_wp2_with fail;refine(pL ze E.heap.size p v b 43 0 J.rd 2 0 4096 (by omega) (by omega) (by rw[V.out];omega) W zp.out).mono ?_;rintro e xb ⟨f,r⟩;rw[if_pos ⟨by omega,l3⟩] at r;obtain⟨rfl,d⟩:=r;have M:=O (J.read f d);clear f d J;go_wp2_with fail;refine(pL xb E.heap.size p v b 45 0 M.rd 5 0 2147483648 (by omega) (by omega) (by rw[V.out];omega) x4 zq.out).mono ?_;rintro e xc ⟨f,r⟩;rw[if_pos ⟨by omega,l4⟩] at r;obtain⟨rfl,d⟩:=r;have o:=O (M.read f d);clear f d M;have D:=(o.set 35 (.int .i64 W)).set 36 (.int .i64 x4);rw[(pQ P j y C F 0 0 W).2.2.2.1,(pQ P j y C F W 0 x4).2.2.2.2] at D;obtain⟨u3,g3⟩:=pR P j y C F 0 0 3 (by omega);obtain⟨u4,g4⟩:=pR P j y C F 0 0 4 (by omega);have k3:=aD o.lab g3;have k4:=aD o.lab g4;have kf:=fun i=>dF o.lab i
 obtain⟨zf,qu⟩:=zX9 ((xc.setCell ⟨b5,35,none⟩ (.int .i64 W)).setCell ⟨b5,36,none⟩ (.int .i64 x4))
 rw[qu] at D;obtain⟨L,hL,zs,zr⟩:∃L:Lab,iR P y C F W x4=L.cells.toArray/\L.pool.length=32/\L=⟨(gQ b).pool,y,C,F,W,x4⟩:=⟨⟨(gQ b).pool,y,C,F,W,x4⟩,by rw[←z2.out];rfl,HP.out,rfl⟩
 rw[hL] at D;obtain⟨lc,S⟩:=zX9 L.cells
 have q:lc.length=37:=by rw[←S];exact L.cells_length zs
 have zw:∀u∈lc,u.oneCell'=true:=by rw[←S];exact oV L
 rw[S] at D;have N:=O D;have zk:=O S;have z1:=O zr;clear D g3 g4 hL S zr;simp only[Nat.reduceAdd] at k3 k4
 go_wp2_with (first
  | ((with_reducible show WL (some 43) (.load 192 (.tmp 5)));refine wpList_load_mid rfl 192 (.tmp 5) rfl b5 0 rfl lc _ (aC N.lab) underlying192 rfl (by rw[q];exact gV) ?_))
 clear k3 k4 kf qu o;have CP:=ES L zs zf;rw[zk.out] at CP;refine CP.mono ?_;clear CP;rintro e xd ⟨xp,rfl,A,qk⟩;have Q:=O (N.same qk);have t:=Rd.of_owns A;obtain⟨xj,xk,rfl,-,-⟩:=t.form;have qz:=O t;clear A qk t N;have qx:=O (show L=gQ b by rw[z1.out];exact G.symm);have z3:=O (show qQ b=(gQ b,0) by unfold qQ;rw[if_neg (by rw[V.out];simp),if_neg z5.out,if_pos ⟨HM.out,HQ.out⟩]);rw[show L.may=true by rw[qx.out];exact HM.out];have xm:=IE;go_wp2_with fail;refine(J1 xd E.heap.size p v b _ _ _ Q.rd).mono ?_;rintro e xe ⟨rfl,R⟩;have z:=O (Q.same R);have zh:=O R;clear R Q;go_wp2_with fail;refine(oA xe _ _ (eH L) b (qz.keep zh.out fun _ _=>id) (HR.keep z.keep fun _ _=>id) true (by rw[qx.out];exact decide_eq_true HQ.out)).mono ?_;rintro e xf ⟨rfl,rfl⟩
 go_wp2_with (first
  | ((with_reducible show WL (some 62) (.load 192 (.tmp 5)));refine wpList_load_mid rfl 192 (.tmp 5) rfl b5 0 rfl lc _ (aC z.lab) underlying192 rfl (by rw[q];exact gV) ?_)
  | ((with_reducible show WL none (.store 192 (.tmp 2) (.tmp 62)));refine aQ rfl 192 (.tmp 2) (.tmp 62) rfl w.heap.size 0 lc rfl rfl _ _ z.res (by rw[q];simp[qf]) (by rw[q];exact gV) zw ?_;intro xf qj ql;have zg:=O qj;have zi:=O ql;clear qj ql))
 refine bodyPost_ret (aT rfl _ _ w.heap.size _ _ _ _ rfl zg.out underlying192 rfl (by rw[gH,List.size_toArray,qf];exact gV)) rfl ⟨?_,?_⟩
 ·rw[aI _ _ (by rw[q];simp[qf]),z3.out,←zk.out,qx.out];rfl
 ·exact z.keep.tT zi.out (fun i hi e=>by omega)
theorem DD(w:World)(d:Value)(L:Lab)(g:L.pool.length=32)(a:L.may=true)(b:List UInt8)(h:b=eH L)(i:Rd w 1 d b.length (b.map vb)):Calls prog 186 #[d] w (Bj w (qQ b)):=by
 subst h;have c:=vC L g a;have f:=a;unfold Lab.may at f;simp only[decide_eq_true_eq] at f;refine Ko w d _ i (xS L g a) (fun e=>?_) (by rw[c];omega) (by rw[c];omega) (by rw[c];exact a) (by rw[c]);have:=congrArg (fun l=>l.take 8) e;simp only[Bi L a] at this;revert this
 decide
end
end Go.Proofs.YtiinnfhjpaeffaaGreat
