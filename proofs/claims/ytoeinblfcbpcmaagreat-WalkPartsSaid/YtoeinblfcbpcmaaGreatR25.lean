import Derived.Test.YtoeinblfcbpcmaaGreatR16
import Derived.Lib.SlBytesConst
namespace Go.Proofs.YtoeinblfcbpcmaaGreat
open Tryz
set_option maxHeartbeats 0
set_option maxRecDepth 100000
set_option linter.unusedVariables false
section
open Go.RowKit
structure PkW(w:World)(L:Lab)(b1 b5 base p:Nat)(v:Value)(l:List UInt8)(e:Int):Prop where
 pool:L.pool.length=32
 lab:w.heap[b1]?=some (.cells L.cells.toArray 157 (0,0))
 q:w.heap[b5]?=some (.cells #[.pointer (some ⟨p,0,none⟩)] 196 (0,0))
 wr:Wr w base p v l e
 len:l.length≤65536
variable{w w':World}{L:Lab}{b1 b5 base p:Nat}{v:Value}{l:List UInt8}{e:Int}
theorem PkW.cells(h:PkW w L b1 b5 base p v l e) :
 w.cell? ⟨b5,0,none⟩=some (.pointer p)/\w.cell? ⟨b1,32,none⟩=some (.int .i64 L.dev)/\w.cell? ⟨b1,33,none⟩=some (.int .i64 L.devs)/\w.cell? ⟨b1,34,none⟩=some (.int .i64 L.copies) /\
 w.cell? ⟨b1,35,none⟩=some (.int .i64 L.sectors)/\w.cell? ⟨b1,36,none⟩=some (.int .i64 L.life):=by
 obtain⟨c0,c1,c2,c3,c4⟩:=L.at h.pool;exact⟨aC h.q rfl,aC h.lab c0,aC h.lab c1,aC h.lab c2,aC h.lab c3,aC h.lab c4⟩
theorem PkW.same(h:PkW w L b1 b5 base p v l e)(k:aA aB w w'):PkW w' L b1 b5 base p v l e:=
 ⟨h.pool,k.blk h.lab id,k.blk h.q id,h.wr.keep k id (fun _ _=>id),h.len⟩
theorem PkW.rd(h:PkW w L b1 b5 base p v l e):Rd w 1 (.slice b1 32 32) L.pool.length (L.pool.map vb):=by
 refine⟨by simp,_,32,by rw[h.pool],by rw[h.pool];omega,by unfold maxLen;omega,(by intro h;cases h),fun _=>⟨b1,0,rfl,fun i u a=>?_⟩⟩
 have b:i<32:=by
  rw[←h.pool];have:=(List.getElem?_eq_some_iff.1 a).1
  simpa using this
 rw[Nat.zero_add];exact aC h.lab (by rw[List.getElem?_toArray,L.cells_pool h.pool i b];exact a)
theorem dO.end{r:List UInt8×Int}{e:Ending}(h:dO w base p v r e w'):e=.returned (.tuple #[])/\Hid (dO w base p v r (.returned (.tuple #[])) w'):=
 ⟨h.1,O ⟨rfl,h.2⟩⟩
theorem P6(w:World)(l:List UInt8)(t:TypeId)(fr:Nat×Nat)(h:l.length≤maxLen):Rd (w.alloc (.cells (l.map vb).toArray t fr)) 1 (.slice (w.heap.size) l.length l.length) l.length (l.map vb):=by
 refine⟨by simp,_,_,rfl,Nat.le_refl _,h,(by intro h;cases h),fun _=>⟨_,0,rfl,fun i u a=>?_⟩⟩;rw[Nat.zero_add];exact aC (heap_alloc_new _ _) (by rw[List.getElem?_toArray];exact a)
theorem pk1(w:World)(L:Lab)(b1 b5 base p:Nat)(v:Value)(l:List UInt8)(e:Int)(h:PkW w L b1 b5 base p v l e) :
 Calls prog 122 #[.pointer b5] w (dO w base p v (wst (l,e) (cG,0))):=by
 obtain⟨d,c0,c1,c2,c3,c4⟩:=h.cells;have f:=fun(w:World) (C:Array Value) (n c:Nat)=>Lib.run_convert_bytes_const (P:=prog) w 68 5 C n c underlying68 underlying5
 have H:=O h;clear h;go_in;go_wp2_with fail;have K:aA aB w (w.alloc (.cells (cG.map vb).toArray 5 (8,9))):=(aA.refl _ _).alloc _;refine(tH p _ cG (w.alloc (.cells (cG.map vb).toArray 5 (8,9))) base v l e (H.same K).wr H.len (P6 w cG 5 (8,9) (by decide)) (by decide)).mono ?_;rintro e g a;obtain⟨rfl,b⟩:=a.end;go_wp2_with fail
 go_end0
 exact dO.of K b.out
theorem pk2(w:World)(L:Lab)(b1 b5 base p:Nat)(v:Value)(l:List UInt8)(e:Int)(h:PkW w L b1 b5 base p v l e) :
 Calls prog 124 #[.pointer b5,.pointer b1] w (dO w base p v (wst (l,e) (L.pool,0))):=by
 obtain⟨c,c0,c1,c2,c3,c4⟩:=h.cells;have H:=O h;clear h;go_in;go_wp2_with fail
 go_still_tail 3,(by kernel_rfl)
 go_wp2_with fail;refine(tH p _ L.pool w.drew base v l e (H.same (aA.refl aB w).drew).wr H.len (H.same (aA.refl aB w).drew).rd (by rw[H.pool];omega)).mono ?_;rintro e d a;obtain⟨rfl,b⟩:=a.end;go_wp2_with fail
 go_end0
 exact dO.of (aA.refl aB w).drew b.out
theorem pk3(w:World)(L:Lab)(b1 b5 base p:Nat)(v:Value)(l:List UInt8)(e:Int)(h:PkW w L b1 b5 base p v l e) :
 Calls prog 125 #[.pointer b5,.pointer b1] w (dO w base p v (wst (l,e) (eT L.dev 1))):=by
 obtain⟨c,c0,c1,c2,c3,c4⟩:=h.cells;have C:=O (nG p L.dev 1 w base v l e h.wr h.len);clear h;go_in;go_wp2_with fail;refine C.out.mono ?_;rintro e d a;obtain⟨rfl,b⟩:=a.end;go_wp2_with fail
 go_end0
 exact b.out
theorem pk4(w:World)(L:Lab)(b1 b5 base p:Nat)(v:Value)(l:List UInt8)(e:Int)(h:PkW w L b1 b5 base p v l e) :
 Calls prog 127 #[.pointer b5,.pointer b1] w (dO w base p v (wst (l,e) (eT L.devs 1))):=by
 obtain⟨c,c0,c1,c2,c3,c4⟩:=h.cells;have C:=O (nG p L.devs 1 w base v l e h.wr h.len);clear h;go_in;go_wp2_with fail;refine C.out.mono ?_;rintro e d a;obtain⟨rfl,b⟩:=a.end;go_wp2_with fail
 go_end0
 exact b.out
theorem pk5(w:World)(L:Lab)(b1 b5 base p:Nat)(v:Value)(l:List UInt8)(e:Int)(h:PkW w L b1 b5 base p v l e) :
 Calls prog 128 #[.pointer b5,.pointer b1] w (dO w base p v (wst (l,e) (eT L.copies 1))):=by
 obtain⟨c,c0,c1,c2,c3,c4⟩:=h.cells;have C:=O (nG p L.copies 1 w base v l e h.wr h.len);clear h;go_in;go_wp2_with fail;refine C.out.mono ?_;rintro e d a;obtain⟨rfl,b⟩:=a.end;go_wp2_with fail
 go_end0
 exact b.out
theorem pk6(w:World)(L:Lab)(b1 b5 base p:Nat)(v:Value)(l:List UInt8)(e:Int)(h:PkW w L b1 b5 base p v l e) :
 Calls prog 129 #[.pointer b5,.pointer b1] w (dO w base p v (wst (l,e) (eT L.sectors 2))):=by
 obtain⟨c,c0,c1,c2,c3,c4⟩:=h.cells;have C:=O (nG p L.sectors 2 w base v l e h.wr h.len);clear h;go_in;go_wp2_with fail;refine C.out.mono ?_;rintro e d a;obtain⟨rfl,b⟩:=a.end;go_wp2_with fail
 go_end0
 exact b.out
theorem pk7(w:World)(L:Lab)(b1 b5 base p:Nat)(v:Value)(l:List UInt8)(e:Int)(h:PkW w L b1 b5 base p v l e) :
 Calls prog 130 #[.pointer b5,.pointer b1] w (dO w base p v (wst (l,e) (eT L.life 5))):=by
 obtain⟨c,c0,c1,c2,c3,c4⟩:=h.cells;have C:=O (nG p L.life 5 w base v l e h.wr h.len);clear h;go_in;go_wp2_with fail;refine C.out.mono ?_;rintro e d a;obtain⟨rfl,b⟩:=a.end;go_wp2_with fail
 go_end0
 exact b.out
theorem pk8(w:World)(L:Lab)(b1 b5 base p:Nat)(v:Value)(l:List UInt8)(e:Int)(h:PkW w L b1 b5 base p v l e) :
 Calls prog 131 #[.pointer b5] w (dO w base p v (wst (l,e) (jJ 224 l))):=by
 obtain⟨c,c0,c1,c2,c3,c4⟩:=h.cells;have C:=O (GL p 224 w base v l e h.wr h.len);clear h;go_in;go_wp2_with fail;refine C.out.mono ?_;rintro e d a;obtain⟨rfl,b⟩:=a.end;go_wp2_with fail
 go_end0
 exact b.out
def IP:Nat->Nat
 | 0=>122
 | 1=>124
 | 2=>125
 | 3=>127
 | 4=>128
 | 5=>129
 | 6=>130
 | _=>131
def DV(b1 b5:Nat):Nat->Array Value
 | 0=>#[.pointer b5]
 | 7=>#[.pointer b5]
 | _=>#[.pointer b5,.pointer b1]
theorem P7(b1 b5 k:Nat)(a:k<8):∀w,Sem.run prog (callFunc (IP k) (DV b1 b5 k)) w=.ok (.enter (IP k) (DV b1 b5 k)) w:=by
 intro w;have h:k=0\/k=1\/k=2\/k=3\/k=4\/k=5\/k=6\/k=7:=by omega
 rcases h with rfl|rfl|rfl|rfl|rfl|rfl|rfl|rfl<;>rfl
theorem P8(k:Nat)(b:k<8)(w:World)(L:Lab)(b1 b5 base p:Nat)(v:Value)(h:PkW w L b1 b5 base p v (dL L k).1 (dL L k).2) :
 Calls prog (IP k) (DV b1 b5 k) w (dO w base p v (dL L (k+1))):=by
 have a:k=0\/k=1\/k=2\/k=3\/k=4\/k=5\/k=6\/k=7:=by omega
 rcases a with rfl|rfl|rfl|rfl|rfl|rfl|rfl|rfl
 ·exact pk1 w L b1 b5 base p v _ _ h
 ·exact pk2 w L b1 b5 base p v _ _ h
 ·exact pk3 w L b1 b5 base p v _ _ h
 ·exact pk4 w L b1 b5 base p v _ _ h
 ·exact pk5 w L b1 b5 base p v _ _ h
 ·exact pk6 w L b1 b5 base p v _ _ h
 ·exact pk7 w L b1 b5 base p v _ _ h
 ·exact pk8 w L b1 b5 base p v _ _ h
def eC(L:Lab):List UInt8:=if L.may then bV L++dB (bV L) else []
def EW(w:World)(L:Lab)(e:Ending)(w':World):Prop:=
 ∃v,e=.returned (.tuple #[v,.int .i64 (if L.may then 0 else 2)])/\w'.ownsRow w.heap.size 5 1 v (eC L).length ((eC L).map vb)/\aA aB w w'
def xM(w:World)(L:Lab)(e:Ending)(w':World):Prop:=
 ∃v,e=.returned (.tuple #[v,.int .i64 (if L.may then 0 else 2)])/\w'.ownsRow w.heap.size 5 1 v (eC L).length ((eC L).map vb)/\aA aB w w'/\Fit IsB w' v
theorem gQ:(prog.info? 157).map (·.size)=some 37:=by kernel_rfl
def IQ(b1 b5:Nat):Array Value:=#[.func (.func 122) #[] #[.pointer b5],
 .func (.func 124) #[] #[.pointer b5,.pointer b1],.func (.func 125) #[] #[.pointer b5,.pointer b1],
 .func (.func 127) #[] #[.pointer b5,.pointer b1],.func (.func 128) #[] #[.pointer b5,.pointer b1],
 .func (.func 129) #[] #[.pointer b5,.pointer b1],.func (.func 130) #[] #[.pointer b5,.pointer b1],
 .func (.func 131) #[] #[.pointer b5]]
theorem M4(b1 b5 k:Nat)(a:k<8):(IQ b1 b5)[k]?=some (.func (.func (IP k)) #[] (DV b1 b5 k)):=by
 have h:k=0\/k=1\/k=2\/k=3\/k=4\/k=5\/k=6\/k=7:=by omega
 rcases h with rfl|rfl|rfl|rfl|rfl|rfl|rfl|rfl<;>rfl
structure PkR(w wr:World)(L:Lab)(b1 b5 b6 base p k:Nat):Prop where
 pk:∃v,PkW wr L b1 b5 base p v (dL L k).1 (dL L k).2
 fs:wr.heap[b6]?=some (.cells (IQ b1 b5) 1 (0,0))
 keep:aA aB w wr
 le:w.heap.size≤base
theorem PkR.next{wr o:World}{n k:Nat}(h:PkR w wr L b1 b5 n base p k)(b:PkW wr L b1 b5 base p v (dL L k).1 (dL L k).2){e:Ending}
 (u:dO wr base p v (dL L (k+1)) e o):PkR w o L b1 b5 n base p (k+1):=by
 obtain⟨-,x,m,j,-⟩:=u
 have c:∀i cs t fr,wr.heap[i]?=some (.cells cs t fr)->t≠5->t≠251->¬(i=p\/v.ownBlock=some i):=by
  intro i cs t fr f d r a;rcases a with rfl|a
  ·rw[b.wr.blk] at f;cases f;exact r rfl
  ·obtain⟨cur,s⟩:=aJ b.wr.own a
   rw[s] at f;cases f;exact d rfl
 refine⟨⟨x,b.pool,j.blk b.lab (c _ _ _ _ b.lab (by decide) (by decide)),j.blk b.q (c _ _ _ _ b.q (by decide) (by decide)),m,EV L (k+1)⟩,
  j.blk h.fs (c _ _ _ _ h.fs (by decide) (by decide)),?_,h.le⟩
 refine h.keep.tT j (fun i f a=>?_);have:=h.le;rcases a with rfl|a
 ·have:=b.wr.le;omega
 ·rcases b.wr.own.2 with⟨d,-⟩|⟨g,q,cur,d,y,-⟩
  ·rw[d] at a;cases a
  ·rw[d] at a
   have:g=i:=by simpa [Value.ownBlock] using a
   omega
theorem OU{m d f:World}{n:Nat}{r:Value}{l g:List Value}{o:Obj}(q:m.ownsRow base 5 1 r n l)(a:aA aB m d)
 (j:f.heap[d.heap.size]?=some (.cells (spl (Array.replicate 32 (.int .u8 0)) 0 g) 28 (0,0))) (c:aA (fun k=>k=d.heap.size) (d.alloc o) f) (b:g.length=32) :
 f.ownsRow base 5 1 r n l/\Rd f 1 (.slice (d.heap.size) 32 32) 32 g/\aA aB m f:=by
 refine⟨?_,?_,(a.alloc o).tT c (fun i y e=>by have:=a.size;omega)⟩
 ·refine c.owns ((a.alloc o).owns q fun _ _=>id) (fun k t e=>?_)
  obtain⟨cur,s⟩:=aJ (a.owns q fun _ _=>id) t;have:=lt_of_block s;omega
 ·refine⟨by simpa using b,_,32,rfl,Nat.le_refl _,by unfold maxLen;omega,(by intro h;cases h),fun _=>⟨_,0,rfl,fun i u x=>?_⟩⟩
  rw[Nat.zero_add];refine aC j ?_;rw[aS _ _ (by simpa using b)]
  simpa using x
theorem OV(L:Lab)(d:L.pool.length=32)(f:L.may=false)(w:World) :
 Calls prog 87 #[.agg L.cells.toArray] w (xM w L):=by
 have C:=O (xL L d (w.alloc (.cells L.cells.toArray 157)));have c:=O f;clear f;obtain⟨cs,a⟩:=zX9 L.cells
 have b:cs.length=37:=by rw[←a];exact L.cells_length d
 rw[a] at C ⊢;have g:=O a;clear a;go_in
 go_wp2_with (first
  | ((with_reducible show WL (some 11) (.load 157 (.tmp 1)));refine wpList_load_mid rfl 157 (.tmp 1) rfl w.heap.size 0 rfl cs _ (aD (heap_alloc_new _ _)) underlying157 rfl (by rw[b];exact gQ) ?_))
 refine C.out.mono ?_;rintro e h ⟨rfl,rfl⟩;rw[c.out];go_wp2
 go_ret2
 refine⟨_,by rw[c.out];rfl,?_,(((aA.refl _ _).alloc _).alloc _),Fit.nil _ _⟩;rw[show eC L=[] by unfold eC;rw[c.out];rfl];exact World.ownsRow_nil _ _ _ _
theorem M5(L:Lab)(X:L.pool.length=32)(hm:L.may=true)(w:World) :
 Calls prog 87 #[.agg L.cells.toArray] w (xM w L):=by
 have C:=O (xL L X (w.alloc (.cells L.cells.toArray 157)));have I:=O hm;clear hm;have qp:∀(fn:Fn) (first M:Array Value) (w:World),(Instr.makeFunc fn first M).run prog w=.ok (.func fn first M) w:=fun _ _ _ _=>rfl
 obtain⟨cs,o⟩:=zX9 L.cells
 have Y:cs.length=37:=by rw[←o];exact L.cells_length X
 rw[o] at C ⊢;have qa:=O o;clear o;go_in
 go_wp2_with (first
  | ((with_reducible show WL (some 11) (.load 157 (.tmp 1)));refine wpList_load_mid rfl 157 (.tmp 1) rfl w.heap.size 0 rfl cs _ (aD (heap_alloc_new _ _)) underlying157 rfl (by rw[Y];exact gQ) ?_))
 refine C.out.mono ?_;rintro e c ⟨rfl,rfl⟩;rw[I.out];go_wp2_with fail;refine(GK _).mono ?_;rintro e c ⟨p,rfl,F,n,hp⟩;have s:c.heap[w.heap.size]?=some (.cells cs.toArray 157 (0,0)):=n.blk (heap_alloc2_old _ _ _) id;have W:aA aB w c:=((((aA.refl aB w).alloc _).alloc _)).trans n;have j:w.heap.size+2=((w.alloc (.cells cs.toArray 157)).alloc (.cells cs.toArray 157)).heap.size:=by simp
 rw[←j] at F hp;have J:=O F;have qd:=O n;have q:=O s;have f:=O W;clear F n s j W;go_wp2_with fail
 have R0:Hid (PkR w ((c.alloc (.cells #[.pointer p] 196)).alloc (.cells (IQ w.heap.size c.heap.size) 1)) L w.heap.size c.heap.size (c.heap.size+1) (w.heap.size+2) p 0):=by
  have K:aA aB c ((c.alloc (.cells #[.pointer p] 196)).alloc (.cells (IQ w.heap.size c.heap.size) 1)):=((aA.refl _ _).alloc _).alloc _;refine O ⟨⟨.slice none 0 0,X,?_,heap_alloc2_old _ _ _,J.keep K id (fun _ _=>id),by simp[dL]⟩,heap_alloc2_new _ _ _,f.trans K,by omega⟩;rw[qa.out];exact K.blk q.out id
 go_loopw [27] (fun i wr=>∃k:Nat,k≤8/\i=.int .i64 k/\Hid (PkR w wr L w.heap.size c.heap.size (c.heap.size+1) (w.heap.size+2) p k)) (fun i _=>8-(intOf i).toNat)
 case atStart=>exact⟨0,by omega,rfl,R0⟩
 case round =>
  clear R0 J qd q f C;obtain⟨k,hk,rfl,hR⟩:=hrel
  by_cases B:k<8
  ·obtain⟨v,E⟩:=hR.out.pk
   have G:=O E;clear E;have qk:=aC hR.out.fs (M4 w.heap.size c.heap.size k B);have y:=P7 w.heap.size c.heap.size k B;have qo:(0:Int)≤(k:Int):=by omega
   have n:(k:Int)<8:=by omega
   go_wp2_with fail;refine(P8 k B wr L _ _ _ p v G.out).mono ?_;rintro e w2 h1;have qi:=O (hR.out.next G.out h1);obtain⟨rfl,-⟩:=h1.end;clear y qk;go_wp2
   go_roundw
   case rel=>exact⟨k+1,by omega,by go_num,qi⟩
   case measure=>simp[intOf];omega
  ·obtain rfl:k=8:=by omega
   obtain⟨v,E⟩:=hR.out.pk;rw[OT L X I.out] at E;have ql:=aC (i:=0) (v:=.pointer p) E.q rfl;have f:=O hR.out.keep;have G:=O E;clear E hR;have P:=tK L X;have t:=O P;clear P;go_wp2_with fail;refine(GR p wr _ v _ 0 G.wr G.len).mono ?_;rintro e w3 ⟨v3,rfl,b,A,r⟩;rw[if_pos rfl] at b;have D:=Rd.of_owns b;obtain⟨a3,c3,rfl,-,-⟩:=D.form;have HO:=O b;have HR:=O D;have qb:=O r;have qe:=O (f.trans A);have S:=A.size;have qm:w.heap.size≤wr.heap.size:=f.size;clear b D A r G ql;go_wp2_with fail;refine(yF _ (bV L) w3 HR.out (by rw[t.out];omega)).mono ?_;rintro e w4 ⟨rfl,T⟩;obtain⟨x,m⟩:=zX9 ((dB (bV L)).map vb)
   have z:x.length=32:=by rw[←m];simp[cZ]
   have Q:∀u∈x,u.oneCell'=true:=by rw[←m];exact bR _
   rw[m];have H:=O m;have qf:=O T;clear m T
   go_wp2_with (first
    | (refine aY rfl 28 rfl wU AT (Array.replicate 32 (.int .u8 0)) rfl ?_)
    | ((with_reducible show WL none (.store 28 (.tmp 10) (.tmp 43)));refine aQ rfl 28 (.tmp 10) (.tmp 43) rfl w4.heap.size 0 x rfl rfl _ _ (heap_alloc_new _ _) (by rw[z];simp) (by rw[z];exact oY) Q ?_;intro w5 N U;have d:=O (OU HO.out qf.out N U z);have qn:wr.heap.size≤w5.heap.size:=Nat.le_trans S d.2.2.size;clear N U)
    | (at_builtin;refine lD rfl (.tmp 44) (.tmp 45) 68 rfl wr.heap.size 5 _ 1 1 underlying68 gJ rfl (by omega) (.slice a3 (bV L).length c3) (bV L).length _ rfl d.1 (.slice (w4.heap.size) 32 32) 32 x rfl d.2.1 Q (by unfold maxLen;have:=t.out;omega) (by have:=t.out;omega) qn IsB Aa (by rw[←H.out];exact BR _) (qb.keep d.2.2 (fun g hg=>⟨by obtain⟨cur,hc⟩:=aJ HO.out hg;exact lt_of_block hc,id⟩)) ?_;intro v6 w6 a V Z qj R;obtain⟨a6,c6,rfl,-,-⟩:=(Rd.of_owns a).form;have qh:=O a;have qg:=O V;have qc:=O R;clear a V Z qj R))
   go_ret2
   refine⟨_,by rw[I.out];rfl,?_,?_,by simpa using qc.out⟩
   ·have h1:(eC L).length=(bV L).length+32:=by unfold eC;rw[I.out];simp[cZ]
    have h2:(eC L).map vb=(bV L).map vb++x:=by unfold eC;rw[I.out,←H.out];simp
    rw[h1,h2];exact bA qh.out qm
   ·exact(qe.trans d.2.2).tT qg.out (fun i hi e=>by have:=aW HO.out e;omega)
theorem M6(L:Lab)(a:L.pool.length=32)(w:World):Calls prog 87 #[.agg L.cells.toArray] w (xM w L):=by
 rcases b:L.may with _|_
 ·exact OV L a b w
 ·exact M5 L a b w
theorem EX(L:Lab)(d:L.pool.length=32)(w:World):Calls prog 87 #[.agg L.cells.toArray] w (EW w L):=
 (M6 L d w).mono fun _ _ ⟨v,a,b,c,_⟩=>⟨v,a,b,c⟩
end
section
def gN(b:List UInt8):Lab:=
 ⟨(b.drop 8).take 32,beN ((b.drop 40).take 1),beN ((b.drop 41).take 1),beN ((b.drop 42).take 1),beN ((b.drop 43).take 2),beN ((b.drop 45).take 5)⟩
def mE:Lab:=⟨List.replicate 32 0,0,0,0,0,0⟩
def qJ(b:List UInt8):Lab×Int:=
 if b.length≠256 then (mE,4) else if b=List.replicate 256 0 then (mE,6)
 else if (gN b).may=true/\eC (gN b)=b then (gN b,0) else (mE,11)
theorem IR(b:List UInt8)(h:b.length=256):(gN b).pool.length=32:=by simp[gN,h]
theorem Aj(l:List UInt8)(h:l.length≤1):(beN l:Int)≤255:=by
 have a:=Ey l;have b:256 ^ l.length≤256 ^ 1:=Nat.pow_le_pow_right (by omega) h;omega
theorem xN(L:Lab)(a:L.may=true):eC L=bV L++dB (bV L):=by unfold eC;rw[a];rfl
theorem xO(L:Lab)(a:L.pool.length=32)(b:L.may=true):(eC L).length=256:=by rw[xN L b,List.length_append,tK L a,cZ]
theorem A8(L:Lab)(a:L.may=true):(eC L).take 8=cG:=by
 rw[xN L a];unfold bV iS;simp only[List.append_assoc];rw[List.take_append_of_le_length (by decide)]
 decide
set_option linter.unusedVariables false
theorem OW(n k:Nat):be n (k+1)=be (n / 256) k++[UInt8.ofNat n]:=by
 unfold be;rw[List.range_succ,List.map_append,List.map_cons,List.map_nil]
 congr 1
 ·refine List.map_congr_left fun j a=>?_
  rw[List.mem_range] at a;unfold iY;rw[show 8*(k+1-1-j)=8*(k-1-j)+8 by omega,Nat.pow_add,Nat.mul_comm,←Nat.div_div_eq_div_mul]
 ·unfold iY
  simp
theorem P9(n:Nat):∀k,beN (be n k)=n % 256 ^ k:=by
 intro k
 induction k generalizing n with
 | zero=>simp[be,beN,Nat.mod_one]
 | succ k b =>
   rw[OW,uP,b];have a:(UInt8.ofNat n).toNat=n % 256:=by simp
   rw[a,Nat.pow_succ,Nat.mul_comm (256 ^ k) 256,Nat.mod_mul];omega
theorem rA{z:Int}{k:Nat}(h0:0≤z)(h:z<256 ^ k):(beN (be z.toNat k):Int)=z:=by
 rw[P9,Nat.mod_eq_of_lt]
 ·exact Int.toNat_of_nonneg h0
 ·have:((z.toNat:Nat):Int)<((256 ^ k:Nat):Int):=by rw[Int.toNat_of_nonneg h0];simpa using h
  exact_mod_cast this
theorem hE{α:Type}(a m c:List α){i n:Nat}(b:a.length=i)(d:m.length=n):((a++m++c).drop i).take n=m:=by
 subst b;subst d;rw[List.append_assoc,List.drop_left,List.take_left]
theorem uY(L:Lab)(a:L.pool.length=32)(c:L.may=true):gN (eC L)=L:=by
 have h:=of_decide_eq_true c;obtain⟨pool,dev,devs,copies,sectors,life⟩:=L;dsimp only at a h;rw[xN _ c];generalize dB (bV ⟨pool,dev,devs,copies,sectors,life⟩)=D;have b:cG.length=8:=rfl;have b1:∀z:Int,(be z.toNat 1).length=1:=fun z=>bJ _ _
 have b2:(be sectors.toNat 2).length=2:=bJ _ _;have b5:(be life.toNat 5).length=5:=bJ _ _
 have k:bV ⟨pool,dev,devs,copies,sectors,life⟩++D=cG++pool++(be dev.toNat 1++be devs.toNat 1++be copies.toNat 1++be sectors.toNat 2++be life.toNat 5++List.replicate 174 0++D):=by
  simp only[bV,iS,List.append_assoc]
 have m:bV ⟨pool,dev,devs,copies,sectors,life⟩++D=(cG++pool)++be dev.toNat 1++(be devs.toNat 1++be copies.toNat 1++be sectors.toNat 2++be life.toNat 5++List.replicate 174 0++D):=by
  simp only[bV,iS,List.append_assoc]
 have n:bV ⟨pool,dev,devs,copies,sectors,life⟩++D=(cG++pool++be dev.toNat 1)++be devs.toNat 1++(be copies.toNat 1++be sectors.toNat 2++be life.toNat 5++List.replicate 174 0++D):=by
  simp only[bV,iS,List.append_assoc]
 have o:bV ⟨pool,dev,devs,copies,sectors,life⟩++D=(cG++pool++be dev.toNat 1++be devs.toNat 1)++be copies.toNat 1++(be sectors.toNat 2++be life.toNat 5++List.replicate 174 0++D):=by
  simp only[bV,iS,List.append_assoc]
 have q:bV ⟨pool,dev,devs,copies,sectors,life⟩++D=(cG++pool++be dev.toNat 1++be devs.toNat 1++be copies.toNat 1)++be sectors.toNat 2++(be life.toNat 5++List.replicate 174 0++D):=by
  simp only[bV,iS,List.append_assoc]
 have r:bV ⟨pool,dev,devs,copies,sectors,life⟩++D=(cG++pool++be dev.toNat 1++be devs.toNat 1++be copies.toNat 1++be sectors.toNat 2)++be life.toNat 5++(List.replicate 174 0++D):=by
  simp only[bV,iS,List.append_assoc]
 unfold gN;have d:((bV ⟨pool,dev,devs,copies,sectors,life⟩++D).drop 8).take 32=pool:=by rw[k];exact hE _ _ _ b a
 have d2:((bV ⟨pool,dev,devs,copies,sectors,life⟩++D).drop 40).take 1=be dev.toNat 1:=by rw[m];exact hE _ _ _ (by simp[b,a]) (b1 _)
 have f:((bV ⟨pool,dev,devs,copies,sectors,life⟩++D).drop 41).take 1=be devs.toNat 1:=by rw[n];exact hE _ _ _ (by simp[b,a,b1]) (b1 _)
 have g:((bV ⟨pool,dev,devs,copies,sectors,life⟩++D).drop 42).take 1=be copies.toNat 1:=by rw[o];exact hE _ _ _ (by simp[b,a,b1]) (b1 _)
 have i:((bV ⟨pool,dev,devs,copies,sectors,life⟩++D).drop 43).take 2=be sectors.toNat 2:=by rw[q];exact hE _ _ _ (by simp[b,a,b1]) b2
 have j:((bV ⟨pool,dev,devs,copies,sectors,life⟩++D).drop 45).take 5=be life.toNat 5:=by rw[r];exact hE _ _ _ (by simp[b,a,b1,b2]) b5
 rw[d,d2,f,g,i,j];rw[rA (by omega) (by omega),rA (by omega) (by omega),rA (by omega) (by omega),rA (by omega) (by omega),rA (by omega) (by omega)]
theorem EY(L:Lab)(b:L.pool.length=32)(a:L.may=true):qJ (eC L)=(L,0):=by
 unfold qJ;rw[if_neg (by rw[xO L b a];simp),if_neg,if_pos]
 ·rw[uY L b a]
 ·rw[uY L b a];exact⟨a,rfl⟩
 ·intro e
  have:=congrArg (fun l=>l.take 8) e;simp only[A8 L a] at this;revert this
  decide
end
section
open Go.RowKit
def A9(w:World)(r:Lab×Int)(e:Ending)(w':World):Prop:=e=.returned (.tuple #[.agg r.1.cells.toArray,.int .i64 r.2])/\aA aB w w'
variable{w w':World}{v:Value}{base b2 b5 p at_:Nat}{bs:List UInt8}{fe fa:Int}{zc:List Value}{cs:Array Value}
theorem qB(w:World):(zeroValue 157).run prog w=.ok (.agg mE.cells.toArray) w:=by kernel_rfl
theorem M7(w:World):(Instr.build 157 #[]).run prog w=.ok (.agg mE.cells.toArray) w:=by kernel_rfl
theorem oL(L:Lab):∀u∈L.cells,u.oneCell'=true:=by
 intro u a;rcases List.mem_append.1 a with h|h
 ·exact bR _ u h
 ·simp[Lab.nums] at h
  rcases h with rfl|rfl|rfl|rfl|rfl<;>rfl
theorem IS(x y:Int)(w:World):(Instr.field 179 (.agg #[.int .i64 x,.int .i64 y]) 0).run prog w=.ok (.int .i64 x) w:=by kernel_rfl
theorem sR:mE.cells.length=37:=rfl
theorem M8{n:Nat}(h:w.ownsRow base 5 1 v n (List.replicate n (.int .u8 0))):Rd w 1 v (List.replicate n (0:UInt8)).length ((List.replicate n (0:UInt8)).map vb):=by
 have:=Rd.of_owns h;rw[List.length_replicate,List.map_replicate];exact this
structure UpW(w wr:World)(b2 b5 base p:Nat)(v:Value)(bs:List UInt8)(at_:Nat)(fe fa:Int)(zc:List Value)(cs:Array Value):Prop where
 res:wr.heap[b2]?=some (.cells zc.toArray 157 (0,0))
 lab:wr.heap[b5]?=some (.cells cs 157 (0,0))
 rd:Rdr wr base p v bs at_ fe fa
 keep:aA aB w wr
 ne:b2≠b5
 lb:w.heap.size≤base
 l2:w.heap.size≤b2
 l5:w.heap.size≤b5
theorem UpW.same{wr:World}(h:UpW w wr b2 b5 base p v bs at_ fe fa zc cs)(k:aA aB wr w'):UpW w w' b2 b5 base p v bs at_ fe fa zc cs:=
 ⟨k.blk h.res id,k.blk h.lab id,h.rd.keep k id (fun _ _=>id),h.keep.trans k,h.ne,h.lb,h.l2,h.l5⟩
theorem UpW.read{wr:World}{a:Nat}{d c:Int}(h:UpW w wr b2 b5 base p v bs at_ fe fa zc cs)(k:aA (fun i=>i=p) wr w')(j:Rdr w' base p v bs a d c):UpW w w' b2 b5 base p v bs a d c zc cs:=by
 have g:∀i b,wr.heap[i]?=some (.cells b 157 (0,0))->¬i=p:=by
  rintro i b f rfl;rw[h.rd.blk] at f;cases f
 refine⟨k.blk h.res (g _ _ h.res),k.blk h.lab (g _ _ h.lab),j,h.keep.tT k (fun i f e=>?_),h.ne,h.lb,h.l2,h.l5⟩;have:=h.rd.le;have:=h.lb;omega
theorem UpW.put{wr:World}{a:Array Value}(h:UpW w wr b2 b5 base p v bs at_ fe fa zc cs)(k:aA (fun i=>i=b5) wr w')(d:w'.heap[b5]?=some (.cells a 157 (0,0))):UpW w w' b2 b5 base p v bs at_ fe fa zc a:=by
 have f:=h.l5;refine⟨k.blk h.res h.ne,d,h.rd.keep k ?_ (fun g c e=>?_),h.keep.tT k (fun i j e=>by omega),h.ne,h.lb,h.l2,h.l5⟩
 ·intro e
  have:=h.rd.blk;rw[e,h.lab] at this;cases this
 ·subst e
  obtain⟨cur,b⟩:=aJ h.rd.own c;rw[h.lab] at b;cases b
theorem UpW.set{wr:World}(h:UpW w wr b2 b5 base p v bs at_ fe fa zc cs)(i:Nat)(u:Value):UpW w (wr.setCell ⟨b5,i,none⟩ u) b2 b5 base p v bs at_ fe fa zc (cs.setIfInBounds i u):=
 h.put ((aA.refl (fun i=>i=b5) wr).setCell (p:=⟨b5,i,none⟩) (fun _=>rfl) _) (dQ h.lab i u)
def iM(P:List Value)(a b c d f:Int):Array Value:=(P++([.int .i64 a,.int .i64 b,.int .i64 c,.int .i64 d,.int .i64 f]:List Value)).toArray
theorem pE(P:List Value)(h:P.length=32)(a b c d f x:Int):(iM P a b c d f).setIfInBounds 32 (.int .i64 x)=iM P x b c d f/\(iM P a b c d f).setIfInBounds 33 (.int .i64 x)=iM P a x c d f /\
 (iM P a b c d f).setIfInBounds 34 (.int .i64 x)=iM P a b x d f/\(iM P a b c d f).setIfInBounds 35 (.int .i64 x)=iM P a b c x f/\(iM P a b c d f).setIfInBounds 36 (.int .i64 x)=iM P a b c d x:=by
 unfold iM;refine⟨?_,?_,?_,?_,?_⟩<;>rw[List.setIfInBounds_toArray,List.set_append_right _ _ (by omega),h]<;>rfl
theorem pF(P:List Value)(h:P.length=32)(a b c d f:Int)(i:Nat)(g:i<5):∃u,(iM P a b c d f)[32+i]?=some u:=by
 unfold iM;rw[List.getElem?_toArray,List.getElem?_append_right (by omega)];exact⟨_,List.getElem?_eq_getElem (by simp;omega)⟩
theorem KF(P:List Value)(h:P.length=32)(zc:List Value)(a:mE.cells=zc):spl zc.toArray 0 P=iM P 0 0 0 0 0:=by
 subst a;apply Array.ext_getElem?;intro j;rw[mY _ _ _ _ (by rw[h];decide),h];unfold iM;simp only[List.getElem?_toArray]
 by_cases b:j<32
 ·rw[if_pos (by omega),List.getElem?_append_left (by omega)];rfl
 ·rw[if_neg (by omega),List.getElem?_append_right (by omega),h]
  show (List.replicate 32 (Value.int .u8 0)++[.int .i64 0,.int .i64 0,.int .i64 0,.int .i64 0,.int .i64 0])[j]?=_;rw[List.getElem?_append_right (by simp;omega)];simp
theorem KG(w:World)(bv:Value)(b:List UInt8)(hr:Rd w 1 bv b.length (b.map vb))(hl:b.length=256)(hz:¬b=List.replicate 256 0)(h3:(gN b).sectors≤4096)(h4:(gN b).life≤2147483648)(hm:(gN b).may=true)(r:eC (gN b)=b) :
 Calls prog 198 #[bv] w (A9 w (qJ b)):=by
 have xo:∀g,bv.ownBlock=some g->g<w.heap.size:=by
  obtain⟨k,hk,Y⟩:=hr.lt (by simp;omega);intro g hg;rw[hg] at hk;cases hk;exact Y
 obtain⟨a,c,hv,-,-⟩:=hr.form;rw[hl] at hv;subst hv;have HR:=O hr;have H3:=O h3;have H4:=O h4;have HM:=O hm;have HQ:=O r;clear h3 h4 hm r;clear hr;obtain⟨zc,qe,qf,xp⟩:∃zc,mE.cells=zc/\zc.length=37/\∀u∈zc,u.oneCell'=true:=⟨_,rfl,rfl,oL _⟩
 have z1:∀w,(zeroValue 157).run prog w=.ok (.agg zc.toArray) w:=by rw[←qe];exact qB
 have xm:∀w,(Instr.build 157 #[]).run prog w=.ok (.agg zc.toArray) w:=by rw[←qe];exact M7
 have HZ:=O qe;clear qe;have V:=O hl;clear hl;go_in
 go_wp2_with (first
  | (refine aY rfl 157 rfl _ z1 zc.toArray rfl ?_)
  | ((with_reducible show WL (some 15) (.makeSlice _ _ _));refine rO rfl (.const (.int .i64 256)) (.const (.int .i64 256)) 68 rfl w.heap.size 5 (.int .u8 0) 1 underlying68 gJ rfl 256 rfl rfl (by omega) (by unfold maxLen;omega) (by simp) ?_;intro E s Y;rw[World.size_alloc] at s;have zl:=O (M8 s);have qv:=O Y;clear s Y))
 have qm:aA aB w E:=((aA.refl aB w).alloc _).trans qv.out;have qr:E.heap[w.heap.size]?=some (.cells zc.toArray 157 (0,0)):=qv.blk (heap_alloc_new _ _) id;have qi:=O qr;have n:=O qm;clear qr qm;have zy:decide (b=List.replicate 256 0)=false:=by simpa using hz
 refine(nI E _ _ b (List.replicate 256 0) (HR.keep n.out fun _ _=>id) zl.out false zy).mono ?_;rintro e w3 ⟨rfl,rfl⟩;have qq:=IR b V.out;have HP:=O qq;have z6:=O hz;clear hz zy qq qv zl;go_wp2_with fail;refine(Kd _ b E (HR.keep n.out fun _ _=>id) (by rw[V.out];omega)).mono ?_;rintro e w3 ⟨p,v,rfl,d,zb⟩;have T:=zb.blk qi.out id;have qn:=n.trans zb;have z9:=n.size;have I:=O d;have H:=O T;have zj:=O qn;clear d zb T qn qi n;go_wp2_with fail;refine(GO w3 E.heap.size p v b 0 0 I.out 8 (by omega) (by rw[V.out];omega)).mono ?_;rintro e w4 ⟨v4,rfl,-,d,zd⟩;have zz:w.heap.size≠p:=by have:=I.le;have:=lt_of_block H.out;intro e;rw[e,I.blk] at H;cases H.out
 have U:=zd.blk H.out zz;have xa:w.heap.size≤p:=by have:=I.le;omega
 have qo:aA aB w w4:=zj.tT zd (fun i hi e=>by omega);have qg:=O d;have qy:=O U;have qw:=O qo;clear d zd U qo I H zj zz
 go_wp2_with (first
  | (refine aY rfl 157 rfl _ z1 zc.toArray rfl ?_))
 have U5:UpW w ((w4.alloc (.cells zc.toArray 157)).drew) w.heap.size w4.heap.size E.heap.size p v b 8 0 0 zc zc.toArray:=by
  have K:aA aB w4 ((w4.alloc (.cells zc.toArray 157)).drew):=((aA.refl _ _).alloc _).drew;have xh:=lt_of_block qy.out;exact⟨K.blk qy.out id,heap_alloc_new w4 _,qg.keep K id (fun _ _=>id),qw.trans K,by omega,z9,Nat.le_refl _,qw.size⟩
 obtain⟨b5,zu⟩:=zX9 w4.heap.size
 refine wp_region_any (by kernel_rfl) ?_;obtain⟨w5,z0⟩:=zX9 ((w4.alloc (.cells zc.toArray 157)).drew)
 change wpAny _ _ _ _ _ _ _ ((w4.alloc (.cells zc.toArray 157)).drew);rw[z0] at U5 ⊢;rw[zu] at U5 ⊢;have q0:=O U5;clear U5 qg qy qw z0 zu xa;refine wpAny_take (i:=0) (v:=.pointer (some ⟨b5,0,none⟩)) rfl (by kernel_rfl) (by kernel_rfl) (by kernel_rfl) (fun _ _ _ h=>h) (.inl ⟨by rfl,fun w'=>?_⟩) ?_
 ·go_simp
 refine wpAny_take (i:=1) (v:=.slice (some ⟨b5,0,none⟩) 32 32) rfl (by kernel_rfl) (by kernel_rfl) (by kernel_rfl) (fun _ _ _ h=>h) (.inl ⟨by rfl,fun w'=>?_⟩) ?_
 ·go_simp
 refine wpAny_take (i:=2) (v:=.pointer p) rfl (by kernel_rfl) (by kernel_rfl) (by kernel_rfl) (fun _ _ _ h=>h) (.inl ⟨by rfl,fun w'=>rfl⟩) ?_;refine Co (k:=3) rfl (by kernel_rfl) ?_;go_wp2_with fail;refine(GO w5 E.heap.size p v b 8 0 q0.rd 32 (by omega) (by rw[V.out];omega)).mono ?_;rintro e w6 ⟨v6,rfl,qp,d,zv⟩;have B:Rd w6 1 v6 32 ((gN b).pool.map vb):=Rd.of_owns qp;obtain⟨a6,c6,rfl,-,-⟩:=B.form;have U6:=q0.read zv d;obtain⟨P,hP⟩:=zX9 ((gN b).pool.map vb)
 have j:P.length=32:=by rw[←hP];simp[HP.out]
 have z7:∀u∈P,u.oneCell'=true:=by rw[←hP];exact bR _
 rw[hP] at B;have z3:=O hP;have q1:=O U6;have qh:=O B;clear hP U6 B qp d zv q0;go_wp2_with fail;refine Co (k:=4) rfl (by kernel_rfl) ?_;refine sZ rfl (.tmp 23) (.tmp 25) 68 68 rfl 5 underlying68 AJ b5 0 32 32 rfl _ 32 P rfl qh.out 32 rfl zc.toArray _ q1.lab (by simp[qf]) z7 ?_;intro w7 za zw;rw[List.take_of_length_le (by rw[j];exact Nat.le_refl _),KF P j zc HZ.out] at za;have q3:=O (q1.put zw za);clear za zw;refine wpList_nil ?_;refine wpAny_done (by kernel_rfl) ?_ _;clear q1 qh;obtain⟨y,Z⟩:=zX9 (beN ((b.drop 40).take 1))
 have zm:=O Z;obtain⟨C,qa⟩:=zX9 (beN ((b.drop 41).take 1))
 have zn:=O qa;obtain⟨F,qb⟩:=zX9 (beN ((b.drop 42).take 1))
 have zo:=O qb;obtain⟨W,qc⟩:=zX9 (beN ((b.drop 43).take 2))
 have zp:=O qc;obtain⟨x4,qd⟩:=zX9 (beN ((b.drop 45).take 5))
 have zq:=O qd;have l0:(y:Int)≤255:=by rw[←Z];exact Aj _ (by simp;omega)
 have l1:(C:Int)≤255:=by rw[←qa];exact Aj _ (by simp;omega)
 have l2:(F:Int)≤255:=by rw[←qb];exact Aj _ (by simp;omega)
 have G:=O (show gN b=⟨(gN b).pool,y,C,F,W,x4⟩ by rw[←Z,←qa,←qb,←qc,←qd];rfl);have xi:=O qc;have xj:=O qd;clear Z qa qb qc qd;go_wp2_with fail;refine(pA w7 E.heap.size p v b 40 0 q3.rd 1 0 255 (by omega) (by omega) (by rw[V.out];omega) y zm.out).mono ?_;rintro e w8 ⟨f,r⟩;rw[if_pos ⟨by omega,l0⟩] at r;obtain⟨rfl,d⟩:=r;have q5:=O (q3.read f d);clear f d q3;go_wp2_with fail;refine(pA w8 E.heap.size p v b 41 0 q5.rd 1 0 255 (by omega) (by omega) (by rw[V.out];omega) C zn.out).mono ?_;rintro e w9 ⟨f,r⟩;rw[if_pos ⟨by omega,l1⟩] at r;obtain⟨rfl,d⟩:=r;have q9:=O (q5.read f d);clear f d q5;go_wp2_with fail;refine(pA w9 E.heap.size p v b 42 0 q9.rd 1 0 255 (by omega) (by omega) (by rw[V.out];omega) F zo.out).mono ?_;rintro e xb ⟨f,r⟩;rw[if_pos ⟨by omega,l2⟩] at r;obtain⟨rfl,d⟩:=r;have m:=O (q9.read f d);clear f d q9;have X:=((m.set 32 (.int .i64 y)).set 33 (.int .i64 C)).set 34 (.int .i64 F);rw[(pE P j 0 0 0 0 0 y).1,(pE P j y 0 0 0 0 C).2.1,(pE P j y C 0 0 0 F).2.2.1] at X;obtain⟨u0,g0⟩:=pF P j 0 0 0 0 0 0 (by omega);obtain⟨u1,g1⟩:=pF P j 0 0 0 0 0 1 (by omega);obtain⟨u2,g2⟩:=pF P j 0 0 0 0 0 2 (by omega);have k0:=aC m.lab g0;have k1:=aC m.lab g1;have k2:=aC m.lab g2;have kf:=fun i=>dE m.lab i
 obtain⟨ze,qt⟩:=zX9 (((xb.setCell ⟨b5,32,none⟩ (.int .i64 y)).setCell ⟨b5,33,none⟩ (.int .i64 C)).setCell ⟨b5,34,none⟩ (.int .i64 F))
 rw[qt] at X;have J:=O X;clear X g0 g1 g2;simp only[Nat.add_zero,Nat.reduceAdd] at k0 k1 k2;go_wp2_with fail;clear k0 k1 k2 kf qt m;have l3:(W:Int)≤4096:=by have:=H3.out;rw[G.out] at this;exact this
 have l4:(x4:Int)≤2147483648:=by have:=H4.out;rw[G.out] at this;exact this
 go_wp2_with fail;refine(pA ze E.heap.size p v b 43 0 J.rd 2 0 4096 (by omega) (by omega) (by rw[V.out];omega) W zp.out).mono ?_;rintro e xc ⟨f,r⟩;rw[if_pos ⟨by omega,l3⟩] at r;obtain⟨rfl,d⟩:=r;have M:=O (J.read f d);clear f d J;go_wp2_with fail;refine(pA xc E.heap.size p v b 45 0 M.rd 5 0 2147483648 (by omega) (by omega) (by rw[V.out];omega) x4 zq.out).mono ?_;rintro e xd ⟨f,r⟩;rw[if_pos ⟨by omega,l4⟩] at r;obtain⟨rfl,d⟩:=r;have o:=O (M.read f d);clear f d M;have D:=(o.set 35 (.int .i64 W)).set 36 (.int .i64 x4);rw[(pE P j y C F 0 0 W).2.2.2.1,(pE P j y C F W 0 x4).2.2.2.2] at D;obtain⟨u3,g3⟩:=pF P j y C F 0 0 3 (by omega);obtain⟨u4,g4⟩:=pF P j y C F 0 0 4 (by omega);have k3:=aC o.lab g3;have k4:=aC o.lab g4;have kf:=fun i=>dE o.lab i
 obtain⟨zf,qu⟩:=zX9 ((xd.setCell ⟨b5,35,none⟩ (.int .i64 W)).setCell ⟨b5,36,none⟩ (.int .i64 x4))
 rw[qu] at D;obtain⟨L,hL,zt,zr⟩:∃L:Lab,iM P y C F W x4=L.cells.toArray/\L.pool.length=32/\L=⟨(gN b).pool,y,C,F,W,x4⟩:=⟨⟨(gN b).pool,y,C,F,W,x4⟩,by rw[←z3.out];rfl,HP.out,rfl⟩
 rw[hL] at D;obtain⟨lc,S⟩:=zX9 L.cells
 have q:lc.length=37:=by rw[←S];exact L.cells_length zt
 have zx:∀u∈lc,u.oneCell'=true:=by rw[←S];exact oL L
 rw[S] at D;have N:=O D;have zk:=O S;have z2:=O zr;clear D g3 g4 hL S zr;simp only[Nat.reduceAdd] at k3 k4
 go_wp2_with (first
  | ((with_reducible show WL (some 43) (.load 157 (.tmp 5)));refine wpList_load_mid rfl 157 (.tmp 5) rfl b5 0 rfl lc _ (aD N.lab) underlying157 rfl (by rw[q];exact gQ) ?_))
 clear k3 k4 kf qu o;have CP:=EX L zt zf;rw[zk.out] at CP;refine CP.mono ?_;clear CP;rintro e xe ⟨xq,rfl,A,qk⟩;have Q:=O (N.same qk);have t:=Rd.of_owns A;obtain⟨xk,xl,rfl,-,-⟩:=t.form;have qz:=O t;clear A qk t N;have qx:=O (show L=gN b by rw[z2.out];exact G.symm);have z5:=O (show qJ b=(gN b,0) by unfold qJ;rw[if_neg (by rw[V.out];simp),if_neg z6.out,if_pos ⟨HM.out,HQ.out⟩]);rw[show L.may=true by rw[qx.out];exact HM.out];have xn:=IS;go_wp2_with fail;refine(Kj xe E.heap.size p v b _ _ _ Q.rd).mono ?_;rintro e xf ⟨rfl,R⟩;have z:=O (Q.same R);have zh:=O R;clear R Q;go_wp2_with fail;refine(nI xf _ _ (eC L) b (qz.keep zh.out fun _ _=>id) (HR.keep z.keep fun _ _=>id) true (by rw[qx.out];exact decide_eq_true HQ.out)).mono ?_;rintro e xg ⟨rfl,rfl⟩
 go_wp2_with (first
  | ((with_reducible show WL (some 62) (.load 157 (.tmp 5)));refine wpList_load_mid rfl 157 (.tmp 5) rfl b5 0 rfl lc _ (aD z.lab) underlying157 rfl (by rw[q];exact gQ) ?_)
  | ((with_reducible show WL none (.store 157 (.tmp 2) (.tmp 62)));refine aQ rfl 157 (.tmp 2) (.tmp 62) rfl w.heap.size 0 lc rfl rfl _ _ z.res (by rw[q];simp[qf]) (by rw[q];exact gQ) zx ?_;intro xg qj ql;have zg:=O qj;have zi:=O ql;clear qj ql))
 refine bodyPost_ret (aT rfl _ _ w.heap.size _ _ _ _ rfl zg.out underlying157 rfl (by rw[gF,List.size_toArray,qf];exact gQ)) rfl ⟨?_,?_⟩
 ·rw[aS _ _ (by rw[q];simp[qf]),z5.out,←zk.out,qx.out];rfl
 ·exact z.keep.tT zi.out (fun i hi e=>by omega)
theorem DG(w:World)(d:Value)(L:Lab)(g:L.pool.length=32)(a:L.may=true)(b:List UInt8)(h:b=eC L)(i:Rd w 1 d b.length (b.map vb)):Calls prog 198 #[d] w (A9 w (qJ b)):=by
 subst h;have c:=uY L g a;have f:=a;unfold Lab.may at f;simp only[decide_eq_true_eq] at f;refine KG w d _ i (xO L g a) (fun e=>?_) (by rw[c];omega) (by rw[c];omega) (by rw[c];exact a) (by rw[c]);have:=congrArg (fun l=>l.take 8) e;simp only[A8 L a] at this;revert this
 decide
end
end Go.Proofs.YtoeinblfcbpcmaaGreat
