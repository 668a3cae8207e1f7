import Derived.Test.YtiinnfhjpaeffaaGreatA1
import Derived.Test.YtiinnfhjpaeffaaGreatA16
import Derived.Lib.SlBytesConst
namespace Go.Proofs.YtiinnfhjpaeffaaGreat
set_option maxHeartbeats 64000000
set_option maxRecDepth 100000
set_option linter.unusedVariables false
section
open Go.RowKit
structure PkW(w:World)(L:Lab)(b1 b5 base p:Nat)(v:Value)(l:List UInt8)(e:Int):Prop where
 pool:L.pool.length=32
 lab:w.heap[b1]?=some (.cells L.cells.toArray 192 (0,0))
 q:w.heap[b5]?=some (.cells #[.pointer (some ⟨p,0,none⟩)] 214 (0,0))
 wr:Wr w base p v l e
 len:l.length≤65536
variable{w w':World}{L:Lab}{b1 b5 base p:Nat}{v:Value}{l:List UInt8}{e:Int}
theorem PkW.cells(h:PkW w L b1 b5 base p v l e) :
 w.cell? ⟨b5,0,none⟩=some (.pointer p)/\w.cell? ⟨b1,32,none⟩=some (.int .i64 L.dev)/\w.cell? ⟨b1,33,none⟩=some (.int .i64 L.devs)/\w.cell? ⟨b1,34,none⟩=some (.int .i64 L.copies) /\
 w.cell? ⟨b1,35,none⟩=some (.int .i64 L.sectors)/\w.cell? ⟨b1,36,none⟩=some (.int .i64 L.life):=by
 obtain⟨c0,c1,c2,c3,c4⟩:=L.at h.pool;exact⟨aC h.q rfl,aC h.lab c0,aC h.lab c1,aC h.lab c2,aC h.lab c3,aC h.lab c4⟩
theorem PkW.same(h:PkW w L b1 b5 base p v l e)(k:aA aB w w'):PkW w' L b1 b5 base p v l e:=
 ⟨h.pool,k.blk h.lab id,k.blk h.q id,h.wr.keep k id (fun _ _=>id),h.len⟩
theorem PkW.rd(h:PkW w L b1 b5 base p v l e):Rd w 1 (.slice b1 32 32) L.pool.length (L.pool.map vb):=by
 refine⟨by simp,_,32,by rw[h.pool],by rw[h.pool];omega,by unfold maxLen;omega,(by intro h;cases h),fun _=>⟨b1,0,rfl,fun i u a=>?_⟩⟩
 have b:i<32:=by
  rw[←h.pool];have:=(List.getElem?_eq_some_iff.1 a).1
  simpa using this
 rw[Nat.zero_add];exact aC h.lab (by rw[List.getElem?_toArray,L.cells_pool h.pool i b];exact a)
theorem dV.end{r:List UInt8×Int}{e:Ending}(h:dV w base p v r e w'):e=.returned (.tuple #[])/\Hid (dV w base p v r (.returned (.tuple #[])) w'):=
 ⟨h.1,O ⟨rfl,h.2⟩⟩
theorem NO(w:World)(l:List UInt8)(t:TypeId)(a:Nat×Nat)(h:l.length≤maxLen):Rd (w.alloc (.cells (l.map vb).toArray t a)) 1 (.slice (w.heap.size) l.length l.length) l.length (l.map vb):=by
 refine⟨by simp,_,_,rfl,Nat.le_refl _,h,(by intro h;cases h),fun _=>⟨_,0,rfl,fun i u b=>?_⟩⟩;rw[Nat.zero_add];exact aC (heap_alloc_new _ _) (by rw[List.getElem?_toArray];exact b)
theorem pk1(w:World)(L:Lab)(b1 b5 base p:Nat)(v:Value)(l:List UInt8)(e:Int)(h:PkW w L b1 b5 base p v l e) :
 Calls Tryz.prog 169 #[.pointer b5] w (dV w base p v (wst (l,e) (bZ,0))):=by
 obtain⟨d,c0,c1,c2,c3,c4⟩:=h.cells;have f:=fun(w:World) (C:Array Value) (n c:Nat)=>Lib.run_convert_bytes_const (P:=Tryz.prog) w 109 5 C n c Tryz.underlying109 Tryz.underlying5
 have H:=O h;clear h;go_in;go_wp2_with fail;have K:aA aB w (w.alloc (.cells (bZ.map vb).toArray 5 (8,9))):=(aA.refl _ _).alloc _;refine(rP p _ bZ (w.alloc (.cells (bZ.map vb).toArray 5 (8,9))) base v l e (H.same K).wr H.len (NO w bZ 5 (8,9) (by decide)) (by decide)).mono ?_;rintro e g a;obtain⟨rfl,b⟩:=a.end;go_wp2_with fail
 go_end0
 exact dV.of K b.out
theorem pk2(w:World)(L:Lab)(b1 b5 base p:Nat)(v:Value)(l:List UInt8)(e:Int)(h:PkW w L b1 b5 base p v l e) :
 Calls Tryz.prog 170 #[.pointer b5,.pointer b1] w (dV w base p v (wst (l,e) (L.pool,0))):=by
 obtain⟨c,c0,c1,c2,c3,c4⟩:=h.cells;have H:=O h;clear h;go_in;go_wp2_with fail
 go_still_tail 3,(by kernel_rfl)
 go_wp2_with fail;refine(rP p _ L.pool w.drew base v l e (H.same (aA.refl aB w).drew).wr H.len (H.same (aA.refl aB w).drew).rd (by rw[H.pool];omega)).mono ?_;rintro e d a;obtain⟨rfl,b⟩:=a.end;go_wp2_with fail
 go_end0
 exact dV.of (aA.refl aB w).drew b.out
theorem pk3(w:World)(L:Lab)(b1 b5 base p:Nat)(v:Value)(l:List UInt8)(e:Int)(h:PkW w L b1 b5 base p v l e) :
 Calls Tryz.prog 171 #[.pointer b5,.pointer b1] w (dV w base p v (wst (l,e) (eO L.dev 1))):=by
 obtain⟨c,c0,c1,c2,c3,c4⟩:=h.cells;have C:=O (mJ p L.dev 1 w base v l e h.wr h.len);clear h;go_in;go_wp2_with fail;refine C.out.mono ?_;rintro e d a;obtain⟨rfl,b⟩:=a.end;go_wp2_with fail
 go_end0
 exact b.out
theorem pk4(w:World)(L:Lab)(b1 b5 base p:Nat)(v:Value)(l:List UInt8)(e:Int)(h:PkW w L b1 b5 base p v l e) :
 Calls Tryz.prog 172 #[.pointer b5,.pointer b1] w (dV w base p v (wst (l,e) (eO L.devs 1))):=by
 obtain⟨c,c0,c1,c2,c3,c4⟩:=h.cells;have C:=O (mJ p L.devs 1 w base v l e h.wr h.len);clear h;go_in;go_wp2_with fail;refine C.out.mono ?_;rintro e d a;obtain⟨rfl,b⟩:=a.end;go_wp2_with fail
 go_end0
 exact b.out
theorem pk5(w:World)(L:Lab)(b1 b5 base p:Nat)(v:Value)(l:List UInt8)(e:Int)(h:PkW w L b1 b5 base p v l e) :
 Calls Tryz.prog 173 #[.pointer b5,.pointer b1] w (dV w base p v (wst (l,e) (eO L.copies 1))):=by
 obtain⟨c,c0,c1,c2,c3,c4⟩:=h.cells;have C:=O (mJ p L.copies 1 w base v l e h.wr h.len);clear h;go_in;go_wp2_with fail;refine C.out.mono ?_;rintro e d a;obtain⟨rfl,b⟩:=a.end;go_wp2_with fail
 go_end0
 exact b.out
theorem pk6(w:World)(L:Lab)(b1 b5 base p:Nat)(v:Value)(l:List UInt8)(e:Int)(h:PkW w L b1 b5 base p v l e) :
 Calls Tryz.prog 174 #[.pointer b5,.pointer b1] w (dV w base p v (wst (l,e) (eO L.sectors 2))):=by
 obtain⟨c,c0,c1,c2,c3,c4⟩:=h.cells;have C:=O (mJ p L.sectors 2 w base v l e h.wr h.len);clear h;go_in;go_wp2_with fail;refine C.out.mono ?_;rintro e d a;obtain⟨rfl,b⟩:=a.end;go_wp2_with fail
 go_end0
 exact b.out
theorem pk7(w:World)(L:Lab)(b1 b5 base p:Nat)(v:Value)(l:List UInt8)(e:Int)(h:PkW w L b1 b5 base p v l e) :
 Calls Tryz.prog 175 #[.pointer b5,.pointer b1] w (dV w base p v (wst (l,e) (eO L.life 5))):=by
 obtain⟨c,c0,c1,c2,c3,c4⟩:=h.cells;have C:=O (mJ p L.life 5 w base v l e h.wr h.len);clear h;go_in;go_wp2_with fail;refine C.out.mono ?_;rintro e d a;obtain⟨rfl,b⟩:=a.end;go_wp2_with fail
 go_end0
 exact b.out
theorem pk8(w:World)(L:Lab)(b1 b5 base p:Nat)(v:Value)(l:List UInt8)(e:Int)(h:PkW w L b1 b5 base p v l e) :
 Calls Tryz.prog 176 #[.pointer b5] w (dV w base p v (wst (l,e) (iT 224 l))):=by
 obtain⟨c,c0,c1,c2,c3,c4⟩:=h.cells;have C:=O (E8 p 224 w base v l e h.wr h.len);clear h;go_in;go_wp2_with fail;refine C.out.mono ?_;rintro e d a;obtain⟨rfl,b⟩:=a.end;go_wp2_with fail
 go_end0
 exact b.out
def GB:Nat->Nat
 | 0=>169
 | 1=>170
 | 2=>171
 | 3=>172
 | 4=>173
 | 5=>174
 | 6=>175
 | _=>176
def Cr(b1 b5:Nat):Nat->Array Value
 | 0=>#[.pointer b5]
 | 7=>#[.pointer b5]
 | _=>#[.pointer b5,.pointer b1]
theorem NP(b1 b5 k:Nat)(a:k<8):∀w,Sem.run Tryz.prog (callFunc (GB k) (Cr b1 b5 k)) w=.ok (.enter (GB k) (Cr b1 b5 k)) w:=by
 intro w;have h:k=0\/k=1\/k=2\/k=3\/k=4\/k=5\/k=6\/k=7:=by omega
 rcases h with rfl|rfl|rfl|rfl|rfl|rfl|rfl|rfl<;>rfl
theorem NQ(k:Nat)(b:k<8)(w:World)(L:Lab)(b1 b5 base p:Nat)(v:Value)(h:PkW w L b1 b5 base p v (dP L k).1 (dP L k).2) :
 Calls Tryz.prog (GB k) (Cr b1 b5 k) w (dV w base p v (dP L (k+1))):=by
 have a:k=0\/k=1\/k=2\/k=3\/k=4\/k=5\/k=6\/k=7:=by omega
 rcases a with rfl|rfl|rfl|rfl|rfl|rfl|rfl|rfl
 ·exact pk1 w L b1 b5 base p v _ _ h
 ·exact pk2 w L b1 b5 base p v _ _ h
 ·exact pk3 w L b1 b5 base p v _ _ h
 ·exact pk4 w L b1 b5 base p v _ _ h
 ·exact pk5 w L b1 b5 base p v _ _ h
 ·exact pk6 w L b1 b5 base p v _ _ h
 ·exact pk7 w L b1 b5 base p v _ _ h
 ·exact pk8 w L b1 b5 base p v _ _ h
def eC(L:Lab):List UInt8:=if L.may then bV L++cZ (bV L) else []
def DA(w:World)(L:Lab)(e:Ending)(w':World):Prop:=
 ∃v,e=.returned (.tuple #[v,.int .i64 (if L.may then 0 else 2)])/\w'.ownsRow w.heap.size 5 1 v (eC L).length ((eC L).map vb)/\aA aB w w'
def vC(w:World)(L:Lab)(e:Ending)(w':World):Prop:=
 ∃v,e=.returned (.tuple #[v,.int .i64 (if L.may then 0 else 2)])/\w'.ownsRow w.heap.size 5 1 v (eC L).length ((eC L).map vb)/\aA aB w w'/\Fit IsB w' v
theorem gC:(Tryz.prog.info? 192).map (·.size)=some 37:=by kernel_rfl
def GC(b1 b5:Nat):Array Value:=#[.func (.func 169) #[] #[.pointer b5],
 .func (.func 170) #[] #[.pointer b5,.pointer b1],.func (.func 171) #[] #[.pointer b5,.pointer b1],
 .func (.func 172) #[] #[.pointer b5,.pointer b1],.func (.func 173) #[] #[.pointer b5,.pointer b1],
 .func (.func 174) #[] #[.pointer b5,.pointer b1],.func (.func 175) #[] #[.pointer b5,.pointer b1],
 .func (.func 176) #[] #[.pointer b5]]
theorem K5(b1 b5 k:Nat)(a:k<8):(GC b1 b5)[k]?=some (.func (.func (GB k)) #[] (Cr b1 b5 k)):=by
 have h:k=0\/k=1\/k=2\/k=3\/k=4\/k=5\/k=6\/k=7:=by omega
 rcases h with rfl|rfl|rfl|rfl|rfl|rfl|rfl|rfl<;>rfl
structure PkR(w wr:World)(L:Lab)(b1 b5 b6 base p k:Nat):Prop where
 pk:∃v,PkW wr L b1 b5 base p v (dP L k).1 (dP L k).2
 fs:wr.heap[b6]?=some (.cells (GC b1 b5) 1 (0,0))
 keep:aA aB w wr
 le:w.heap.size≤base
theorem PkR.next{wr q:World}{n k:Nat}(h:PkR w wr L b1 b5 n base p k)(b:PkW wr L b1 b5 base p v (dP L k).1 (dP L k).2){e:Ending}
 (x:dV wr base p v (dP L (k+1)) e q):PkR w q L b1 b5 n base p (k+1):=by
 obtain⟨-,y,m,j,-⟩:=x
 have c:∀i cs t o,wr.heap[i]?=some (.cells cs t o)->t≠5->t≠271->¬(i=p\/v.ownBlock=some i):=by
  intro i cs t o f d s a;rcases a with rfl|a
  ·rw[b.wr.blk] at f;cases f;exact s rfl
  ·obtain⟨cur,u⟩:=aO b.wr.own a
   rw[u] at f;cases f;exact d rfl
 refine⟨⟨y,b.pool,j.blk b.lab (c _ _ _ _ b.lab (by decide) (by decide)),j.blk b.q (c _ _ _ _ b.q (by decide) (by decide)),m,Dz L (k+1)⟩,
  j.blk h.fs (c _ _ _ _ h.fs (by decide) (by decide)),?_,h.le⟩
 refine h.keep.trans' j (fun _ _ h=>h) (fun i f a=>?_);have:=h.le;rcases a with rfl|a
 ·have:=b.wr.le;omega
 ·rcases b.wr.own.2 with⟨d,-⟩|⟨g,r,cur,d,z,-⟩
  ·rw[d] at a;cases a
  ·rw[d] at a
   have:g=i:=by simpa [Value.ownBlock] using a
   omega
theorem ML{m d f:World}{n:Nat}{r:Value}{l g:List Value}{o:Obj}(q:m.ownsRow base 5 1 r n l)(a:aA aB m d)
 (j:f.heap[d.heap.size]?=some (.cells (spl (Array.replicate 32 (.int .u8 0)) 0 g) 25 (0,0))) (c:aA (fun k=>k=d.heap.size) (d.alloc o) f) (b:g.length=32) :
 f.ownsRow base 5 1 r n l/\Rd f 1 (.slice (d.heap.size) 32 32) 32 g/\aA aB m f:=by
 refine⟨?_,?_,(a.alloc o).trans' c (fun _ _ h=>h) (fun i y e=>by have:=a.size;omega)⟩
 ·refine c.owns ((a.alloc o).owns q fun _ _=>id) (fun k t e=>?_)
  obtain⟨cur,s⟩:=aO (a.owns q fun _ _=>id) t;have:=lt_of_block s;omega
 ·refine⟨by simpa using b,_,32,rfl,Nat.le_refl _,by unfold maxLen;omega,(by intro h;cases h),fun _=>⟨_,0,rfl,fun i u x=>?_⟩⟩
  rw[Nat.zero_add];refine aC j ?_;rw[aK _ _ (by simpa using b)]
  simpa using x
theorem MM(L:Lab)(d:L.pool.length=32)(f:L.may=false)(w:World) :
 Calls Tryz.prog 119 #[.agg L.cells.toArray] w (vC w L):=by
 have C:=O (vB L d (w.alloc (.cells L.cells.toArray 192)));have c:=O f;clear f;obtain⟨cs,a⟩:∃cs,L.cells=cs:=⟨_,rfl⟩
 have b:cs.length=37:=by rw[←a];exact L.cells_length d
 rw[a] at C ⊢;have g:=O a;clear a;go_in
 go_wp2_with (first
  | ((with_reducible show WL (some 11) (.load 192 (.tmp 1)));refine wpList_load_mid rfl 192 (.tmp 1) rfl w.heap.size 0 rfl cs _ (aD (heap_alloc_new _ _)) Tryz.underlying192 rfl (by rw[b];exact gC) ?_))
 refine C.out.mono ?_;rintro e h ⟨rfl,rfl⟩;rw[c.out];go_wp2
 go_ret2
 refine⟨_,by rw[c.out];rfl,?_,(((aA.refl _ _).alloc _).alloc _),Fit.nil _ _⟩;rw[show eC L=[] by unfold eC;rw[c.out];rfl];exact World.ownsRow_nil _ _ _ _
theorem K6(L:Lab)(X:L.pool.length=32)(hm:L.may=true)(w:World) :
 Calls Tryz.prog 119 #[.agg L.cells.toArray] w (vC w L):=by
 have C:=O (vB L X (w.alloc (.cells L.cells.toArray 192)));have I:=O hm;clear hm;have hmf:∀(fn:Fn) (first M:Array Value) (w:World),(Instr.makeFunc fn first M).run Tryz.prog w=.ok (.func fn first M) w:=fun _ _ _ _=>rfl
 obtain⟨cs,o⟩:∃cs,L.cells=cs:=⟨_,rfl⟩
 have Y:cs.length=37:=by rw[←o];exact L.cells_length X
 rw[o] at C ⊢;have HCS:=O o;clear o;go_in
 go_wp2_with (first
  | ((with_reducible show WL (some 11) (.load 192 (.tmp 1)));refine wpList_load_mid rfl 192 (.tmp 1) rfl w.heap.size 0 rfl cs _ (aD (heap_alloc_new _ _)) Tryz.underlying192 rfl (by rw[Y];exact gC) ?_))
 refine C.out.mono ?_;rintro e c ⟨rfl,rfl⟩;rw[I.out];go_wp2_with fail;refine(E7 _).mono ?_;rintro e c ⟨p,rfl,F,n,hp⟩;have s:c.heap[w.heap.size]?=some (.cells cs.toArray 192 (0,0)):=n.blk (heap_alloc2_old _ _ _) id;have W:aA aB w c:=((((aA.refl aB w).alloc _).alloc _)).trans n;have j:w.heap.size+2=((w.alloc (.cells cs.toArray 192)).alloc (.cells cs.toArray 192)).heap.size:=by simp
 rw[←j] at F hp;have J:=O F;have HK1:=O n;have q:=O s;have f:=O W;clear F n s j W;go_wp2_with fail
 have R0:Hid (PkR w ((c.alloc (.cells #[.pointer p] 214)).alloc (.cells (GC w.heap.size c.heap.size) 1)) L w.heap.size c.heap.size (c.heap.size+1) (w.heap.size+2) p 0):=by
  have K:aA aB c ((c.alloc (.cells #[.pointer p] 214)).alloc (.cells (GC w.heap.size c.heap.size) 1)):=((aA.refl _ _).alloc _).alloc _;refine O ⟨⟨.slice none 0 0,X,?_,heap_alloc2_old _ _ _,J.keep K id (fun _ _=>id),by simp[dP]⟩,heap_alloc2_new _ _ _,f.trans K,by omega⟩;rw[HCS.out];exact K.blk q.out id
 go_loopw [27] (fun i wr=>∃k:Nat,k≤8/\i=.int .i64 k/\Hid (PkR w wr L w.heap.size c.heap.size (c.heap.size+1) (w.heap.size+2) p k)) (fun i _=>8-(intOf i).toNat)
 case atStart=>exact⟨0,by omega,rfl,R0⟩
 case round =>
  clear R0 J HK1 q f C;obtain⟨k,hk,rfl,hR⟩:=hrel
  by_cases B:k<8
  ·obtain⟨v,E⟩:=hR.out.pk
   have G:=O E;clear E;have hc0:=aC hR.out.fs (K5 w.heap.size c.heap.size k B);have y:=NP w.heap.size c.heap.size k B;have hk0:(0:Int)≤(k:Int):=by omega
   have n:(k:Int)<8:=by omega
   go_wp2_with fail;refine(NQ k B wr L _ _ _ p v G.out).mono ?_;rintro e w2 h1;have hR2:=O (hR.out.next G.out h1);obtain⟨rfl,-⟩:=h1.end;clear y hc0;go_wp2
   go_roundw
   case rel=>exact⟨k+1,by omega,by go_num,hR2⟩
   case measure=>simp[intOf];omega
  ·obtain rfl:k=8:=by omega
   obtain⟨v,E⟩:=hR.out.pk;rw[MK L X I.out] at E;have hcq:=aC (i:=0) (v:=.pointer p) E.q rfl;have f:=O hR.out.keep;have G:=O E;clear E hR;have P:=rR L X;have t:=O P;clear P;go_wp2_with fail;refine(Fe p wr _ v _ 0 G.wr G.len).mono ?_;rintro e w3 ⟨v3,rfl,b,A,r⟩;rw[if_pos rfl] at b;have D:=Rd.of_owns b;obtain⟨a3,c3,rfl,-,-⟩:=D.form;have HO:=O b;have HR:=O D;have HF3:=O r;have HK3:=O (f.trans A);have S:=A.size;have hle:w.heap.size≤wr.heap.size:=f.size;clear b D A r G hcq;go_wp2_with fail;refine(vR _ (bV L) w3 HR.out (by rw[t.out];omega)).mono ?_;rintro e w4 ⟨rfl,T⟩;obtain⟨x,m⟩:∃x,(cZ (bV L)).map vb=x:=⟨_,rfl⟩
   have z:x.length=32:=by rw[←m];simp[cV]
   have Q:∀u∈x,u.oneCell'=true:=by rw[←m];exact bS _
   rw[m];have H:=O m;have HK4:=O T;clear m T
   go_wp2_with (first
    | (refine aV rfl 25 rfl uL zA (Array.replicate 32 (.int .u8 0)) rfl ?_)
    | ((with_reducible show WL none (.store 25 (.tmp 10) (.tmp 43)));refine aR rfl 25 (.tmp 10) (.tmp 43) rfl w4.heap.size 0 x rfl rfl _ _ (heap_alloc_new _ _) (by rw[z];simp) (by rw[z];exact nU) Q ?_;intro w5 N U;have d:=O (ML HO.out HK4.out N U z);have hsz:wr.heap.size≤w5.heap.size:=Nat.le_trans S d.2.2.size;clear N U)
    | (at_builtin;refine kN rfl (.tmp 44) (.tmp 45) 109 rfl wr.heap.size 5 _ 1 1 Tryz.underlying109 fS rfl (by omega) (.slice a3 (bV L).length c3) (bV L).length _ rfl d.1 (.slice (w4.heap.size) 32 32) 32 x rfl d.2.1 Q (by unfold maxLen;have:=t.out;omega) (by have:=t.out;omega) hsz IsB xO (by rw[←H.out];exact AC _) (HF3.keep d.2.2 (fun g hg=>⟨by obtain⟨cur,hc⟩:=aO HO.out hg;exact lt_of_block hc,id⟩)) ?_;intro v6 w6 a V Z hat R;obtain⟨a6,c6,rfl,-,-⟩:=(Rd.of_owns a).form;have HO6:=O a;have HK6:=O V;have HF6:=O R;clear a V Z hat R))
   go_ret2
   refine⟨_,by rw[I.out];rfl,?_,?_,by simpa using HF6.out⟩
   ·have h1:(eC L).length=(bV L).length+32:=by unfold eC;rw[I.out];simp[cV]
    have h2:(eC L).map vb=(bV L).map vb++x:=by unfold eC;rw[I.out,←H.out];simp
    rw[h1,h2];exact aQ HO6.out hle
   ·exact(HK3.trans d.2.2).trans' HK6.out (fun _ _ h=>h) (fun i hi e=>by have:=aU HO.out e;omega)
theorem K7(L:Lab)(a:L.pool.length=32)(w:World):Calls Tryz.prog 119 #[.agg L.cells.toArray] w (vC w L):=by
 rcases b:L.may with _|_
 ·exact MM L a b w
 ·exact K6 L a b w
theorem DB(L:Lab)(d:L.pool.length=32)(w:World):Calls Tryz.prog 119 #[.agg L.cells.toArray] w (DA w L):=
 (K7 L d w).mono fun _ _ ⟨v,a,b,c,_⟩=>⟨v,a,b,c⟩
end
section
def fW(b:List UInt8):Lab:=
 ⟨(b.drop 8).take 32,beN ((b.drop 40).take 1),beN ((b.drop 41).take 1),beN ((b.drop 42).take 1),beN ((b.drop 43).take 2),beN ((b.drop 45).take 5)⟩
def fP:Lab:=⟨List.replicate 32 0,0,0,0,0,0⟩
def pD(b:List UInt8):Lab×Int:=
 if b.length≠256 then (fP,4) else if b=List.replicate 256 0 then (fP,6)
 else if (fW b).may=true/\eC (fW b)=b then (fW b,0) else (fP,11)
theorem GD(b:List UInt8)(h:b.length=256):(fW b).pool.length=32:=by simp[fW,h]
theorem xV(l:List UInt8)(h:l.length≤1):(beN l:Int)≤255:=by
 have a:=C9 l;have b:256 ^ l.length≤256 ^ 1:=Nat.pow_le_pow_right (by omega) h;omega
theorem vD(L:Lab)(a:L.may=true):eC L=bV L++cZ (bV L):=by unfold eC;rw[a];rfl
theorem vE(L:Lab)(a:L.pool.length=32)(b:L.may=true):(eC L).length=256:=by rw[vD L b,List.length_append,rR L a,cV]
theorem zN(L:Lab)(a:L.may=true):(eC L).take 8=bZ:=by
 rw[vD L a];unfold bV iJ;simp only[List.append_assoc];rw[List.take_append_of_le_length (by decide)]
 decide
set_option linter.unusedVariables false
theorem MN(n k:Nat):be n (k+1)=be (n / 256) k++[UInt8.ofNat n]:=by
 unfold be;rw[List.range_succ,List.map_append,List.map_cons,List.map_nil]
 congr 1
 ·refine List.map_congr_left fun j a=>?_
  rw[List.mem_range] at a;unfold iN;rw[show 8*(k+1-1-j)=8*(k-1-j)+8 by omega,Nat.pow_add,Nat.mul_comm,←Nat.div_div_eq_div_mul]
 ·unfold iN
  simp
theorem NR(n:Nat):∀k,beN (be n k)=n % 256 ^ k:=by
 intro k
 induction k generalizing n with
 | zero=>simp[be,beN,Nat.mod_one]
 | succ k b =>
   rw[MN,sO,b];have a:(UInt8.ofNat n).toNat=n % 256:=by simp
   rw[a,Nat.pow_succ,Nat.mul_comm (256 ^ k) 256,Nat.mod_mul];omega
theorem pT{z:Int}{k:Nat}(h0:0≤z)(h:z<256 ^ k):(beN (be z.toNat k):Int)=z:=by
 rw[NR,Nat.mod_eq_of_lt]
 ·exact Int.toNat_of_nonneg h0
 ·have:((z.toNat:Nat):Int)<((256 ^ k:Nat):Int):=by rw[Int.toNat_of_nonneg h0];simpa using h
  exact_mod_cast this
theorem gL{α:Type}(a m c:List α){i n:Nat}(b:a.length=i)(d:m.length=n):((a++m++c).drop i).take n=m:=by
 subst b;subst d;rw[List.append_assoc,List.drop_left,List.take_left]
theorem sV(L:Lab)(a:L.pool.length=32)(c:L.may=true):fW (eC L)=L:=by
 have h:=of_decide_eq_true c;obtain⟨pool,dev,devs,copies,sectors,life⟩:=L;dsimp only at a h;rw[vD _ c];generalize cZ (bV ⟨pool,dev,devs,copies,sectors,life⟩)=D;have b:bZ.length=8:=rfl;have b1:∀z:Int,(be z.toNat 1).length=1:=fun z=>bM _ _
 have b2:(be sectors.toNat 2).length=2:=bM _ _;have b5:(be life.toNat 5).length=5:=bM _ _
 have k:bV ⟨pool,dev,devs,copies,sectors,life⟩++D=bZ++pool++(be dev.toNat 1++be devs.toNat 1++be copies.toNat 1++be sectors.toNat 2++be life.toNat 5++List.replicate 174 0++D):=by
  simp only[bV,iJ,List.append_assoc]
 have m:bV ⟨pool,dev,devs,copies,sectors,life⟩++D=(bZ++pool)++be dev.toNat 1++(be devs.toNat 1++be copies.toNat 1++be sectors.toNat 2++be life.toNat 5++List.replicate 174 0++D):=by
  simp only[bV,iJ,List.append_assoc]
 have n:bV ⟨pool,dev,devs,copies,sectors,life⟩++D=(bZ++pool++be dev.toNat 1)++be devs.toNat 1++(be copies.toNat 1++be sectors.toNat 2++be life.toNat 5++List.replicate 174 0++D):=by
  simp only[bV,iJ,List.append_assoc]
 have o:bV ⟨pool,dev,devs,copies,sectors,life⟩++D=(bZ++pool++be dev.toNat 1++be devs.toNat 1)++be copies.toNat 1++(be sectors.toNat 2++be life.toNat 5++List.replicate 174 0++D):=by
  simp only[bV,iJ,List.append_assoc]
 have q:bV ⟨pool,dev,devs,copies,sectors,life⟩++D=(bZ++pool++be dev.toNat 1++be devs.toNat 1++be copies.toNat 1)++be sectors.toNat 2++(be life.toNat 5++List.replicate 174 0++D):=by
  simp only[bV,iJ,List.append_assoc]
 have r:bV ⟨pool,dev,devs,copies,sectors,life⟩++D=(bZ++pool++be dev.toNat 1++be devs.toNat 1++be copies.toNat 1++be sectors.toNat 2)++be life.toNat 5++(List.replicate 174 0++D):=by
  simp only[bV,iJ,List.append_assoc]
 unfold fW;have d:((bV ⟨pool,dev,devs,copies,sectors,life⟩++D).drop 8).take 32=pool:=by rw[k];exact gL _ _ _ b a
 have d2:((bV ⟨pool,dev,devs,copies,sectors,life⟩++D).drop 40).take 1=be dev.toNat 1:=by rw[m];exact gL _ _ _ (by simp[b,a]) (b1 _)
 have f:((bV ⟨pool,dev,devs,copies,sectors,life⟩++D).drop 41).take 1=be devs.toNat 1:=by rw[n];exact gL _ _ _ (by simp[b,a,b1]) (b1 _)
 have g:((bV ⟨pool,dev,devs,copies,sectors,life⟩++D).drop 42).take 1=be copies.toNat 1:=by rw[o];exact gL _ _ _ (by simp[b,a,b1]) (b1 _)
 have i:((bV ⟨pool,dev,devs,copies,sectors,life⟩++D).drop 43).take 2=be sectors.toNat 2:=by rw[q];exact gL _ _ _ (by simp[b,a,b1]) b2
 have j:((bV ⟨pool,dev,devs,copies,sectors,life⟩++D).drop 45).take 5=be life.toNat 5:=by rw[r];exact gL _ _ _ (by simp[b,a,b1,b2]) b5
 rw[d,d2,f,g,i,j];rw[pT (by omega) (by omega),pT (by omega) (by omega),pT (by omega) (by omega),pT (by omega) (by omega),pT (by omega) (by omega)]
theorem DC(L:Lab)(b:L.pool.length=32)(a:L.may=true):pD (eC L)=(L,0):=by
 unfold pD;rw[if_neg (by rw[vE L b a];simp),if_neg,if_pos]
 ·rw[sV L b a]
 ·rw[sV L b a];exact⟨a,rfl⟩
 ·intro e
  have:=congrArg (fun l=>l.take 8) e;simp only[zN L a] at this;revert this
  decide
end
section
open Go.RowKit
def zO(w:World)(r:Lab×Int)(e:Ending)(w':World):Prop:=e=.returned (.tuple #[.agg r.1.cells.toArray,.int .i64 r.2])/\aA aB w w'
variable{w wr w':World}{v:Value}{base b2 b5 p at_:Nat}{bs:List UInt8}{fe fa:Int}{zc:List Value}{cs:Array Value}
theorem oX(w:World):(zeroValue 192).run Tryz.prog w=.ok (.agg fP.cells.toArray) w:=by kernel_rfl
theorem K8(w:World):(Instr.build 192 #[]).run Tryz.prog w=.ok (.agg fP.cells.toArray) w:=by kernel_rfl
theorem nG(L:Lab):∀u∈L.cells,u.oneCell'=true:=by
 intro u a;rcases List.mem_append.1 a with h|h
 ·exact bS _ u h
 ·simp[Lab.nums] at h
  rcases h with rfl|rfl|rfl|rfl|rfl<;>rfl
theorem GE(x y:Int)(w:World):(Instr.field 182 (.agg #[.int .i64 x,.int .i64 y]) 0).run Tryz.prog w=.ok (.int .i64 x) w:=by kernel_rfl
theorem iY:fP.cells.length=37:=rfl
theorem K9{n:Nat}(h:w.ownsRow base 5 1 v n (List.replicate n (.int .u8 0))):Rd w 1 v (List.replicate n (0:UInt8)).length ((List.replicate n (0:UInt8)).map vb):=by
 have:=Rd.of_owns h;rw[List.length_replicate,List.map_replicate];exact this
structure UpW(w wr:World)(b2 b5 base p:Nat)(v:Value)(bs:List UInt8)(at_:Nat)(fe fa:Int)(zc:List Value)(cs:Array Value):Prop where
 res:wr.heap[b2]?=some (.cells zc.toArray 192 (0,0))
 lab:wr.heap[b5]?=some (.cells cs 192 (0,0))
 rd:Rdr wr base p v bs at_ fe fa
 keep:aA aB w wr
 ne:b2≠b5
 lb:w.heap.size≤base
 l2:w.heap.size≤b2
 l5:w.heap.size≤b5
theorem UpW.same(h:UpW w wr b2 b5 base p v bs at_ fe fa zc cs)(k:aA aB wr w'):UpW w w' b2 b5 base p v bs at_ fe fa zc cs:=
 ⟨k.blk h.res id,k.blk h.lab id,h.rd.keep k id (fun _ _=>id),h.keep.trans k,h.ne,h.lb,h.l2,h.l5⟩
theorem UpW.read{a:Nat}{d c:Int}(h:UpW w wr b2 b5 base p v bs at_ fe fa zc cs)(k:aA (fun i=>i=p) wr w')(j:Rdr w' base p v bs a d c):UpW w w' b2 b5 base p v bs a d c zc cs:=by
 have g:∀i b,wr.heap[i]?=some (.cells b 192 (0,0))->¬i=p:=by
  rintro i b f rfl;rw[h.rd.blk] at f;cases f
 refine⟨k.blk h.res (g _ _ h.res),k.blk h.lab (g _ _ h.lab),j,h.keep.trans' k (fun _ _ h=>h) (fun i f e=>?_),h.ne,h.lb,h.l2,h.l5⟩;have:=h.rd.le;have:=h.lb;omega
theorem UpW.put{a:Array Value}(h:UpW w wr b2 b5 base p v bs at_ fe fa zc cs)(k:aA (fun i=>i=b5) wr w')(d:w'.heap[b5]?=some (.cells a 192 (0,0))):UpW w w' b2 b5 base p v bs at_ fe fa zc a:=by
 have f:=h.l5;refine⟨k.blk h.res h.ne,d,h.rd.keep k ?_ (fun g c e=>?_),h.keep.trans' k (fun _ _ h=>h) (fun i j e=>by omega),h.ne,h.lb,h.l2,h.l5⟩
 ·intro e
  have:=h.rd.blk;rw[e,h.lab] at this;cases this
 ·subst e
  obtain⟨cur,b⟩:=aO h.rd.own c;rw[h.lab] at b;cases b
theorem UpW.set(h:UpW w wr b2 b5 base p v bs at_ fe fa zc cs)(i:Nat)(u:Value):UpW w (wr.setCell ⟨b5,i,none⟩ u) b2 b5 base p v bs at_ fe fa zc (cs.setIfInBounds i u):=
 h.put ((aA.refl (fun i=>i=b5) wr).setCell (p:=⟨b5,i,none⟩) (fun _=>rfl) _) (dO h.lab i u)
def iB(P:List Value)(a b c d f:Int):Array Value:=(P++([.int .i64 a,.int .i64 b,.int .i64 c,.int .i64 d,.int .i64 f]:List Value)).toArray
theorem oB(P:List Value)(h:P.length=32)(a b c d f x:Int):(iB P a b c d f).setIfInBounds 32 (.int .i64 x)=iB P x b c d f/\(iB P a b c d f).setIfInBounds 33 (.int .i64 x)=iB P a x c d f /\
 (iB P a b c d f).setIfInBounds 34 (.int .i64 x)=iB P a b x d f/\(iB P a b c d f).setIfInBounds 35 (.int .i64 x)=iB P a b c x f/\(iB P a b c d f).setIfInBounds 36 (.int .i64 x)=iB P a b c d x:=by
 unfold iB;refine⟨?_,?_,?_,?_,?_⟩<;>rw[List.setIfInBounds_toArray,List.set_append_right _ _ (by omega),h]<;>rfl
theorem oC(P:List Value)(h:P.length=32)(a b c d f:Int)(i:Nat)(g:i<5):∃u,(iB P a b c d f)[32+i]?=some u:=by
 unfold iB;rw[List.getElem?_toArray,List.getElem?_append_right (by omega)];exact⟨_,List.getElem?_eq_getElem (by simp;omega)⟩
theorem I8(P:List Value)(h:P.length=32)(zc:List Value)(a:fP.cells=zc):spl zc.toArray 0 P=iB P 0 0 0 0 0:=by
 subst a;apply Array.ext_getElem?;intro j;rw[mC _ _ _ _ (by rw[h];decide),h];unfold iB;simp only[List.getElem?_toArray]
 by_cases b:j<32
 ·rw[if_pos (by omega),List.getElem?_append_left (by omega)];rfl
 ·rw[if_neg (by omega),List.getElem?_append_right (by omega),h]
  show (List.replicate 32 (Value.int .u8 0)++[.int .i64 0,.int .i64 0,.int .i64 0,.int .i64 0,.int .i64 0])[j]?=_;rw[List.getElem?_append_right (by simp;omega)];simp
theorem I9(w:World)(bv:Value)(b:List UInt8)(hr:Rd w 1 bv b.length (b.map vb))(hl:b.length=256)(hz:¬b=List.replicate 256 0)(h3:(fW b).sectors≤4096)(h4:(fW b).life≤2147483648)(hm:(fW b).may=true)(r:eC (fW b)=b) :
 Calls Tryz.prog 186 #[bv] w (zO w (pD b)):=by
 have hlt:∀g,bv.ownBlock=some g->g<w.heap.size:=by
  obtain⟨k,hk,Y⟩:=hr.lt (by simp;omega);intro g hg;rw[hg] at hk;cases hk;exact Y
 obtain⟨a,c,hv,-,-⟩:=hr.form;rw[hl] at hv;subst hv;have HR:=O hr;have H3:=O h3;have H4:=O h4;have HM:=O hm;have HQ:=O r;clear h3 h4 hm r;clear hr;obtain⟨zc,hzc,hzl,hzo⟩:∃zc,fP.cells=zc/\zc.length=37/\∀u∈zc,u.oneCell'=true:=⟨_,rfl,rfl,nG _⟩
 have hzv:∀w,(zeroValue 192).run Tryz.prog w=.ok (.agg zc.toArray) w:=by rw[←hzc];exact oX
 have hbd:∀w,(Instr.build 192 #[]).run Tryz.prog w=.ok (.agg zc.toArray) w:=by rw[←hzc];exact K8
 have HZ:=O hzc;clear hzc;have V:=O hl;clear hl;go_in
 go_wp2_with (first
  | (refine aV rfl 192 rfl _ hzv zc.toArray rfl ?_)
  | ((with_reducible show WL (some 15) (.makeSlice _ _ _));refine qE rfl (.const (.int .i64 256)) (.const (.int .i64 256)) 109 rfl w.heap.size 5 (.int .u8 0) 1 Tryz.underlying109 fS rfl 256 rfl rfl (by omega) (by unfold maxLen;omega) (by simp) ?_;intro E s Y;rw[World.size_alloc] at s;have HO2:=O (K9 s);have HK2:=O Y;clear s Y))
 have hkw2:aA aB w E:=((aA.refl aB w).alloc _).trans HK2.out;have hres:E.heap[w.heap.size]?=some (.cells zc.toArray 192 (0,0)):=HK2.blk (heap_alloc_new _ _) id;have HRES:=O hres;have n:=O hkw2;clear hres hkw2;have hne:decide (b=List.replicate 256 0)=false:=by simpa using hz
 refine(mL E _ _ b (List.replicate 256 0) (HR.keep n.out fun _ _=>id) HO2.out false hne).mono ?_;rintro e w3 ⟨rfl,rfl⟩;have hp32:=GD b V.out;have HP:=O hp32;have HZN:=O hz;clear hz hne hp32 HK2 HO2;go_wp2_with fail;refine(IE _ b E (HR.keep n.out fun _ _=>id) (by rw[V.out];omega)).mono ?_;rintro e w3 ⟨p,v,rfl,d,hk3⟩;have T:=hk3.blk HRES.out id;have hkw3:=n.trans hk3;have hb2:=n.size;have I:=O d;have H:=O T;have HK3:=O hkw3;clear d hk3 T hkw3 HRES n;go_wp2_with fail;refine(Fb w3 E.heap.size p v b 0 0 I.out 8 (by omega) (by rw[V.out];omega)).mono ?_;rintro e w4 ⟨v4,rfl,-,d,hk4⟩;have hpn:w.heap.size≠p:=by have:=I.le;have:=lt_of_block H.out;intro e;rw[e,I.blk] at H;cases H.out
 have U:=hk4.blk H.out hpn;have hpw:w.heap.size≤p:=by have:=I.le;omega
 have hkw4:aA aB w w4:=HK3.trans' hk4 (fun _ _ h=>h) (fun i hi e=>by omega);have HRD4:=O d;have HR4:=O U;have HK4:=O hkw4;clear d hk4 U hkw4 I H HK3 hpn
 go_wp2_with (first
  | (refine aV rfl 192 rfl _ hzv zc.toArray rfl ?_))
 have U5:UpW w ((w4.alloc (.cells zc.toArray 192)).drew) w.heap.size w4.heap.size E.heap.size p v b 8 0 0 zc zc.toArray:=by
  have K:aA aB w4 ((w4.alloc (.cells zc.toArray 192)).drew):=((aA.refl _ _).alloc _).drew;have hlt4:=lt_of_block HR4.out;exact⟨K.blk HR4.out id,heap_alloc_new w4 _,HRD4.keep K id (fun _ _=>id),HK4.trans K,by omega,hb2,Nat.le_refl _,HK4.size⟩
 obtain⟨b5,hb5⟩:∃b5,w4.heap.size=b5:=⟨_,rfl⟩
 refine wp_region_any (by kernel_rfl) ?_;obtain⟨w5,hw5⟩:∃w5,(w4.alloc (.cells zc.toArray 192)).drew=w5:=⟨_,rfl⟩
 change wpAny _ _ _ _ _ _ _ ((w4.alloc (.cells zc.toArray 192)).drew);rw[hw5] at U5 ⊢;rw[hb5] at U5 ⊢;have HU5:=O U5;clear U5 HRD4 HR4 HK4 hw5 hb5 hpw;refine wpAny_take (i:=0) (v:=.pointer (some ⟨b5,0,none⟩)) rfl (by kernel_rfl) (by kernel_rfl) (by kernel_rfl) (fun _ _ _ h=>h) (.inl ⟨by rfl,fun w'=>?_⟩) ?_
 ·go_simp
 refine wpAny_take (i:=1) (v:=.slice (some ⟨b5,0,none⟩) 32 32) rfl (by kernel_rfl) (by kernel_rfl) (by kernel_rfl) (fun _ _ _ h=>h) (.inl ⟨by rfl,fun w'=>?_⟩) ?_
 ·go_simp
 refine wpAny_take (i:=2) (v:=.pointer p) rfl (by kernel_rfl) (by kernel_rfl) (by kernel_rfl) (fun _ _ _ h=>h) (.inl ⟨by rfl,fun w'=>rfl⟩) ?_;refine AZ (k:=3) rfl (by kernel_rfl) ?_;go_wp2_with fail;refine(Fb w5 E.heap.size p v b 8 0 HU5.rd 32 (by omega) (by rw[V.out];omega)).mono ?_;rintro e w6 ⟨v6,rfl,hown,d,hk6⟩;have B:Rd w6 1 v6 32 ((fW b).pool.map vb):=Rd.of_owns hown;obtain⟨a6,c6,rfl,-,-⟩:=B.form;have U6:=HU5.read hk6 d;obtain⟨P,hP⟩:∃P,(fW b).pool.map vb=P:=⟨_,rfl⟩
 have j:P.length=32:=by rw[←hP];simp[HP.out]
 have hPo:∀u∈P,u.oneCell'=true:=by rw[←hP];exact bS _
 rw[hP] at B;have HPP:=O hP;have HU6:=O U6;have HRD6:=O B;clear hP U6 B hown d hk6 HU5;go_wp2_with fail;refine AZ (k:=4) rfl (by kernel_rfl) ?_;refine rI rfl (.tmp 23) (.tmp 25) 109 109 rfl 5 Tryz.underlying109 yO b5 0 32 32 rfl _ 32 P rfl HRD6.out 32 rfl zc.toArray _ HU6.lab (by simp[hzl]) hPo ?_;intro w7 hb7 hk7;rw[List.take_of_length_le (by rw[j];exact Nat.le_refl _),I8 P j zc HZ.out] at hb7;have HU7:=O (HU6.put hk7 hb7);clear hb7 hk7;refine wpList_nil ?_;refine wpAny_done (by kernel_rfl) ?_ _;clear HU6 HRD6;obtain⟨y,Z⟩:∃x,beN ((b.drop 40).take 1)=x:=⟨_,rfl⟩
 have HX40:=O Z;obtain⟨C,hx1⟩:∃x,beN ((b.drop 41).take 1)=x:=⟨_,rfl⟩
 have HX41:=O hx1;obtain⟨F,hx2⟩:∃x,beN ((b.drop 42).take 1)=x:=⟨_,rfl⟩
 have HX42:=O hx2;obtain⟨W,hx3⟩:∃x,beN ((b.drop 43).take 2)=x:=⟨_,rfl⟩
 have HX43:=O hx3;obtain⟨x4,hx4⟩:∃x,beN ((b.drop 45).take 5)=x:=⟨_,rfl⟩
 have HX45:=O hx4;have l0:(y:Int)≤255:=by rw[←Z];exact xV _ (by simp;omega)
 have l1:(C:Int)≤255:=by rw[←hx1];exact xV _ (by simp;omega)
 have l2:(F:Int)≤255:=by rw[←hx2];exact xV _ (by simp;omega)
 have G:=O (show fW b=⟨(fW b).pool,y,C,F,W,x4⟩ by rw[←Z,←hx1,←hx2,←hx3,←hx4];rfl);have HX3:=O hx3;have HX4:=O hx4;clear Z hx1 hx2 hx3 hx4;go_wp2_with fail;refine(nX w7 E.heap.size p v b 40 0 HU7.rd 1 0 255 (by omega) (by omega) (by rw[V.out];omega) y HX40.out).mono ?_;rintro e w8 ⟨f,r⟩;rw[if_pos ⟨by omega,l0⟩] at r;obtain⟨rfl,d⟩:=r;have HU8:=O (HU7.read f d);clear f d HU7;go_wp2_with fail;refine(nX w8 E.heap.size p v b 41 0 HU8.rd 1 0 255 (by omega) (by omega) (by rw[V.out];omega) C HX41.out).mono ?_;rintro e w9 ⟨f,r⟩;rw[if_pos ⟨by omega,l1⟩] at r;obtain⟨rfl,d⟩:=r;have HU9:=O (HU8.read f d);clear f d HU8;go_wp2_with fail;refine(nX w9 E.heap.size p v b 42 0 HU9.rd 1 0 255 (by omega) (by omega) (by rw[V.out];omega) F HX42.out).mono ?_;rintro e w10 ⟨f,r⟩;rw[if_pos ⟨by omega,l2⟩] at r;obtain⟨rfl,d⟩:=r;have m:=O (HU9.read f d);clear f d HU9;have X:=((m.set 32 (.int .i64 y)).set 33 (.int .i64 C)).set 34 (.int .i64 F);rw[(oB P j 0 0 0 0 0 y).1,(oB P j y 0 0 0 0 C).2.1,(oB P j y C 0 0 0 F).2.2.1] at X;obtain⟨u0,g0⟩:=oC P j 0 0 0 0 0 0 (by omega);obtain⟨u1,g1⟩:=oC P j 0 0 0 0 0 1 (by omega);obtain⟨u2,g2⟩:=oC P j 0 0 0 0 0 2 (by omega);have k0:=aC m.lab g0;have k1:=aC m.lab g1;have k2:=aC m.lab g2;have kf:=fun i=>dA m.lab i
 obtain⟨w11,hw11⟩:∃w11,((w10.setCell ⟨b5,32,none⟩ (.int .i64 y)).setCell ⟨b5,33,none⟩ (.int .i64 C)).setCell ⟨b5,34,none⟩ (.int .i64 F)=w11:=⟨_,rfl⟩
 rw[hw11] at X;have J:=O X;clear X g0 g1 g2;simp only[Nat.add_zero,Nat.reduceAdd] at k0 k1 k2;go_wp2_with fail;clear k0 k1 k2 kf hw11 m;have l3:(W:Int)≤4096:=by have:=H3.out;rw[G.out] at this;exact this
 have l4:(x4:Int)≤2147483648:=by have:=H4.out;rw[G.out] at this;exact this
 go_wp2_with fail;refine(nX w11 E.heap.size p v b 43 0 J.rd 2 0 4096 (by omega) (by omega) (by rw[V.out];omega) W HX43.out).mono ?_;rintro e w12 ⟨f,r⟩;rw[if_pos ⟨by omega,l3⟩] at r;obtain⟨rfl,d⟩:=r;have M:=O (J.read f d);clear f d J;go_wp2_with fail;refine(nX w12 E.heap.size p v b 45 0 M.rd 5 0 2147483648 (by omega) (by omega) (by rw[V.out];omega) x4 HX45.out).mono ?_;rintro e w13 ⟨f,r⟩;rw[if_pos ⟨by omega,l4⟩] at r;obtain⟨rfl,d⟩:=r;have o:=O (M.read f d);clear f d M;have D:=(o.set 35 (.int .i64 W)).set 36 (.int .i64 x4);rw[(oB P j y C F 0 0 W).2.2.2.1,(oB P j y C F W 0 x4).2.2.2.2] at D;obtain⟨u3,g3⟩:=oC P j y C F 0 0 3 (by omega);obtain⟨u4,g4⟩:=oC P j y C F 0 0 4 (by omega);have k3:=aC o.lab g3;have k4:=aC o.lab g4;have kf:=fun i=>dA o.lab i
 obtain⟨w14,hw14⟩:∃w14,(w13.setCell ⟨b5,35,none⟩ (.int .i64 W)).setCell ⟨b5,36,none⟩ (.int .i64 x4)=w14:=⟨_,rfl⟩
 rw[hw14] at D;obtain⟨L,hL,hLp,hLm⟩:∃L:Lab,iB P y C F W x4=L.cells.toArray/\L.pool.length=32/\L=⟨(fW b).pool,y,C,F,W,x4⟩:=⟨⟨(fW b).pool,y,C,F,W,x4⟩,by rw[←HPP.out];rfl,HP.out,rfl⟩
 rw[hL] at D;obtain⟨lc,S⟩:∃lc,L.cells=lc:=⟨_,rfl⟩
 have q:lc.length=37:=by rw[←S];exact L.cells_length hLp
 have hlco:∀u∈lc,u.oneCell'=true:=by rw[←S];exact nG L
 rw[S] at D;have N:=O D;have HLC:=O S;have HLM:=O hLm;clear D g3 g4 hL S hLm;simp only[Nat.reduceAdd] at k3 k4
 go_wp2_with (first
  | ((with_reducible show WL (some 43) (.load 192 (.tmp 5)));refine wpList_load_mid rfl 192 (.tmp 5) rfl b5 0 rfl lc _ (aD N.lab) Tryz.underlying192 rfl (by rw[q];exact gC) ?_))
 clear k3 k4 kf hw14 o;have CP:=DB L hLp w14;rw[HLC.out] at CP;refine CP.mono ?_;clear CP;rintro e w15 ⟨v15,rfl,A,hk15⟩;have Q:=O (N.same hk15);have t:=Rd.of_owns A;obtain⟨a15,c15,rfl,-,-⟩:=t.form;have HRD15:=O t;clear A hk15 t N;have HLL:=O (show L=fW b by rw[HLM.out];exact G.symm);have HUR:=O (show pD b=(fW b,0) by unfold pD;rw[if_neg (by rw[V.out];simp),if_neg HZN.out,if_pos ⟨HM.out,HQ.out⟩]);rw[show L.may=true by rw[HLL.out];exact HM.out];have hfd:=GE;go_wp2_with fail;refine(IL w15 E.heap.size p v b _ _ _ Q.rd).mono ?_;rintro e w16 ⟨rfl,R⟩;have z:=O (Q.same R);have HK16:=O R;clear R Q;go_wp2_with fail;refine(mL w16 _ _ (eC L) b (HRD15.keep HK16.out fun _ _=>id) (HR.keep z.keep fun _ _=>id) true (by rw[HLL.out];exact decide_eq_true HQ.out)).mono ?_;rintro e w17 ⟨rfl,rfl⟩
 go_wp2_with (first
  | ((with_reducible show WL (some 62) (.load 192 (.tmp 5)));refine wpList_load_mid rfl 192 (.tmp 5) rfl b5 0 rfl lc _ (aD z.lab) Tryz.underlying192 rfl (by rw[q];exact gC) ?_)
  | ((with_reducible show WL none (.store 192 (.tmp 2) (.tmp 62)));refine aR rfl 192 (.tmp 2) (.tmp 62) rfl w.heap.size 0 lc rfl rfl _ _ z.res (by rw[q];simp[hzl]) (by rw[q];exact gC) hlco ?_;intro w17 hb17 hk17;have HB17:=O hb17;have HK17:=O hk17;clear hb17 hk17))
 refine bodyPost_ret (bN rfl _ _ w.heap.size _ _ _ _ rfl HB17.out Tryz.underlying192 rfl (by rw[eU,List.size_toArray,hzl];exact gC)) rfl ⟨?_,?_⟩
 ·rw[aK _ _ (by rw[q];simp[hzl]),HUR.out,←HLC.out,HLL.out];rfl
 ·exact z.keep.trans' HK17.out (fun _ _ h=>h) (fun i hi e=>by omega)
theorem Cb(w:World)(d:Value)(L:Lab)(g:L.pool.length=32)(a:L.may=true)(b:List UInt8)(h:b=eC L)(i:Rd w 1 d b.length (b.map vb)):Calls Tryz.prog 186 #[d] w (zO w (pD b)):=by
 subst h;have c:=sV L g a;have f:=a;unfold Lab.may at f;simp only[decide_eq_true_eq] at f;refine I9 w d _ i (vE L g a) (fun e=>?_) (by rw[c];omega) (by rw[c];omega) (by rw[c];exact a) (by rw[c]);have:=congrArg (fun l=>l.take 8) e;simp only[zN L a] at this;revert this
 decide
end
end Go.Proofs.YtiinnfhjpaeffaaGreat
