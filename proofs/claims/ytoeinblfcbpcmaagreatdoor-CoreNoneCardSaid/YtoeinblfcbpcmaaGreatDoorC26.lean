import Derived.Test.YtoeinblfcbpcmaaGreatDoorC17
import Derived.Lib.SlBytesConst
namespace Go.Proofs.YtoeinblfcbpcmaaGreatDoor
open Tryz
set_option maxHeartbeats 0
set_option maxRecDepth 100000
set_option linter.unusedVariables false
section
open Go.RowKit
structure PkW(w:World)(L:Lab)(b1 b5 base p:Nat)(v:Value)(l:List UInt8)(e:Int):Prop where
 pool:L.pool.length=32
 lab:w.heap[b1]?=some (.cells L.cells.toArray 112 (0,0))
 q:w.heap[b5]?=some (.cells #[.pointer (some ⟨p,0,none⟩)] 266 (0,0))
 wr:Wr w base p v l e
 len:l.length≤65536
variable{w w':World}{L:Lab}{b1 b5 base p:Nat}{v:Value}{l:List UInt8}{e:Int}
theorem PkW.cells(h:PkW w L b1 b5 base p v l e) :
 w.cell? ⟨b5,0,none⟩=some (.pointer p)/\w.cell? ⟨b1,32,none⟩=some (.int .i64 L.dev)/\w.cell? ⟨b1,33,none⟩=some (.int .i64 L.devs)/\w.cell? ⟨b1,34,none⟩=some (.int .i64 L.copies) /\
 w.cell? ⟨b1,35,none⟩=some (.int .i64 L.sectors)/\w.cell? ⟨b1,36,none⟩=some (.int .i64 L.life):=by
 obtain⟨c0,c1,c2,c3,a⟩:=L.at h.pool;exact⟨aC h.q rfl,aC h.lab c0,aC h.lab c1,aC h.lab c2,aC h.lab c3,aC h.lab a⟩
theorem PkW.same(h:PkW w L b1 b5 base p v l e)(k:aA aB w w'):PkW w' L b1 b5 base p v l e:=
 ⟨h.pool,k.blk h.lab id,k.blk h.q id,h.wr.keep k id (fun _ _=>id),h.len⟩
theorem PkW.rd(h:PkW w L b1 b5 base p v l e):Rd w 1 (.slice b1 32 32) L.pool.length (L.pool.map vb):=by
 refine⟨by simp,_,32,by rw[h.pool],by rw[h.pool];omega,by unfold maxLen;omega,(by intro h;cases h),fun _=>⟨b1,0,rfl,fun i u a=>?_⟩⟩
 have b:i<32:=by
  rw[←h.pool];have:=(List.getElem?_eq_some_iff.1 a).1
  simpa using this
 rw[Nat.zero_add];exact aC h.lab (by rw[List.getElem?_toArray,L.cells_pool h.pool i b];exact a)
theorem dR.end{r:List UInt8×Int}{e:Ending}(h:dR w base p v r e w'):e=.returned (.tuple #[])/\Hid (dR w base p v r (.returned (.tuple #[])) w'):=
 ⟨h.1,O ⟨rfl,h.2⟩⟩
theorem Qk(w:World)(l:List UInt8)(t:TypeId)(a:Nat×Nat)(h:l.length≤maxLen):Rd (w.alloc (.cells (l.map vb).toArray t a)) 1 (.slice (w.heap.size) l.length l.length) l.length (l.map vb):=by
 refine⟨by simp,_,_,rfl,Nat.le_refl _,h,(by intro h;cases h),fun _=>⟨_,0,rfl,fun i u b=>?_⟩⟩;rw[Nat.zero_add];exact aC (heap_alloc_new _ _) (by rw[List.getElem?_toArray];exact b)
theorem pk1(w:World)(L:Lab)(b1 b5 base p:Nat)(v:Value)(l:List UInt8)(e:Int)(h:PkW w L b1 b5 base p v l e) :
 Calls prog 180 #[.pointer b5] w (dR w base p v (wst (l,e) (cL,0))):=by
 obtain⟨f,c0,c1,c2,c3,d⟩:=h.cells;have g:=fun(w:World) (C:Array Value) (n c:Nat)=>Lib.run_convert_bytes_const (P:=prog) w 22 5 C n c underlying22 underlying5
 have H:=O h;clear h;go_in;go_wp2_with fail;have K:aA aB w (w.alloc (.cells (cL.map vb).toArray 5 (8,9))):=(aA.refl _ _).alloc _;refine(tN p _ cL (w.alloc (.cells (cL.map vb).toArray 5 (8,9))) base v l e (H.same K).wr H.len (Qk w cL 5 (8,9) (by decide)) (by decide)).mono ?_;rintro e i a;obtain⟨rfl,b⟩:=a.end;go_wp2_with fail
 go_end0
 exact dR.of K b.out
theorem pk2(w:World)(L:Lab)(b1 b5 base p:Nat)(v:Value)(l:List UInt8)(e:Int)(h:PkW w L b1 b5 base p v l e) :
 Calls prog 182 #[.pointer b5,.pointer b1] w (dR w base p v (wst (l,e) (L.pool,0))):=by
 obtain⟨d,c0,c1,c2,c3,c⟩:=h.cells;have H:=O h;clear h;go_in;go_wp2_with fail
 go_still_tail 3,(by kernel_rfl)
 go_wp2_with fail;refine(tN p _ L.pool w.drew base v l e (H.same (aA.refl aB w).drew).wr H.len (H.same (aA.refl aB w).drew).rd (by rw[H.pool];omega)).mono ?_;rintro e f a;obtain⟨rfl,b⟩:=a.end;go_wp2_with fail
 go_end0
 exact dR.of (aA.refl aB w).drew b.out
theorem pk3(w:World)(L:Lab)(b1 b5 base p:Nat)(v:Value)(l:List UInt8)(e:Int)(h:PkW w L b1 b5 base p v l e) :
 Calls prog 183 #[.pointer b5,.pointer b1] w (dR w base p v (wst (l,e) (eV L.dev 1))):=by
 obtain⟨d,c0,c1,c2,c3,c⟩:=h.cells;have C:=O (nX p L.dev 1 w base v l e h.wr h.len);clear h;go_in;go_wp2_with fail;refine C.out.mono ?_;rintro e f a;obtain⟨rfl,b⟩:=a.end;go_wp2_with fail
 go_end0
 exact b.out
theorem pk4(w:World)(L:Lab)(b1 b5 base p:Nat)(v:Value)(l:List UInt8)(e:Int)(h:PkW w L b1 b5 base p v l e) :
 Calls prog 185 #[.pointer b5,.pointer b1] w (dR w base p v (wst (l,e) (eV L.devs 1))):=by
 obtain⟨d,c0,c1,c2,c3,c⟩:=h.cells;have C:=O (nX p L.devs 1 w base v l e h.wr h.len);clear h;go_in;go_wp2_with fail;refine C.out.mono ?_;rintro e f a;obtain⟨rfl,b⟩:=a.end;go_wp2_with fail
 go_end0
 exact b.out
theorem pk5(w:World)(L:Lab)(b1 b5 base p:Nat)(v:Value)(l:List UInt8)(e:Int)(h:PkW w L b1 b5 base p v l e) :
 Calls prog 186 #[.pointer b5,.pointer b1] w (dR w base p v (wst (l,e) (eV L.copies 1))):=by
 obtain⟨d,c0,c1,c2,c3,c⟩:=h.cells;have C:=O (nX p L.copies 1 w base v l e h.wr h.len);clear h;go_in;go_wp2_with fail;refine C.out.mono ?_;rintro e f a;obtain⟨rfl,b⟩:=a.end;go_wp2_with fail
 go_end0
 exact b.out
theorem pk6(w:World)(L:Lab)(b1 b5 base p:Nat)(v:Value)(l:List UInt8)(e:Int)(h:PkW w L b1 b5 base p v l e) :
 Calls prog 187 #[.pointer b5,.pointer b1] w (dR w base p v (wst (l,e) (eV L.sectors 2))):=by
 obtain⟨d,c0,c1,c2,c3,c⟩:=h.cells;have C:=O (nX p L.sectors 2 w base v l e h.wr h.len);clear h;go_in;go_wp2_with fail;refine C.out.mono ?_;rintro e f a;obtain⟨rfl,b⟩:=a.end;go_wp2_with fail
 go_end0
 exact b.out
theorem pk7(w:World)(L:Lab)(b1 b5 base p:Nat)(v:Value)(l:List UInt8)(e:Int)(h:PkW w L b1 b5 base p v l e) :
 Calls prog 188 #[.pointer b5,.pointer b1] w (dR w base p v (wst (l,e) (eV L.life 5))):=by
 obtain⟨d,c0,c1,c2,c3,c⟩:=h.cells;have C:=O (nX p L.life 5 w base v l e h.wr h.len);clear h;go_in;go_wp2_with fail;refine C.out.mono ?_;rintro e f a;obtain⟨rfl,b⟩:=a.end;go_wp2_with fail
 go_end0
 exact b.out
theorem pk8(w:World)(L:Lab)(b1 b5 base p:Nat)(v:Value)(l:List UInt8)(e:Int)(h:PkW w L b1 b5 base p v l e) :
 Calls prog 189 #[.pointer b5] w (dR w base p v (wst (l,e) (jO 224 l))):=by
 obtain⟨d,c0,c1,c2,c3,c⟩:=h.cells;have C:=O (GT p 224 w base v l e h.wr h.len);clear h;go_in;go_wp2_with fail;refine C.out.mono ?_;rintro e f a;obtain⟨rfl,b⟩:=a.end;go_wp2_with fail
 go_end0
 exact b.out
def IJ:Nat->Nat
 | 0=>180
 | 1=>182
 | 2=>183
 | 3=>185
 | 4=>186
 | 5=>187
 | 6=>188
 | _=>189
def Ee(b1 b5:Nat):Nat->Array Value
 | 0=>#[.pointer b5]
 | 7=>#[.pointer b5]
 | _=>#[.pointer b5,.pointer b1]
theorem Ql(b1 b5 k:Nat)(a:k<8):∀w,Sem.run prog (callFunc (IJ k) (Ee b1 b5 k)) w=.ok (.enter (IJ k) (Ee b1 b5 k)) w:=by
 intro w;have h:k=0\/k=1\/k=2\/k=3\/k=4\/k=5\/k=6\/k=7:=by omega
 rcases h with rfl|rfl|rfl|rfl|rfl|rfl|rfl|rfl<;>rfl
theorem Qm(k:Nat)(b:k<8)(w:World)(L:Lab)(b1 b5 base p:Nat)(v:Value)(h:PkW w L b1 b5 base p v (dO L k).1 (dO L k).2) :
 Calls prog (IJ k) (Ee b1 b5 k) w (dR w base p v (dO L (k+1))):=by
 have a:k=0\/k=1\/k=2\/k=3\/k=4\/k=5\/k=6\/k=7:=by omega
 rcases a with rfl|rfl|rfl|rfl|rfl|rfl|rfl|rfl
 ·exact pk1 w L b1 b5 base p v _ _ h
 ·exact pk2 w L b1 b5 base p v _ _ h
 ·exact pk3 w L b1 b5 base p v _ _ h
 ·exact pk4 w L b1 b5 base p v _ _ h
 ·exact pk5 w L b1 b5 base p v _ _ h
 ·exact pk6 w L b1 b5 base p v _ _ h
 ·exact pk7 w L b1 b5 base p v _ _ h
 ·exact pk8 w L b1 b5 base p v _ _ h
def dL(L:Lab):List UInt8:=if L.may then cE L++bU (cE L) else []
def Fd(w:World)(L:Lab)(e:Ending)(w':World):Prop:=
 ∃v,e=.returned (.tuple #[v,.int .i64 (if L.may then 0 else 2)])/\w'.ownsRow w.heap.size 5 1 v (dL L).length ((dL L).map vb)/\aA aB w w'
def xP(w:World)(L:Lab)(e:Ending)(w':World):Prop:=
 ∃v,e=.returned (.tuple #[v,.int .i64 (if L.may then 0 else 2)])/\w'.ownsRow w.heap.size 5 1 v (dL L).length ((dL L).map vb)/\aA aB w w'/\Fit IsB w' v
theorem gF:(prog.info? 112).map (·.size)=some 37:=by kernel_rfl
def IK(b1 b5:Nat):Array Value:=#[.func (.func 180) #[] #[.pointer b5],
 .func (.func 182) #[] #[.pointer b5,.pointer b1],.func (.func 183) #[] #[.pointer b5,.pointer b1],
 .func (.func 185) #[] #[.pointer b5,.pointer b1],.func (.func 186) #[] #[.pointer b5,.pointer b1],
 .func (.func 187) #[] #[.pointer b5,.pointer b1],.func (.func 188) #[] #[.pointer b5,.pointer b1],
 .func (.func 189) #[] #[.pointer b5]]
theorem Nl(b1 b5 k:Nat)(a:k<8):(IK b1 b5)[k]?=some (.func (.func (IJ k)) #[] (Ee b1 b5 k)):=by
 have h:k=0\/k=1\/k=2\/k=3\/k=4\/k=5\/k=6\/k=7:=by omega
 rcases h with rfl|rfl|rfl|rfl|rfl|rfl|rfl|rfl<;>rfl
structure PkR(w wr:World)(L:Lab)(b1 b5 b6 base p k:Nat):Prop where
 pk:∃v,PkW wr L b1 b5 base p v (dO L k).1 (dO L k).2
 fs:wr.heap[b6]?=some (.cells (IK b1 b5) 1 (0,0))
 keep:aA aB w wr
 le:w.heap.size≤base
theorem PkR.next{wr q:World}{n k:Nat}(h:PkR w wr L b1 b5 n base p k)(b:PkW wr L b1 b5 base p v (dO L k).1 (dO L k).2){e:Ending}
 (x:dR wr base p v (dO L (k+1)) e q):PkR w q L b1 b5 n base p (k+1):=by
 obtain⟨-,y,m,j,-⟩:=x
 have c:∀i cs t o,wr.heap[i]?=some (.cells cs t o)->t≠5->t≠320->¬(i=p\/v.ownBlock=some i):=by
  intro i cs t o f d s a;rcases a with rfl|a
  ·rw[b.wr.blk] at f;cases f;exact s rfl
  ·obtain⟨cur,u⟩:=aH b.wr.own a
   rw[u] at f;cases f;exact d rfl
 refine⟨⟨y,b.pool,j.blk b.lab (c _ _ _ _ b.lab (by decide) (by decide)),j.blk b.q (c _ _ _ _ b.q (by decide) (by decide)),m,Fc L (k+1)⟩,
  j.blk h.fs (c _ _ _ _ h.fs (by decide) (by decide)),?_,h.le⟩
 refine h.keep.tT j (fun i f a=>?_);have:=h.le;rcases a with rfl|a
 ·have:=b.wr.le;omega
 ·rcases b.wr.own.2 with⟨d,-⟩|⟨g,r,cur,d,z,-⟩
  ·rw[d] at a;cases a
  ·rw[d] at a
   have:g=i:=by simpa [Value.ownBlock] using a
   omega
theorem Pk{m d f:World}{n:Nat}{r:Value}{l g:List Value}{o:Obj}(q:m.ownsRow base 5 1 r n l)(a:aA aB m d)
 (j:f.heap[d.heap.size]?=some (.cells (spl (Array.replicate 32 (.int .u8 0)) 0 g) 31 (0,0))) (c:aA (fun k=>k=d.heap.size) (d.alloc o) f) (b:g.length=32) :
 f.ownsRow base 5 1 r n l/\Rd f 1 (.slice (d.heap.size) 32 32) 32 g/\aA aB m f:=by
 refine⟨?_,?_,(a.alloc o).tT c (fun i y e=>by have:=a.size;omega)⟩
 ·refine c.owns ((a.alloc o).owns q fun _ _=>id) (fun k t e=>?_)
  obtain⟨cur,s⟩:=aH (a.owns q fun _ _=>id) t;have:=lt_of_block s;omega
 ·refine⟨by simpa using b,_,32,rfl,Nat.le_refl _,by unfold maxLen;omega,(by intro h;cases h),fun _=>⟨_,0,rfl,fun i u x=>?_⟩⟩
  rw[Nat.zero_add];refine aC j ?_;rw[aI _ _ (by simpa using b)]
  simpa using x
theorem Pl(L:Lab)(d:L.pool.length=32)(f:L.may=false)(w:World) :
 Calls prog 125 #[.agg L.cells.toArray] w (xP w L):=by
 have C:=O (sE L d (w.alloc (.cells L.cells.toArray 112)));have c:=O f;clear f;obtain⟨cs,a⟩:=zX9 L.cells
 have b:cs.length=37:=by rw[←a];exact L.cells_length d
 rw[a] at C ⊢;have g:=O a;clear a;go_in
 go_wp2_with (first
  | ((with_reducible show WL (some 11) (.load 112 (.tmp 1)));refine wpList_load_mid rfl 112 (.tmp 1) rfl w.heap.size 0 rfl cs _ (aD (heap_alloc_new _ _)) underlying112 rfl (by rw[b];exact gF) ?_))
 refine C.out.mono ?_;rintro e h ⟨rfl,rfl⟩;rw[c.out];go_wp2
 go_ret2
 refine⟨_,by rw[c.out];rfl,?_,(((aA.refl _ _).alloc _).alloc _),Fit.nil _ _⟩;rw[show dL L=[] by unfold dL;rw[c.out];rfl];exact World.ownsRow_nil _ _ _ _
theorem Nm(L:Lab)(Y:L.pool.length=32)(hm:L.may=true)(w:World) :
 Calls prog 125 #[.agg L.cells.toArray] w (xP w L):=by
 have C:=O (sE L Y (w.alloc (.cells L.cells.toArray 112)));have J:=O hm;clear hm;have qr:∀(fn:Fn) (first N:Array Value) (w:World),(Instr.makeFunc fn first N).run prog w=.ok (.func fn first N) w:=fun _ _ _ _=>rfl
 obtain⟨cs,o⟩:=zX9 L.cells
 have Z:cs.length=37:=by rw[←o];exact L.cells_length Y
 rw[o] at C ⊢;have qc:=O o;clear o;go_in
 go_wp2_with (first
  | ((with_reducible show WL (some 11) (.load 112 (.tmp 1)));refine wpList_load_mid rfl 112 (.tmp 1) rfl w.heap.size 0 rfl cs _ (aD (heap_alloc_new _ _)) underlying112 rfl (by rw[Z];exact gF) ?_))
 refine C.out.mono ?_;rintro e c ⟨rfl,rfl⟩;rw[J.out];go_wp2_with fail;refine(GS _).mono ?_;rintro e c ⟨p,rfl,F,n,hp⟩;have s:c.heap[w.heap.size]?=some (.cells cs.toArray 112 (0,0)):=n.blk (heap_alloc2_old _ _ _) id;have X:aA aB w c:=((((aA.refl aB w).alloc _).alloc _)).trans n;have j:w.heap.size+2=((w.alloc (.cells cs.toArray 112)).alloc (.cells cs.toArray 112)).heap.size:=by simp
 rw[←j] at F hp;have M:=O F;have qf:=O n;have q:=O s;have f:=O X;clear F n s j X;go_wp2_with fail
 have R0:Hid (PkR w ((c.alloc (.cells #[.pointer p] 266)).alloc (.cells (IK w.heap.size c.heap.size) 1)) L w.heap.size c.heap.size (c.heap.size+1) (w.heap.size+2) p 0):=by
  have K:aA aB c ((c.alloc (.cells #[.pointer p] 266)).alloc (.cells (IK w.heap.size c.heap.size) 1)):=((aA.refl _ _).alloc _).alloc _;refine O ⟨⟨.slice none 0 0,Y,?_,heap_alloc2_old _ _ _,M.keep K id (fun _ _=>id),by simp[dO]⟩,heap_alloc2_new _ _ _,f.trans K,by omega⟩;rw[qc.out];exact K.blk q.out id
 go_loopw [27] (fun i wr=>∃k:Nat,k≤8/\i=.int .i64 k/\Hid (PkR w wr L w.heap.size c.heap.size (c.heap.size+1) (w.heap.size+2) p k)) (fun i _=>8-(intOf i).toNat)
 case atStart=>exact⟨0,by omega,rfl,R0⟩
 case round =>
  clear R0 M qf q f C;obtain⟨k,hk,rfl,H⟩:=hrel
  by_cases B:k<8
  ·obtain⟨v,E⟩:=H.out.pk
   have G:=O E;clear E;have qm:=aC H.out.fs (Nl w.heap.size c.heap.size k B);have y:=Ql w.heap.size c.heap.size k B;have qq:(0:Int)≤(k:Int):=by omega
   have n:(k:Int)<8:=by omega
   go_wp2_with fail;refine(Qm k B wr L _ _ _ p v G.out).mono ?_;rintro e w2 h1;have qk:=O (H.out.next G.out h1);obtain⟨rfl,-⟩:=h1.end;clear y qm;go_wp2
   go_roundw
   case rel=>exact⟨k+1,by omega,by go_num,qk⟩
   case measure=>simp[intOf];omega
  ·obtain rfl:k=8:=by omega
   obtain⟨v,E⟩:=H.out.pk;rw[Pj L Y J.out] at E;have qn:=aC (i:=0) (v:=.pointer p) E.q rfl;have f:=O H.out.keep;have G:=O E;clear E H;have Q:=tV L Y;have t:=O Q;clear Q;go_wp2_with fail;refine(GX p wr _ v _ 0 G.wr G.len).mono ?_;rintro e w3 ⟨v3,rfl,b,A,r⟩;rw[if_pos rfl] at b;have D:=Rd.of_owns b;obtain⟨a3,c3,rfl,-,-⟩:=D.form;have HO:=O b;have HR:=O D;have qd:=O r;have qg:=O (f.trans A);have T:=A.size;have qo:w.heap.size≤wr.heap.size:=f.size;clear b D A r G qn;go_wp2_with fail;refine(yX _ (cE L) w3 HR.out (by rw[t.out];omega)).mono ?_;rintro e w4 ⟨rfl,U⟩;obtain⟨x,m⟩:=zX9 ((bU (cE L)).map vb)
   have z:x.length=32:=by rw[←m];simp[dB]
   have R:∀u∈x,u.oneCell'=true:=by rw[←m];exact bA _
   rw[m];have I:=O m;have qh:=O U;clear m U
   go_wp2_with (first
    | (refine aG rfl 31 rfl jP mX (Array.replicate 32 (.int .u8 0)) rfl ?_)
    | ((with_reducible show WL none (.store 31 (.tmp 10) (.tmp 43)));refine aE rfl 31 (.tmp 10) (.tmp 43) rfl w4.heap.size 0 x rfl rfl _ _ (heap_alloc_new _ _) (by rw[z];simp) (by rw[z];exact fZ) R ?_;intro w5 P V;have d:=O (Pk HO.out qh.out P V z);have qp:wr.heap.size≤w5.heap.size:=Nat.le_trans T d.2.2.size;clear P V)
    | (at_builtin;refine lI rfl (.tmp 44) (.tmp 45) 22 rfl wr.heap.size 5 _ 1 1 underlying22 eW rfl (by omega) (.slice a3 (cE L).length c3) (cE L).length _ rfl d.1 (.slice (w4.heap.size) 32 32) 32 x rfl d.2.1 R (by unfold maxLen;have:=t.out;omega) (by have:=t.out;omega) qp IsB AG (by rw[←I.out];exact Co _) (qd.keep d.2.2 (fun g hg=>⟨by obtain⟨cur,hc⟩:=aH HO.out hg;exact lt_of_block hc,id⟩)) ?_;intro v6 w6 a W qa ql S;obtain⟨a6,c6,rfl,-,-⟩:=(Rd.of_owns a).form;have qj:=O a;have qi:=O W;have qe:=O S;clear a W qa ql S))
   go_ret2
   refine⟨_,by rw[J.out];rfl,?_,?_,by simpa using qe.out⟩
   ·have h1:(dL L).length=(cE L).length+32:=by unfold dL;rw[J.out];simp[dB]
    have h2:(dL L).map vb=(cE L).map vb++x:=by unfold dL;rw[J.out,←I.out];simp
    rw[h1,h2];exact aQ qj.out qo
   ·exact(qg.trans d.2.2).tT qi.out (fun i hi e=>by have:=bG HO.out e;omega)
theorem Nn(L:Lab)(a:L.pool.length=32)(w:World):Calls prog 125 #[.agg L.cells.toArray] w (xP w L):=by
 rcases b:L.may with _|_
 ·exact Pl L a b w
 ·exact Nm L a b w
theorem Fe(L:Lab)(d:L.pool.length=32)(w:World):Calls prog 125 #[.agg L.cells.toArray] w (Fd w L):=
 (Nn L d w).mono fun _ _ ⟨v,a,b,c,_⟩=>⟨v,a,b,c⟩
end
section
def gK(b:List UInt8):Lab:=
 ⟨(b.drop 8).take 32,beN ((b.drop 40).take 1),beN ((b.drop 41).take 1),beN ((b.drop 42).take 1),beN ((b.drop 43).take 2),beN ((b.drop 45).take 5)⟩
def iY:Lab:=⟨List.replicate 32 0,0,0,0,0,0⟩
def qS(b:List UInt8):Lab×Int:=
 if b.length≠256 then (iY,4) else if b=List.replicate 256 0 then (iY,6)
 else if (gK b).may=true/\dL (gK b)=b then (gK b,0) else (iY,11)
theorem IL(b:List UInt8)(h:b.length=256):(gK b).pool.length=32:=by simp[gK,h]
theorem AL(l:List UInt8)(h:l.length≤1):(beN l:Int)≤255:=by
 have a:=EP l;have b:256 ^ l.length≤256 ^ 1:=Nat.pow_le_pow_right (by omega) h;omega
theorem xQ(L:Lab)(a:L.may=true):dL L=cE L++bU (cE L):=by unfold dL;rw[a];rfl
theorem xR(L:Lab)(a:L.pool.length=32)(b:L.may=true):(dL L).length=256:=by rw[xQ L b,List.length_append,tV L a,dB]
theorem Bv(L:Lab)(a:L.may=true):(dL L).take 8=cL:=by
 rw[xQ L a];unfold cE iX;simp only[List.append_assoc];rw[List.take_append_of_le_length (by decide)]
 decide
set_option linter.unusedVariables false
theorem Pm(n k:Nat):be n (k+1)=be (n / 256) k++[UInt8.ofNat n]:=by
 unfold be;rw[List.range_succ,List.map_append,List.map_cons,List.map_nil]
 congr 1
 ·refine List.map_congr_left fun j a=>?_
  rw[List.mem_range] at a;unfold jH;rw[show 8*(k+1-1-j)=8*(k-1-j)+8 by omega,Nat.pow_add,Nat.mul_comm,←Nat.div_div_eq_div_mul]
 ·unfold jH
  simp
theorem Qn(n:Nat):∀k,beN (be n k)=n % 256 ^ k:=by
 intro k
 induction k generalizing n with
 | zero=>simp[be,beN,Nat.mod_one]
 | succ k b =>
   rw[Pm,uX,b];have a:(UInt8.ofNat n).toNat=n % 256:=by simp
   rw[a,Nat.pow_succ,Nat.mul_comm (256 ^ k) 256,Nat.mod_mul];omega
theorem rJ{z:Int}{k:Nat}(h0:0≤z)(h:z<256 ^ k):(beN (be z.toNat k):Int)=z:=by
 rw[Qn,Nat.mod_eq_of_lt]
 ·exact Int.toNat_of_nonneg h0
 ·have:((z.toNat:Nat):Int)<((256 ^ k:Nat):Int):=by rw[Int.toNat_of_nonneg h0];simpa using h
  exact_mod_cast this
theorem hO{α:Type}(a m c:List α){i n:Nat}(b:a.length=i)(d:m.length=n):((a++m++c).drop i).take n=m:=by
 subst b;subst d;rw[List.append_assoc,List.drop_left,List.take_left]
theorem vH(L:Lab)(a:L.pool.length=32)(c:L.may=true):gK (dL L)=L:=by
 have h:=of_decide_eq_true c;obtain⟨pool,dev,devs,copies,sectors,life⟩:=L;dsimp only at a h;rw[xQ _ c];generalize bU (cE ⟨pool,dev,devs,copies,sectors,life⟩)=D;have b:cL.length=8:=rfl;have b1:∀z:Int,(be z.toNat 1).length=1:=fun z=>bK _ _
 have b2:(be sectors.toNat 2).length=2:=bK _ _;have b5:(be life.toNat 5).length=5:=bK _ _
 have k:cE ⟨pool,dev,devs,copies,sectors,life⟩++D=cL++pool++(be dev.toNat 1++be devs.toNat 1++be copies.toNat 1++be sectors.toNat 2++be life.toNat 5++List.replicate 174 0++D):=by
  simp only[cE,iX,List.append_assoc]
 have m:cE ⟨pool,dev,devs,copies,sectors,life⟩++D=(cL++pool)++be dev.toNat 1++(be devs.toNat 1++be copies.toNat 1++be sectors.toNat 2++be life.toNat 5++List.replicate 174 0++D):=by
  simp only[cE,iX,List.append_assoc]
 have n:cE ⟨pool,dev,devs,copies,sectors,life⟩++D=(cL++pool++be dev.toNat 1)++be devs.toNat 1++(be copies.toNat 1++be sectors.toNat 2++be life.toNat 5++List.replicate 174 0++D):=by
  simp only[cE,iX,List.append_assoc]
 have o:cE ⟨pool,dev,devs,copies,sectors,life⟩++D=(cL++pool++be dev.toNat 1++be devs.toNat 1)++be copies.toNat 1++(be sectors.toNat 2++be life.toNat 5++List.replicate 174 0++D):=by
  simp only[cE,iX,List.append_assoc]
 have q:cE ⟨pool,dev,devs,copies,sectors,life⟩++D=(cL++pool++be dev.toNat 1++be devs.toNat 1++be copies.toNat 1)++be sectors.toNat 2++(be life.toNat 5++List.replicate 174 0++D):=by
  simp only[cE,iX,List.append_assoc]
 have r:cE ⟨pool,dev,devs,copies,sectors,life⟩++D=(cL++pool++be dev.toNat 1++be devs.toNat 1++be copies.toNat 1++be sectors.toNat 2)++be life.toNat 5++(List.replicate 174 0++D):=by
  simp only[cE,iX,List.append_assoc]
 unfold gK;have d:((cE ⟨pool,dev,devs,copies,sectors,life⟩++D).drop 8).take 32=pool:=by rw[k];exact hO _ _ _ b a
 have d2:((cE ⟨pool,dev,devs,copies,sectors,life⟩++D).drop 40).take 1=be dev.toNat 1:=by rw[m];exact hO _ _ _ (by simp[b,a]) (b1 _)
 have f:((cE ⟨pool,dev,devs,copies,sectors,life⟩++D).drop 41).take 1=be devs.toNat 1:=by rw[n];exact hO _ _ _ (by simp[b,a,b1]) (b1 _)
 have g:((cE ⟨pool,dev,devs,copies,sectors,life⟩++D).drop 42).take 1=be copies.toNat 1:=by rw[o];exact hO _ _ _ (by simp[b,a,b1]) (b1 _)
 have i:((cE ⟨pool,dev,devs,copies,sectors,life⟩++D).drop 43).take 2=be sectors.toNat 2:=by rw[q];exact hO _ _ _ (by simp[b,a,b1]) b2
 have j:((cE ⟨pool,dev,devs,copies,sectors,life⟩++D).drop 45).take 5=be life.toNat 5:=by rw[r];exact hO _ _ _ (by simp[b,a,b1,b2]) b5
 rw[d,d2,f,g,i,j];rw[rJ (by omega) (by omega),rJ (by omega) (by omega),rJ (by omega) (by omega),rJ (by omega) (by omega),rJ (by omega) (by omega)]
theorem Ff(L:Lab)(b:L.pool.length=32)(a:L.may=true):qS (dL L)=(L,0):=by
 unfold qS;rw[if_neg (by rw[xR L b a];simp),if_neg,if_pos]
 ·rw[vH L b a]
 ·rw[vH L b a];exact⟨a,rfl⟩
 ·intro e
  have:=congrArg (fun l=>l.take 8) e;simp only[Bv L a] at this;revert this
  decide
end
section
open Go.RowKit
def Bw(w:World)(r:Lab×Int)(e:Ending)(w':World):Prop:=e=.returned (.tuple #[.agg r.1.cells.toArray,.int .i64 r.2])/\aA aB w w'
variable{w w':World}{v:Value}{base b2 b5 p at_:Nat}{bs:List UInt8}{fe fa:Int}{zc:List Value}{cs:Array Value}
theorem kZ(w:World):(zeroValue 112).run prog w=.ok (.agg iY.cells.toArray) w:=by kernel_rfl
theorem No(w:World):(Instr.build 112 #[]).run prog w=.ok (.agg iY.cells.toArray) w:=by kernel_rfl
theorem jT(L:Lab):∀u∈L.cells,u.oneCell'=true:=by
 intro u a;rcases List.mem_append.1 a with h|h
 ·exact bA _ u h
 ·simp[Lab.nums] at h
  rcases h with rfl|rfl|rfl|rfl|rfl<;>rfl
theorem IM(x y:Int)(w:World):(Instr.field 254 (.agg #[.int .i64 x,.int .i64 y]) 0).run prog w=.ok (.int .i64 x) w:=by kernel_rfl
theorem oQ:iY.cells.length=37:=rfl
theorem Np{n:Nat}(h:w.ownsRow base 5 1 v n (List.replicate n (.int .u8 0))):Rd w 1 v (List.replicate n (0:UInt8)).length ((List.replicate n (0:UInt8)).map vb):=by
 have:=Rd.of_owns h;rw[List.length_replicate,List.map_replicate];exact this
structure UpW(w wr:World)(b2 b5 base p:Nat)(v:Value)(bs:List UInt8)(at_:Nat)(fe fa:Int)(zc:List Value)(cs:Array Value):Prop where
 res:wr.heap[b2]?=some (.cells zc.toArray 112 (0,0))
 lab:wr.heap[b5]?=some (.cells cs 112 (0,0))
 rd:Rdr wr base p v bs at_ fe fa
 keep:aA aB w wr
 ne:b2≠b5
 lb:w.heap.size≤base
 l2:w.heap.size≤b2
 l5:w.heap.size≤b5
theorem UpW.same{wr:World}(h:UpW w wr b2 b5 base p v bs at_ fe fa zc cs)(k:aA aB wr w'):UpW w w' b2 b5 base p v bs at_ fe fa zc cs:=
 ⟨k.blk h.res id,k.blk h.lab id,h.rd.keep k id (fun _ _=>id),h.keep.trans k,h.ne,h.lb,h.l2,h.l5⟩
theorem UpW.read{wr:World}{a:Nat}{d c:Int}(h:UpW w wr b2 b5 base p v bs at_ fe fa zc cs)(k:aA (fun i=>i=p) wr w')(j:Rdr w' base p v bs a d c):UpW w w' b2 b5 base p v bs a d c zc cs:=by
 have g:∀i b,wr.heap[i]?=some (.cells b 112 (0,0))->¬i=p:=by
  rintro i b f rfl;rw[h.rd.blk] at f;cases f
 refine⟨k.blk h.res (g _ _ h.res),k.blk h.lab (g _ _ h.lab),j,h.keep.tT k (fun i f e=>?_),h.ne,h.lb,h.l2,h.l5⟩;have:=h.rd.le;have:=h.lb;omega
theorem UpW.put{wr:World}{a:Array Value}(h:UpW w wr b2 b5 base p v bs at_ fe fa zc cs)(k:aA (fun i=>i=b5) wr w')(d:w'.heap[b5]?=some (.cells a 112 (0,0))):UpW w w' b2 b5 base p v bs at_ fe fa zc a:=by
 have f:=h.l5;refine⟨k.blk h.res h.ne,d,h.rd.keep k ?_ (fun g c e=>?_),h.keep.tT k (fun i j e=>by omega),h.ne,h.lb,h.l2,h.l5⟩
 ·intro e
  have:=h.rd.blk;rw[e,h.lab] at this;cases this
 ·subst e
  obtain⟨cur,b⟩:=aH h.rd.own c;rw[h.lab] at b;cases b
theorem UpW.set{wr:World}(h:UpW w wr b2 b5 base p v bs at_ fe fa zc cs)(i:Nat)(u:Value):UpW w (wr.setCell ⟨b5,i,none⟩ u) b2 b5 base p v bs at_ fe fa zc (cs.setIfInBounds i u):=
 h.put ((aA.refl (fun i=>i=b5) wr).setCell (p:=⟨b5,i,none⟩) (fun _=>rfl) _) (cH h.lab i u)
def iM(P:List Value)(a b c d f:Int):Array Value:=(P++([.int .i64 a,.int .i64 b,.int .i64 c,.int .i64 d,.int .i64 f]:List Value)).toArray
theorem pH(P:List Value)(h:P.length=32)(a b c d f x:Int):(iM P a b c d f).setIfInBounds 32 (.int .i64 x)=iM P x b c d f/\(iM P a b c d f).setIfInBounds 33 (.int .i64 x)=iM P a x c d f /\
 (iM P a b c d f).setIfInBounds 34 (.int .i64 x)=iM P a b x d f/\(iM P a b c d f).setIfInBounds 35 (.int .i64 x)=iM P a b c x f/\(iM P a b c d f).setIfInBounds 36 (.int .i64 x)=iM P a b c d x:=by
 unfold iM;refine⟨?_,?_,?_,?_,?_⟩<;>rw[List.setIfInBounds_toArray,List.set_append_right _ _ (by omega),h]<;>rfl
theorem pI(P:List Value)(h:P.length=32)(a b c d f:Int)(i:Nat)(g:i<5):∃u,(iM P a b c d f)[32+i]?=some u:=by
 unfold iM;rw[List.getElem?_toArray,List.getElem?_append_right (by omega)];exact⟨_,List.getElem?_eq_getElem (by simp;omega)⟩
theorem KT(P:List Value)(h:P.length=32)(zc:List Value)(a:iY.cells=zc):spl zc.toArray 0 P=iM P 0 0 0 0 0:=by
 subst a;apply Array.ext_getElem?;intro j;rw[jR _ _ _ _ (by rw[h];decide),h];unfold iM;simp only[List.getElem?_toArray]
 by_cases b:j<32
 ·rw[if_pos (by omega),List.getElem?_append_left (by omega)];rfl
 ·rw[if_neg (by omega),List.getElem?_append_right (by omega),h]
  show (List.replicate 32 (Value.int .u8 0)++[.int .i64 0,.int .i64 0,.int .i64 0,.int .i64 0,.int .i64 0])[j]?=_;rw[List.getElem?_append_right (by simp;omega)];simp
theorem KU(w:World)(bv:Value)(b:List UInt8)(hr:Rd w 1 bv b.length (b.map vb))(hl:b.length=256)(hz:¬b=List.replicate 256 0)(h3:(gK b).sectors≤4096)(h4:(gK b).life≤2147483648)(hm:(gK b).may=true)(r:dL (gK b)=b) :
 Calls prog 113 #[bv] w (Bw w (qS b)):=by
 have xr:∀g,bv.ownBlock=some g->g<w.heap.size:=by
  obtain⟨k,hk,Y⟩:=hr.lt (by simp;omega);intro g hg;rw[hg] at hk;cases hk;exact Y
 obtain⟨a,c,hv,-,-⟩:=hr.form;rw[hl] at hv;subst hv;have HR:=O hr;have H3:=O h3;have H4:=O h4;have HM:=O hm;have HQ:=O r;clear h3 h4 hm r;clear hr;obtain⟨zc,qf,qg,xt⟩:∃zc,iY.cells=zc/\zc.length=37/\∀u∈zc,u.oneCell'=true:=⟨_,rfl,rfl,jT _⟩
 have z1:∀w,(zeroValue 112).run prog w=.ok (.agg zc.toArray) w:=by rw[←qf];exact kZ
 have xp:∀w,(Instr.build 112 #[]).run prog w=.ok (.agg zc.toArray) w:=by rw[←qf];exact No
 have HZ:=O qf;clear qf;have V:=O hl;clear hl;go_in
 go_wp2_with (first
  | (refine aG rfl 112 rfl _ z1 zc.toArray rfl ?_)
  | ((with_reducible show WL (some 15) (.makeSlice _ _ _));refine gC rfl (.const (.int .i64 256)) (.const (.int .i64 256)) 22 rfl w.heap.size 5 (.int .u8 0) 1 underlying22 eW rfl 256 rfl rfl (by omega) (by unfold maxLen;omega) (by simp) ?_;intro E s Y;rw[World.size_alloc] at s;have zk:=O (Np s);have qw:=O Y;clear s Y))
 have qn:aA aB w E:=((aA.refl aB w).alloc _).trans qw.out;have qt:E.heap[w.heap.size]?=some (.cells zc.toArray 112 (0,0)):=qw.blk (heap_alloc_new _ _) id;have qj:=O qt;have n:=O qn;clear qt qn;have zx:decide (b=List.replicate 256 0)=false:=by simpa using hz
 refine(nY E _ _ b (List.replicate 256 0) (HR.keep n.out fun _ _=>id) zk.out false zx).mono ?_;rintro e w3 ⟨rfl,rfl⟩;have qr:=IL b V.out;have HP:=O qr;have xa:=O hz;clear hz zx qr qw zk;go_wp2_with fail;refine(sC _ b E (HR.keep n.out fun _ _=>id) (by rw[V.out];omega)).mono ?_;rintro e w3 ⟨p,v,rfl,d,za⟩;have T:=za.blk qj.out id;have qo:=n.trans za;have xc:=n.size;have I:=O d;have H:=O T;have zi:=O qo;clear d za T qo qj n;go_wp2_with fail;refine(tP w3 E.heap.size p v b 0 0 I.out 8 (by omega) (by rw[V.out];omega)).mono ?_;rintro e w4 ⟨v4,rfl,-,d,zb⟩;have zy:w.heap.size≠p:=by have:=I.le;have:=lt_of_block H.out;intro e;rw[e,I.blk] at H;cases H.out
 have U:=zb.blk H.out zy;have xd:w.heap.size≤p:=by have:=I.le;omega
 have qp:aA aB w w4:=zi.tT zb (fun i hi e=>by omega);have qh:=O d;have qz:=O U;have qx:=O qp;clear d zb U qp I H zi zy
 go_wp2_with (first
  | (refine aG rfl 112 rfl _ z1 zc.toArray rfl ?_))
 have U5:UpW w ((w4.alloc (.cells zc.toArray 112)).drew) w.heap.size w4.heap.size E.heap.size p v b 8 0 0 zc zc.toArray:=by
  have K:aA aB w4 ((w4.alloc (.cells zc.toArray 112)).drew):=((aA.refl _ _).alloc _).drew;have xk:=lt_of_block qz.out;exact⟨K.blk qz.out id,heap_alloc_new w4 _,qh.keep K id (fun _ _=>id),qx.trans K,by omega,xc,Nat.le_refl _,qx.size⟩
 obtain⟨b5,zt⟩:=zX9 w4.heap.size
 refine wp_region_any (by kernel_rfl) ?_;obtain⟨w5,zz⟩:=zX9 ((w4.alloc (.cells zc.toArray 112)).drew)
 change wpAny _ _ _ _ _ _ _ ((w4.alloc (.cells zc.toArray 112)).drew);rw[zz] at U5 ⊢;rw[zt] at U5 ⊢;have q1:=O U5;clear U5 qh qz qx zz zt xd;refine wpAny_take (i:=0) (v:=.pointer (some ⟨b5,0,none⟩)) rfl (by kernel_rfl) (by kernel_rfl) (by kernel_rfl) (fun _ _ _ h=>h) (.inl ⟨by rfl,fun w'=>?_⟩) ?_
 ·go_simp
 refine wpAny_take (i:=1) (v:=.slice (some ⟨b5,0,none⟩) 32 32) rfl (by kernel_rfl) (by kernel_rfl) (by kernel_rfl) (fun _ _ _ h=>h) (.inl ⟨by rfl,fun w'=>?_⟩) ?_
 ·go_simp
 refine wpAny_take (i:=2) (v:=.pointer p) rfl (by kernel_rfl) (by kernel_rfl) (by kernel_rfl) (fun _ _ _ h=>h) (.inl ⟨by rfl,fun w'=>rfl⟩) ?_;refine CG (k:=3) rfl (by kernel_rfl) ?_;go_wp2_with fail;refine(tP w5 E.heap.size p v b 8 0 q1.rd 32 (by omega) (by rw[V.out];omega)).mono ?_;rintro e w6 ⟨v6,rfl,qq,d,zu⟩;have B:Rd w6 1 v6 32 ((gK b).pool.map vb):=Rd.of_owns qq;obtain⟨a6,c6,rfl,-,-⟩:=B.form;have U6:=q1.read zu d;obtain⟨P,hP⟩:=zX9 ((gK b).pool.map vb)
 have j:P.length=32:=by rw[←hP];simp[HP.out]
 have xb:∀u∈P,u.oneCell'=true:=by rw[←hP];exact bA _
 rw[hP] at B;have z6:=O hP;have q3:=O U6;have qi:=O B;clear hP U6 B qq d zu q1;go_wp2_with fail;refine CG (k:=4) rfl (by kernel_rfl) ?_;refine nT rfl (.tmp 23) (.tmp 25) 22 22 rfl 5 underlying22 Ei b5 0 32 32 rfl _ 32 P rfl qi.out 32 rfl zc.toArray _ q3.lab (by simp[qg]) xb ?_;intro w7 q9 zv;rw[List.take_of_length_le (by rw[j];exact Nat.le_refl _),KT P j zc HZ.out] at q9;have q4:=O (q3.put zv q9);clear q9 zv;refine wpList_nil ?_;refine wpAny_done (by kernel_rfl) ?_ _;clear q3 qi;obtain⟨y,Z⟩:=zX9 (beN ((b.drop 40).take 1))
 have zl:=O Z;obtain⟨C,qa⟩:=zX9 (beN ((b.drop 41).take 1))
 have zm:=O qa;obtain⟨F,qc⟩:=zX9 (beN ((b.drop 42).take 1))
 have zn:=O qc;obtain⟨W,qd⟩:=zX9 (beN ((b.drop 43).take 2))
 have zo:=O qd;obtain⟨x4,qe⟩:=zX9 (beN ((b.drop 45).take 5))
 have zp:=O qe;have l0:(y:Int)≤255:=by rw[←Z];exact AL _ (by simp;omega)
 have l1:(C:Int)≤255:=by rw[←qa];exact AL _ (by simp;omega)
 have l2:(F:Int)≤255:=by rw[←qc];exact AL _ (by simp;omega)
 have G:=O (show gK b=⟨(gK b).pool,y,C,F,W,x4⟩ by rw[←Z,←qa,←qc,←qd,←qe];rfl);have xl:=O qd;have xm:=O qe;clear Z qa qc qd qe;go_wp2_with fail;refine(iF w7 E.heap.size p v b 40 0 q4.rd 1 0 255 (by omega) (by omega) (by rw[V.out];omega) y zl.out).mono ?_;rintro e w8 ⟨f,r⟩;rw[if_pos ⟨by omega,l0⟩] at r;obtain⟨rfl,d⟩:=r;have q5:=O (q4.read f d);clear f d q4;go_wp2_with fail;refine(iF w8 E.heap.size p v b 41 0 q5.rd 1 0 255 (by omega) (by omega) (by rw[V.out];omega) C zm.out).mono ?_;rintro e w9 ⟨f,r⟩;rw[if_pos ⟨by omega,l1⟩] at r;obtain⟨rfl,d⟩:=r;have q7:=O (q5.read f d);clear f d q5;go_wp2_with fail;refine(iF w9 E.heap.size p v b 42 0 q7.rd 1 0 255 (by omega) (by omega) (by rw[V.out];omega) F zn.out).mono ?_;rintro e xe ⟨f,r⟩;rw[if_pos ⟨by omega,l2⟩] at r;obtain⟨rfl,d⟩:=r;have m:=O (q7.read f d);clear f d q7;have X:=((m.set 32 (.int .i64 y)).set 33 (.int .i64 C)).set 34 (.int .i64 F);rw[(pH P j 0 0 0 0 0 y).1,(pH P j y 0 0 0 0 C).2.1,(pH P j y C 0 0 0 F).2.2.1] at X;obtain⟨u0,g0⟩:=pI P j 0 0 0 0 0 0 (by omega);obtain⟨u1,g1⟩:=pI P j 0 0 0 0 0 1 (by omega);obtain⟨u2,g2⟩:=pI P j 0 0 0 0 0 2 (by omega);have k0:=aC m.lab g0;have k1:=aC m.lab g1;have k2:=aC m.lab g2;have kf:=fun i=>bP m.lab i
 obtain⟨zd,qu⟩:=zX9 (((xe.setCell ⟨b5,32,none⟩ (.int .i64 y)).setCell ⟨b5,33,none⟩ (.int .i64 C)).setCell ⟨b5,34,none⟩ (.int .i64 F))
 rw[qu] at X;have J:=O X;clear X g0 g1 g2;simp only[Nat.add_zero,Nat.reduceAdd] at k0 k1 k2;go_wp2_with fail;clear k0 k1 k2 kf qu m;have l3:(W:Int)≤4096:=by have:=H3.out;rw[G.out] at this;exact this
 have l4:(x4:Int)≤2147483648:=by have:=H4.out;rw[G.out] at this;exact this
 go_wp2_with fail;refine(iF zd E.heap.size p v b 43 0 J.rd 2 0 4096 (by omega) (by omega) (by rw[V.out];omega) W zo.out).mono ?_;rintro e xf ⟨f,r⟩;rw[if_pos ⟨by omega,l3⟩] at r;obtain⟨rfl,d⟩:=r;have M:=O (J.read f d);clear f d J;go_wp2_with fail;refine(iF xf E.heap.size p v b 45 0 M.rd 5 0 2147483648 (by omega) (by omega) (by rw[V.out];omega) x4 zp.out).mono ?_;rintro e xg ⟨f,r⟩;rw[if_pos ⟨by omega,l4⟩] at r;obtain⟨rfl,d⟩:=r;have o:=O (M.read f d);clear f d M;have D:=(o.set 35 (.int .i64 W)).set 36 (.int .i64 x4);rw[(pH P j y C F 0 0 W).2.2.2.1,(pH P j y C F W 0 x4).2.2.2.2] at D;obtain⟨u3,g3⟩:=pI P j y C F 0 0 3 (by omega);obtain⟨u4,g4⟩:=pI P j y C F 0 0 4 (by omega);have k3:=aC o.lab g3;have k4:=aC o.lab g4;have kf:=fun i=>bP o.lab i
 obtain⟨ze,qv⟩:=zX9 ((xg.setCell ⟨b5,35,none⟩ (.int .i64 W)).setCell ⟨b5,36,none⟩ (.int .i64 x4))
 rw[qv] at D;obtain⟨L,hL,zr,zq⟩:∃L:Lab,iM P y C F W x4=L.cells.toArray/\L.pool.length=32/\L=⟨(gK b).pool,y,C,F,W,x4⟩:=⟨⟨(gK b).pool,y,C,F,W,x4⟩,by rw[←z6.out];rfl,HP.out,rfl⟩
 rw[hL] at D;obtain⟨lc,S⟩:=zX9 L.cells
 have q:lc.length=37:=by rw[←S];exact L.cells_length zr
 have zw:∀u∈lc,u.oneCell'=true:=by rw[←S];exact jT L
 rw[S] at D;have N:=O D;have zj:=O S;have z2:=O zq;clear D g3 g4 hL S zq;simp only[Nat.reduceAdd] at k3 k4
 go_wp2_with (first
  | ((with_reducible show WL (some 43) (.load 112 (.tmp 5)));refine wpList_load_mid rfl 112 (.tmp 5) rfl b5 0 rfl lc _ (aD N.lab) underlying112 rfl (by rw[q];exact gF) ?_))
 clear k3 k4 kf qv o;have CP:=Fe L zr ze;rw[zj.out] at CP;refine CP.mono ?_;clear CP;rintro e xh ⟨xu,rfl,A,ql⟩;have Q:=O (N.same ql);have t:=Rd.of_owns A;obtain⟨xn,xo,rfl,-,-⟩:=t.form;have q0:=O t;clear A ql t N;have qy:=O (show L=gK b by rw[z2.out];exact G.symm);have z7:=O (show qS b=(gK b,0) by unfold qS;rw[if_neg (by rw[V.out];simp),if_neg xa.out,if_pos ⟨HM.out,HQ.out⟩]);rw[show L.may=true by rw[qy.out];exact HM.out];have xq:=IM;go_wp2_with fail;refine(xG xh E.heap.size p v b _ _ _ Q.rd).mono ?_;rintro e xi ⟨rfl,R⟩;have z:=O (Q.same R);have zg:=O R;clear R Q;go_wp2_with fail;refine(nY xi _ _ (dL L) b (q0.keep zg.out fun _ _=>id) (HR.keep z.keep fun _ _=>id) true (by rw[qy.out];exact decide_eq_true HQ.out)).mono ?_;rintro e xj ⟨rfl,rfl⟩
 go_wp2_with (first
  | ((with_reducible show WL (some 62) (.load 112 (.tmp 5)));refine wpList_load_mid rfl 112 (.tmp 5) rfl b5 0 rfl lc _ (aD z.lab) underlying112 rfl (by rw[q];exact gF) ?_)
  | ((with_reducible show WL none (.store 112 (.tmp 2) (.tmp 62)));refine aE rfl 112 (.tmp 2) (.tmp 62) rfl w.heap.size 0 lc rfl rfl _ _ z.res (by rw[q];simp[qg]) (by rw[q];exact gF) zw ?_;intro xj qk qm;have zf:=O qk;have zh:=O qm;clear qk qm))
 refine bodyPost_ret (bO rfl _ _ w.heap.size _ _ _ _ rfl zf.out underlying112 rfl (by rw[cU,List.size_toArray,qg];exact gF)) rfl ⟨?_,?_⟩
 ·rw[aI _ _ (by rw[q];simp[qg]),z7.out,←zj.out,qy.out];rfl
 ·exact z.keep.tT zh.out (fun i hi e=>by omega)
theorem DT(w:World)(d:Value)(L:Lab)(g:L.pool.length=32)(a:L.may=true)(b:List UInt8)(h:b=dL L)(i:Rd w 1 d b.length (b.map vb)):Calls prog 113 #[d] w (Bw w (qS b)):=by
 subst h;have c:=vH L g a;have f:=a;unfold Lab.may at f;simp only[decide_eq_true_eq] at f;refine KU w d _ i (xR L g a) (fun e=>?_) (by rw[c];omega) (by rw[c];omega) (by rw[c];exact a) (by rw[c]);have:=congrArg (fun l=>l.take 8) e;simp only[Bv L a] at this;revert this
 decide
end
end Go.Proofs.YtoeinblfcbpcmaaGreatDoor
