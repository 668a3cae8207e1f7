import Derived.Test.YtiinnfhjpaeffaaGreatW1
import Derived.Test.YtiinnfhjpaeffaaGreatW16
import Derived.Lib.SlBytesConst
namespace Go.Proofs.YtiinnfhjpaeffaaGreat
set_option maxHeartbeats 64000000
set_option maxRecDepth 100000
set_option linter.unusedVariables false
section
open Go.RowKit
structure PkW(w:World)(L:Lab)(b1 b5 base p:Nat)(v:Value)(l:List UInt8)(e:Int):Prop where
 pool:L.pool.length=32
 lab:w.heap[b1]?=some (.cells L.cells.toArray 192 (0,0))
 q:w.heap[b5]?=some (.cells #[.pointer (some ⟨p,0,none⟩)] 214 (0,0))
 wr:Wr w base p v l e
 len:l.length≤65536
theorem PkW.cells{w:World}{L:Lab}{b1 b5 base p:Nat}{v:Value}{l:List UInt8}{e:Int}(h:PkW w L b1 b5 base p v l e) :
 w.cell? ⟨b5,0,none⟩=some (.pointer (some ⟨p,0,none⟩))/\w.cell? ⟨b1,32,none⟩=some (.int .i64 L.dev)/\w.cell? ⟨b1,33,none⟩=some (.int .i64 L.devs)/\w.cell? ⟨b1,34,none⟩=some (.int .i64 L.copies) /\
 w.cell? ⟨b1,35,none⟩=some (.int .i64 L.sectors)/\w.cell? ⟨b1,36,none⟩=some (.int .i64 L.life):=by
 obtain⟨c0,c1,c2,c3,c4⟩:=L.at h.pool;exact⟨aC h.q rfl,aC h.lab c0,aC h.lab c1,aC h.lab c2,aC h.lab c3,aC h.lab c4⟩
theorem PkW.same{w w':World}{L:Lab}{b1 b5 base p:Nat}{v:Value}{l:List UInt8}{e:Int}(h:PkW w L b1 b5 base p v l e)(k:aA aB w w'):PkW w' L b1 b5 base p v l e:=
 ⟨h.pool,k.blk h.lab id,k.blk h.q id,h.wr.keep k id (fun _ _=>id),h.len⟩
theorem PkW.rd{w:World}{L:Lab}{b1 b5 base p:Nat}{v:Value}{l:List UInt8}{e:Int}(h:PkW w L b1 b5 base p v l e):Rd w 1 (.slice (some ⟨b1,0,none⟩) 32 32) L.pool.length (L.pool.map vb):=by
 refine⟨by simp,_,32,by rw[h.pool],by rw[h.pool];omega,by unfold maxLen;omega,(by intro h;cases h),fun _=>⟨b1,0,rfl,fun i u hu=>?_⟩⟩
 have hi:i<32:=by
  rw[←h.pool];have:=(List.getElem?_eq_some_iff.1 hu).1
  simpa using this
 rw[Nat.zero_add];exact aC h.lab (by rw[List.getElem?_toArray,L.cells_pool h.pool i hi];exact hu)
theorem dN.end{w:World}{base p:Nat}{v:Value}{r:List UInt8×Int}{e:Ending}{w':World}(h:dN w base p v r e w'):e=.returned (.tuple #[])/\Hid (dN w base p v r (.returned (.tuple #[])) w'):=
 ⟨h.1,O ⟨rfl,h.2⟩⟩
theorem Nr(w:World)(l:List UInt8)(t:TypeId)(fr:Nat×Nat)(h:l.length≤maxLen):Rd (w.alloc (.cells (l.map vb).toArray t fr)) 1 (.slice (some ⟨w.heap.size,0,none⟩) l.length l.length) l.length (l.map vb):=by
 refine⟨by simp,_,_,rfl,Nat.le_refl _,h,(by intro h;cases h),fun _=>⟨_,0,rfl,fun i u hu=>?_⟩⟩;rw[Nat.zero_add];exact aC (heap_alloc_new _ _) (by rw[List.getElem?_toArray];exact hu)
theorem pk1(w:World)(L:Lab)(b1 b5 base p:Nat)(v:Value)(l:List UInt8)(e:Int)(h:PkW w L b1 b5 base p v l e) :
 Calls Tryz.prog 169 #[.pointer (some ⟨b5,0,none⟩)] w (dN w base p v (wst (l,e) (bU,0))):=by
 obtain⟨cq,c0,c1,c2,c3,c4⟩:=h.cells;have kc:=fun(w:World) (C:Array Value) (n c:Nat)=>Lib.run_convert_bytes_const (P:=Tryz.prog) w 109 5 C n c Tryz.underlying109 Tryz.underlying5
 have H:=O h;clear h;go_in;go_wp2_with fail;have K:aA aB w (w.alloc (.cells (bU.map vb).toArray 5 (8,9))):=(aA.refl _ _).alloc _;refine(rI p _ bU (w.alloc (.cells (bU.map vb).toArray 5 (8,9))) base v l e (H.out.same K).wr H.out.len (Nr w bU 5 (8,9) (by decide)) (by decide)).mono ?_;rintro e w1 h1;obtain⟨rfl,h2⟩:=h1.end;go_wp2_with fail
 go_end0
 exact dN.of K h2.out
theorem pk2(w:World)(L:Lab)(b1 b5 base p:Nat)(v:Value)(l:List UInt8)(e:Int)(h:PkW w L b1 b5 base p v l e) :
 Calls Tryz.prog 170 #[.pointer (some ⟨b5,0,none⟩),.pointer (some ⟨b1,0,none⟩)] w (dN w base p v (wst (l,e) (L.pool,0))):=by
 obtain⟨cq,c0,c1,c2,c3,c4⟩:=h.cells;have H:=O h;clear h;go_in;go_wp2_with fail
 go_still_tail 3,(by kernel_rfl)
 go_wp2_with fail;refine(rI p _ L.pool w.drew base v l e (H.out.same (aA.refl aB w).drew).wr H.out.len (H.out.same (aA.refl aB w).drew).rd (by rw[H.out.pool];omega)).mono ?_;rintro e w1 h1;obtain⟨rfl,h2⟩:=h1.end;go_wp2_with fail
 go_end0
 exact dN.of (aA.refl aB w).drew h2.out
theorem pk3(w:World)(L:Lab)(b1 b5 base p:Nat)(v:Value)(l:List UInt8)(e:Int)(h:PkW w L b1 b5 base p v l e) :
 Calls Tryz.prog 171 #[.pointer (some ⟨b5,0,none⟩),.pointer (some ⟨b1,0,none⟩)] w (dN w base p v (wst (l,e) (eK L.dev 1))):=by
 obtain⟨cq,c0,c1,c2,c3,c4⟩:=h.cells;have C:=O (mH p L.dev 1 w base v l e h.wr h.len);clear h;go_in;go_wp2_with fail;refine C.out.mono ?_;rintro e w1 h1;obtain⟨rfl,h2⟩:=h1.end;go_wp2_with fail
 go_end0
 exact h2.out
theorem pk4(w:World)(L:Lab)(b1 b5 base p:Nat)(v:Value)(l:List UInt8)(e:Int)(h:PkW w L b1 b5 base p v l e) :
 Calls Tryz.prog 172 #[.pointer (some ⟨b5,0,none⟩),.pointer (some ⟨b1,0,none⟩)] w (dN w base p v (wst (l,e) (eK L.devs 1))):=by
 obtain⟨cq,c0,c1,c2,c3,c4⟩:=h.cells;have C:=O (mH p L.devs 1 w base v l e h.wr h.len);clear h;go_in;go_wp2_with fail;refine C.out.mono ?_;rintro e w1 h1;obtain⟨rfl,h2⟩:=h1.end;go_wp2_with fail
 go_end0
 exact h2.out
theorem pk5(w:World)(L:Lab)(b1 b5 base p:Nat)(v:Value)(l:List UInt8)(e:Int)(h:PkW w L b1 b5 base p v l e) :
 Calls Tryz.prog 173 #[.pointer (some ⟨b5,0,none⟩),.pointer (some ⟨b1,0,none⟩)] w (dN w base p v (wst (l,e) (eK L.copies 1))):=by
 obtain⟨cq,c0,c1,c2,c3,c4⟩:=h.cells;have C:=O (mH p L.copies 1 w base v l e h.wr h.len);clear h;go_in;go_wp2_with fail;refine C.out.mono ?_;rintro e w1 h1;obtain⟨rfl,h2⟩:=h1.end;go_wp2_with fail
 go_end0
 exact h2.out
theorem pk6(w:World)(L:Lab)(b1 b5 base p:Nat)(v:Value)(l:List UInt8)(e:Int)(h:PkW w L b1 b5 base p v l e) :
 Calls Tryz.prog 174 #[.pointer (some ⟨b5,0,none⟩),.pointer (some ⟨b1,0,none⟩)] w (dN w base p v (wst (l,e) (eK L.sectors 2))):=by
 obtain⟨cq,c0,c1,c2,c3,c4⟩:=h.cells;have C:=O (mH p L.sectors 2 w base v l e h.wr h.len);clear h;go_in;go_wp2_with fail;refine C.out.mono ?_;rintro e w1 h1;obtain⟨rfl,h2⟩:=h1.end;go_wp2_with fail
 go_end0
 exact h2.out
theorem pk7(w:World)(L:Lab)(b1 b5 base p:Nat)(v:Value)(l:List UInt8)(e:Int)(h:PkW w L b1 b5 base p v l e) :
 Calls Tryz.prog 175 #[.pointer (some ⟨b5,0,none⟩),.pointer (some ⟨b1,0,none⟩)] w (dN w base p v (wst (l,e) (eK L.life 5))):=by
 obtain⟨cq,c0,c1,c2,c3,c4⟩:=h.cells;have C:=O (mH p L.life 5 w base v l e h.wr h.len);clear h;go_in;go_wp2_with fail;refine C.out.mono ?_;rintro e w1 h1;obtain⟨rfl,h2⟩:=h1.end;go_wp2_with fail
 go_end0
 exact h2.out
theorem pk8(w:World)(L:Lab)(b1 b5 base p:Nat)(v:Value)(l:List UInt8)(e:Int)(h:PkW w L b1 b5 base p v l e) :
 Calls Tryz.prog 176 #[.pointer (some ⟨b5,0,none⟩)] w (dN w base p v (wst (l,e) (iL 224 l))):=by
 obtain⟨cq,c0,c1,c2,c3,c4⟩:=h.cells;have C:=O (EJ p 224 w base v l e h.wr h.len);clear h;go_in;go_wp2_with fail;refine C.out.mono ?_;rintro e w1 h1;obtain⟨rfl,h2⟩:=h1.end;go_wp2_with fail
 go_end0
 exact h2.out
def F7:Nat->Nat
 | 0=>169
 | 1=>170
 | 2=>171
 | 3=>172
 | 4=>173
 | 5=>174
 | 6=>175
 | _=>176
def B7(b1 b5:Nat):Nat->Array Value
 | 0=>#[.pointer (some ⟨b5,0,none⟩)]
 | 7=>#[.pointer (some ⟨b5,0,none⟩)]
 | _=>#[.pointer (some ⟨b5,0,none⟩),.pointer (some ⟨b1,0,none⟩)]
theorem Ns(b1 b5 k:Nat)(hk:k<8):∀w,Sem.run Tryz.prog (callFunc (F7 k) (B7 b1 b5 k)) w=.ok (.enter (F7 k) (B7 b1 b5 k)) w:=by
 intro w;have h:k=0\/k=1\/k=2\/k=3\/k=4\/k=5\/k=6\/k=7:=by omega
 rcases h with rfl|rfl|rfl|rfl|rfl|rfl|rfl|rfl<;>rfl
theorem Nt(k:Nat)(hk:k<8)(w:World)(L:Lab)(b1 b5 base p:Nat)(v:Value)(h:PkW w L b1 b5 base p v (dH L k).1 (dH L k).2) :
 Calls Tryz.prog (F7 k) (B7 b1 b5 k) w (dN w base p v (dH L (k+1))):=by
 have h8:k=0\/k=1\/k=2\/k=3\/k=4\/k=5\/k=6\/k=7:=by omega
 rcases h8 with rfl|rfl|rfl|rfl|rfl|rfl|rfl|rfl
 ·exact pk1 w L b1 b5 base p v _ _ h
 ·exact pk2 w L b1 b5 base p v _ _ h
 ·exact pk3 w L b1 b5 base p v _ _ h
 ·exact pk4 w L b1 b5 base p v _ _ h
 ·exact pk5 w L b1 b5 base p v _ _ h
 ·exact pk6 w L b1 b5 base p v _ _ h
 ·exact pk7 w L b1 b5 base p v _ _ h
 ·exact pk8 w L b1 b5 base p v _ _ h
def dW(L:Lab):List UInt8:=if L.may then bQ L++cR (bQ L) else []
def Df(w:World)(L:Lab)(e:Ending)(w':World):Prop:=
 ∃v,e=.returned (.tuple #[v,.int .i64 (if L.may then 0 else 2)])/\w'.ownsRow w.heap.size 5 1 v (dW L).length ((dW L).map vb)/\aA aB w w'
def uQ(w:World)(L:Lab)(e:Ending)(w':World):Prop:=
 ∃v,e=.returned (.tuple #[v,.int .i64 (if L.may then 0 else 2)])/\w'.ownsRow w.heap.size 5 1 v (dW L).length ((dW L).map vb)/\aA aB w w'/\Fit IsB w' v
theorem fV:(Tryz.prog.info? 192).map (·.size)=some 37:=by kernel_rfl
def F8(b1 b5:Nat):Array Value:=#[.func (.func 169) #[] #[.pointer (some ⟨b5,0,none⟩)],
 .func (.func 170) #[] #[.pointer (some ⟨b5,0,none⟩),.pointer (some ⟨b1,0,none⟩)],.func (.func 171) #[] #[.pointer (some ⟨b5,0,none⟩),.pointer (some ⟨b1,0,none⟩)],
 .func (.func 172) #[] #[.pointer (some ⟨b5,0,none⟩),.pointer (some ⟨b1,0,none⟩)],.func (.func 173) #[] #[.pointer (some ⟨b5,0,none⟩),.pointer (some ⟨b1,0,none⟩)],
 .func (.func 174) #[] #[.pointer (some ⟨b5,0,none⟩),.pointer (some ⟨b1,0,none⟩)],.func (.func 175) #[] #[.pointer (some ⟨b5,0,none⟩),.pointer (some ⟨b1,0,none⟩)],
 .func (.func 176) #[] #[.pointer (some ⟨b5,0,none⟩)]]
theorem Kx(b1 b5 k:Nat)(hk:k<8):(F8 b1 b5)[k]?=some (.func (.func (F7 k)) #[] (B7 b1 b5 k)):=by
 have h:k=0\/k=1\/k=2\/k=3\/k=4\/k=5\/k=6\/k=7:=by omega
 rcases h with rfl|rfl|rfl|rfl|rfl|rfl|rfl|rfl<;>rfl
structure PkR(w wr:World)(L:Lab)(b1 b5 b6 base p k:Nat):Prop where
 pk:∃v,PkW wr L b1 b5 base p v (dH L k).1 (dH L k).2
 fs:wr.heap[b6]?=some (.cells (F8 b1 b5) 1 (0,0))
 keep:aA aB w wr
 le:w.heap.size≤base
theorem PkR.next{w wr w2:World}{L:Lab}{b1 b5 b6 base p k:Nat}{v:Value}(h:PkR w wr L b1 b5 b6 base p k)(hv:PkW wr L b1 b5 base p v (dH L k).1 (dH L k).2){e:Ending}
 (hp:dN wr base p v (dH L (k+1)) e w2):PkR w w2 L b1 b5 b6 base p (k+1):=by
 obtain⟨-,v',hw',hk,-⟩:=hp
 have hne:∀i cs t fr,wr.heap[i]?=some (.cells cs t fr)->t≠5->t≠271->¬(i=p\/v.ownBlock=some i):=by
  intro i cs t fr hi h1 h2 h3;rcases h3 with rfl|h3
  ·rw[hv.wr.blk] at hi;cases hi;exact h2 rfl
  ·obtain⟨cur,hc⟩:=aL hv.wr.own h3
   rw[hc] at hi;cases hi;exact h1 rfl
 refine⟨⟨v',hv.pool,hk.blk hv.lab (hne _ _ _ _ hv.lab (by decide) (by decide)),hk.blk hv.q (hne _ _ _ _ hv.q (by decide) (by decide)),hw',De L (k+1)⟩,
  hk.blk h.fs (hne _ _ _ _ h.fs (by decide) (by decide)),?_,h.le⟩
 refine h.keep.trans' hk (fun _ _ h=>h) (fun i hi h3=>?_);have:=h.le;rcases h3 with rfl|h3
 ·have:=hv.wr.le;omega
 ·rcases hv.wr.own.2 with⟨h1,-⟩|⟨g,cap,cur,h1,hb,-⟩
  ·rw[h1] at h3;cases h3
  ·rw[h1] at h3
   have:g=i:=by simpa [Value.ownBlock] using h3
   omega
theorem Mo{w3 w4 w5:World}{base n:Nat}{v3:Value}{l ds:List Value}{o:Obj}(ho:w3.ownsRow base 5 1 v3 n l)(hk4:aA aB w3 w4)
 (hb5:w5.heap[w4.heap.size]?=some (.cells (spl (Array.replicate 32 (.int .u8 0)) 0 ds) 25 (0,0))) (hk5:aA (fun k=>k=w4.heap.size) (w4.alloc o) w5) (hdl:ds.length=32) :
 w5.ownsRow base 5 1 v3 n l/\Rd w5 1 (.slice (some ⟨w4.heap.size,0,none⟩) 32 32) 32 ds/\aA aB w3 w5:=by
 refine⟨?_,?_,(hk4.alloc o).trans' hk5 (fun _ _ h=>h) (fun i hi e=>by have:=hk4.size;omega)⟩
 ·refine hk5.owns ((hk4.alloc o).owns ho fun _ _=>id) (fun k hk e=>?_)
  obtain⟨cur,hc⟩:=aL (hk4.owns ho fun _ _=>id) hk;have:=lt_of_block hc;omega
 ·refine⟨by simpa using hdl,_,32,rfl,Nat.le_refl _,by unfold maxLen;omega,(by intro h;cases h),fun _=>⟨_,0,rfl,fun i u hu=>?_⟩⟩
  rw[Nat.zero_add];refine aC hb5 ?_;rw[aI _ _ (by simpa using hdl)]
  simpa using hu
theorem Mp(L:Lab)(hl:L.pool.length=32)(hm:L.may=false)(w:World) :
 Calls Tryz.prog 119 #[.agg L.cells.toArray] w (uQ w L):=by
 have C:=O (uP L hl (w.alloc (.cells L.cells.toArray 192)));have HM:=O hm;clear hm;obtain⟨cs,hcs⟩:∃cs,L.cells=cs:=⟨_,rfl⟩
 have hlen:cs.length=37:=by rw[←hcs];exact L.cells_length hl
 rw[hcs] at C ⊢;have HCS:=O hcs;clear hcs;go_in
 go_wp2_with (first
  | ((with_reducible show WL (some 11) (.load 192 (.tmp 1)));refine wpList_load_mid rfl 192 (.tmp 1) rfl w.heap.size 0 rfl cs _ (aD (heap_alloc_new _ _)) Tryz.underlying192 rfl (by rw[hlen];exact fV) ?_))
 refine C.out.mono ?_;rintro e w1 ⟨rfl,rfl⟩;rw[HM.out];go_wp2
 go_ret2
 refine⟨_,by rw[HM.out];rfl,?_,(((aA.refl _ _).alloc _).alloc _),Fit.nil _ _⟩;rw[show dW L=[] by unfold dW;rw[HM.out];rfl];exact World.ownsRow_nil _ _ _ _
theorem Ky(L:Lab)(hl:L.pool.length=32)(hm:L.may=true)(w:World) :
 Calls Tryz.prog 119 #[.agg L.cells.toArray] w (uQ w L):=by
 have C:=O (uP L hl (w.alloc (.cells L.cells.toArray 192)));have HM:=O hm;clear hm;have hmf:∀(fn:Fn) (first cap:Array Value) (w:World),(Instr.makeFunc fn first cap).run Tryz.prog w=.ok (.func fn first cap) w:=fun _ _ _ _=>rfl
 obtain⟨cs,hcs⟩:∃cs,L.cells=cs:=⟨_,rfl⟩
 have hlen:cs.length=37:=by rw[←hcs];exact L.cells_length hl
 rw[hcs] at C ⊢;have HCS:=O hcs;clear hcs;go_in
 go_wp2_with (first
  | ((with_reducible show WL (some 11) (.load 192 (.tmp 1)));refine wpList_load_mid rfl 192 (.tmp 1) rfl w.heap.size 0 rfl cs _ (aD (heap_alloc_new _ _)) Tryz.underlying192 rfl (by rw[hlen];exact fV) ?_))
 refine C.out.mono ?_;rintro e w1 ⟨rfl,rfl⟩;rw[HM.out];go_wp2_with fail;refine(EI _).mono ?_;rintro e w1 ⟨p,rfl,hwr,hk1,hp⟩;have hlab:w1.heap[w.heap.size]?=some (.cells cs.toArray 192 (0,0)):=hk1.blk (heap_alloc2_old _ _ _) id;have hkw:aA aB w w1:=((((aA.refl aB w).alloc _).alloc _)).trans hk1;have hbase:w.heap.size+2=((w.alloc (.cells cs.toArray 192)).alloc (.cells cs.toArray 192)).heap.size:=by simp
 rw[←hbase] at hwr hp;have HWR:=O hwr;have HK1:=O hk1;have HLAB:=O hlab;have HKW:=O hkw;clear hwr hk1 hlab hbase hkw;go_wp2_with fail
 have R0:Hid (PkR w ((w1.alloc (.cells #[.pointer (some ⟨p,0,none⟩)] 214)).alloc (.cells (F8 w.heap.size w1.heap.size) 1)) L w.heap.size w1.heap.size (w1.heap.size+1) (w.heap.size+2) p 0):=by
  have K:aA aB w1 ((w1.alloc (.cells #[.pointer (some ⟨p,0,none⟩)] 214)).alloc (.cells (F8 w.heap.size w1.heap.size) 1)):=((aA.refl _ _).alloc _).alloc _;refine O ⟨⟨.slice none 0 0,hl,?_,heap_alloc2_old _ _ _,HWR.out.keep K id (fun _ _=>id),by simp[dH]⟩,heap_alloc2_new _ _ _,HKW.out.trans K,by omega⟩;rw[HCS.out];exact K.blk HLAB.out id
 go_loopw [27] (fun i wr=>∃k:Nat,k≤8/\i=.int .i64 k/\Hid (PkR w wr L w.heap.size w1.heap.size (w1.heap.size+1) (w.heap.size+2) p k)) (fun i _=>8-(intOf i).toNat)
 case atStart=>exact⟨0,by omega,rfl,R0⟩
 case round =>
  clear R0 HWR HK1 HLAB HKW C;obtain⟨k,hk,rfl,hR⟩:=hrel
  by_cases hk8:k<8
  ·obtain⟨v,hv⟩:=hR.out.pk
   have HV:=O hv;clear hv;have hc0:=aC hR.out.fs (Kx w.heap.size w1.heap.size k hk8);have hcall:=Ns w.heap.size w1.heap.size k hk8;have hk0:(0:Int)≤(k:Int):=by omega
   have hk1:(k:Int)<8:=by omega
   go_wp2_with fail;refine(Nt k hk8 wr L _ _ _ p v HV.out).mono ?_;rintro e w2 h1;have hR2:=O (hR.out.next HV.out h1);obtain⟨rfl,-⟩:=h1.end;clear hcall hc0;go_wp2
   go_roundw
   case rel=>exact⟨k+1,by omega,by go_num,hR2⟩
   case measure=>simp[intOf];omega
  ·obtain rfl:k=8:=by omega
   obtain⟨v,hv⟩:=hR.out.pk;rw[Mn L hl HM.out] at hv;have hcq:=aC (i:=0) (v:=.pointer (some ⟨p,0,none⟩)) hv.q rfl;have HKW:=O hR.out.keep;have HV:=O hv;clear hv hR;have hbl:=rJ L hl;have HBL:=O hbl;clear hbl;go_wp2_with fail;refine(EP p wr _ v _ 0 HV.out.wr HV.out.len).mono ?_;rintro e w3 ⟨v3,rfl,hown,hk3,hft3⟩;rw[if_pos rfl] at hown;have hrd:=Rd.of_owns hown;obtain⟨a3,c3,rfl,-,-⟩:=hrd.form;have HO:=O hown;have HR:=O hrd;have HF3:=O hft3;have HK3:=O (HKW.out.trans hk3);have hk3s:=hk3.size;have hle:w.heap.size≤wr.heap.size:=HKW.out.size;clear hown hrd hk3 hft3 HV hcq;go_wp2_with fail;refine(vH _ (bQ L) w3 HR.out (by rw[HBL.out];omega)).mono ?_;rintro e w4 ⟨rfl,hk4⟩;obtain⟨ds,hds⟩:∃ds,(cR (bQ L)).map vb=ds:=⟨_,rfl⟩
   have hdl:ds.length=32:=by rw[←hds];simp[cP]
   have hdo:∀u∈ds,u.oneCell'=true:=by rw[←hds];exact bN _
   rw[hds];have HDS:=O hds;have HK4:=O hk4;clear hds hk4
   go_wp2_with (first
    | (refine aR rfl 25 rfl uA yJ (Array.replicate 32 (.int .u8 0)) rfl ?_)
    | ((with_reducible show WL none (.store 25 (.tmp 10) (.tmp 43)));refine aP rfl 25 (.tmp 10) (.tmp 43) rfl w4.heap.size 0 ds rfl rfl _ _ (heap_alloc_new _ _) (by rw[hdl];simp) (by rw[hdl];exact nS) hdo ?_;intro w5 hb5 hk5;have HAP:=O (Mo HO.out HK4.out hb5 hk5 hdl);have hsz:wr.heap.size≤w5.heap.size:=Nat.le_trans hk3s HAP.out.2.2.size;clear hb5 hk5)
    | (at_builtin;refine kH rfl (.tmp 44) (.tmp 45) 109 rfl wr.heap.size 5 _ 1 1 Tryz.underlying109 fN rfl (by omega) (.slice a3 (bQ L).length c3) (bQ L).length _ rfl HAP.out.1 (.slice (some ⟨w4.heap.size,0,none⟩) 32 32) 32 ds rfl HAP.out.2.1 hdo (by unfold maxLen;have:=HBL.out;omega) (by have:=HBL.out;omega) hsz IsB xB (by rw[←HDS.out];exact Ag _) (HF3.out.keep HAP.out.2.2 (fun g hg=>⟨by obtain⟨cur,hc⟩:=aL HO.out hg;exact lt_of_block hc,id⟩)) ?_;intro v6 w6 hown6 hk6 hnil hat hft;obtain⟨a6,c6,rfl,-,-⟩:=(Rd.of_owns hown6).form;have HO6:=O hown6;have HK6:=O hk6;have HF6:=O hft;clear hown6 hk6 hnil hat hft))
   go_ret2
   refine⟨_,by rw[HM.out];rfl,?_,?_,by simpa using HF6.out⟩
   ·have h1:(dW L).length=(bQ L).length+32:=by unfold dW;rw[HM.out];simp[cP]
    have h2:(dW L).map vb=(bQ L).map vb++ds:=by unfold dW;rw[HM.out,←HDS.out];simp
    rw[h1,h2];exact aV HO6.out hle
   ·exact(HK3.out.trans HAP.out.2.2).trans' HK6.out (fun _ _ h=>h) (fun i hi e=>by have:=aS HO.out e;omega)
theorem Kz(L:Lab)(hl:L.pool.length=32)(w:World):Calls Tryz.prog 119 #[.agg L.cells.toArray] w (uQ w L):=by
 rcases hm:L.may with _|_
 ·exact Mp L hl hm w
 ·exact Ky L hl hm w
theorem Dg(L:Lab)(hl:L.pool.length=32)(w:World):Calls Tryz.prog 119 #[.agg L.cells.toArray] w (Df w L):=
 (Kz L hl w).mono fun _ _ ⟨v,h1,h2,h3,_⟩=>⟨v,h1,h2,h3⟩
end
section
def fQ(b:List UInt8):Lab:=
 ⟨(b.drop 8).take 32,beN ((b.drop 40).take 1),beN ((b.drop 41).take 1),beN ((b.drop 42).take 1),beN ((b.drop 43).take 2),beN ((b.drop 45).take 5)⟩
def fI:Lab:=⟨List.replicate 32 0,0,0,0,0,0⟩
def pA(b:List UInt8):Lab×Int:=
 if b.length≠256 then (fI,4) else if b=List.replicate 256 0 then (fI,6)
 else if (fQ b).may=true/\dW (fQ b)=b then (fQ b,0) else (fI,11)
theorem F9(b:List UInt8)(h:b.length=256):(fQ b).pool.length=32:=by simp[fQ,h]
theorem xH(l:List UInt8)(h:l.length≤1):(beN l:Int)≤255:=by
 have h1:=CK l;have h2:256 ^ l.length≤256 ^ 1:=Nat.pow_le_pow_right (by omega) h;omega
theorem uS(L:Lab)(hm:L.may=true):dW L=bQ L++cR (bQ L):=by unfold dW;rw[hm];rfl
theorem uT(L:Lab)(hL:L.pool.length=32)(hm:L.may=true):(dW L).length=256:=by rw[uS L hm,List.length_append,rJ L hL,cP]
theorem yV(L:Lab)(hm:L.may=true):(dW L).take 8=bU:=by
 rw[uS L hm];unfold bQ iB;simp only[List.append_assoc];rw[List.take_append_of_le_length (by decide)]
 decide
set_option linter.unusedVariables false
theorem Mq(n k:Nat):be n (k+1)=be (n / 256) k++[UInt8.ofNat n]:=by
 unfold be;rw[List.range_succ,List.map_append,List.map_cons,List.map_nil]
 congr 1
 ·refine List.map_congr_left fun j hj=>?_
  rw[List.mem_range] at hj;unfold iF;rw[show 8*(k+1-1-j)=8*(k-1-j)+8 by omega,Nat.pow_add,Nat.mul_comm,←Nat.div_div_eq_div_mul]
 ·unfold iF
  simp
theorem Nu(n:Nat):∀k,beN (be n k)=n % 256 ^ k:=by
 intro k
 induction k generalizing n with
 | zero=>simp[be,beN,Nat.mod_one]
 | succ k ih =>
   rw[Mq,sI,ih];have h1:(UInt8.ofNat n).toNat=n % 256:=by simp
   rw[h1,Nat.pow_succ,Nat.mul_comm (256 ^ k) 256,Nat.mod_mul];omega
theorem pQ{z:Int}{k:Nat}(h0:0≤z)(h:z<256 ^ k):(beN (be z.toNat k):Int)=z:=by
 rw[Nu,Nat.mod_eq_of_lt]
 ·exact Int.toNat_of_nonneg h0
 ·have:((z.toNat:Nat):Int)<((256 ^ k:Nat):Int):=by rw[Int.toNat_of_nonneg h0];simpa using h
  exact_mod_cast this
theorem gF{α:Type}(a m c:List α){i n:Nat}(hi:a.length=i)(hn:m.length=n):((a++m++c).drop i).take n=m:=by
 subst hi;subst hn;rw[List.append_assoc,List.drop_left,List.take_left]
theorem sO(L:Lab)(hL:L.pool.length=32)(hm:L.may=true):fQ (dW L)=L:=by
 have h:=of_decide_eq_true hm;obtain⟨pool,dev,devs,copies,sectors,life⟩:=L;dsimp only at hL h;rw[uS _ hm];generalize cR (bQ ⟨pool,dev,devs,copies,sectors,life⟩)=D;have l8:bU.length=8:=rfl;have b1:∀z:Int,(be z.toNat 1).length=1:=fun z=>bH _ _
 have b2:(be sectors.toNat 2).length=2:=bH _ _;have b5:(be life.toNat 5).length=5:=bH _ _
 have e1:bQ ⟨pool,dev,devs,copies,sectors,life⟩++D=bU++pool++(be dev.toNat 1++be devs.toNat 1++be copies.toNat 1++be sectors.toNat 2++be life.toNat 5++List.replicate 174 0++D):=by
  simp only[bQ,iB,List.append_assoc]
 have e2:bQ ⟨pool,dev,devs,copies,sectors,life⟩++D=(bU++pool)++be dev.toNat 1++(be devs.toNat 1++be copies.toNat 1++be sectors.toNat 2++be life.toNat 5++List.replicate 174 0++D):=by
  simp only[bQ,iB,List.append_assoc]
 have e3:bQ ⟨pool,dev,devs,copies,sectors,life⟩++D=(bU++pool++be dev.toNat 1)++be devs.toNat 1++(be copies.toNat 1++be sectors.toNat 2++be life.toNat 5++List.replicate 174 0++D):=by
  simp only[bQ,iB,List.append_assoc]
 have e4:bQ ⟨pool,dev,devs,copies,sectors,life⟩++D=(bU++pool++be dev.toNat 1++be devs.toNat 1)++be copies.toNat 1++(be sectors.toNat 2++be life.toNat 5++List.replicate 174 0++D):=by
  simp only[bQ,iB,List.append_assoc]
 have e5:bQ ⟨pool,dev,devs,copies,sectors,life⟩++D=(bU++pool++be dev.toNat 1++be devs.toNat 1++be copies.toNat 1)++be sectors.toNat 2++(be life.toNat 5++List.replicate 174 0++D):=by
  simp only[bQ,iB,List.append_assoc]
 have e6:bQ ⟨pool,dev,devs,copies,sectors,life⟩++D=(bU++pool++be dev.toNat 1++be devs.toNat 1++be copies.toNat 1++be sectors.toNat 2)++be life.toNat 5++(List.replicate 174 0++D):=by
  simp only[bQ,iB,List.append_assoc]
 unfold fQ;have d1:((bQ ⟨pool,dev,devs,copies,sectors,life⟩++D).drop 8).take 32=pool:=by rw[e1];exact gF _ _ _ l8 hL
 have d2:((bQ ⟨pool,dev,devs,copies,sectors,life⟩++D).drop 40).take 1=be dev.toNat 1:=by rw[e2];exact gF _ _ _ (by simp[l8,hL]) (b1 _)
 have d3:((bQ ⟨pool,dev,devs,copies,sectors,life⟩++D).drop 41).take 1=be devs.toNat 1:=by rw[e3];exact gF _ _ _ (by simp[l8,hL,b1]) (b1 _)
 have d4:((bQ ⟨pool,dev,devs,copies,sectors,life⟩++D).drop 42).take 1=be copies.toNat 1:=by rw[e4];exact gF _ _ _ (by simp[l8,hL,b1]) (b1 _)
 have d5:((bQ ⟨pool,dev,devs,copies,sectors,life⟩++D).drop 43).take 2=be sectors.toNat 2:=by rw[e5];exact gF _ _ _ (by simp[l8,hL,b1]) b2
 have d6:((bQ ⟨pool,dev,devs,copies,sectors,life⟩++D).drop 45).take 5=be life.toNat 5:=by rw[e6];exact gF _ _ _ (by simp[l8,hL,b1,b2]) b5
 rw[d1,d2,d3,d4,d5,d6];rw[pQ (by omega) (by omega),pQ (by omega) (by omega),pQ (by omega) (by omega),pQ (by omega) (by omega),pQ (by omega) (by omega)]
theorem Dh(L:Lab)(hL:L.pool.length=32)(hm:L.may=true):pA (dW L)=(L,0):=by
 unfold pA;rw[if_neg (by rw[uT L hL hm];simp),if_neg,if_pos]
 ·rw[sO L hL hm]
 ·rw[sO L hL hm];exact⟨hm,rfl⟩
 ·intro e
  have:=congrArg (fun l=>l.take 8) e;simp only[yV L hm] at this;revert this
  decide
end
section
open Go.RowKit
def yW(w:World)(r:Lab×Int)(e:Ending)(w':World):Prop:=e=.returned (.tuple #[.agg r.1.cells.toArray,.int .i64 r.2])/\aA aB w w'
theorem oU(w:World):(zeroValue 192).run Tryz.prog w=.ok (.agg fI.cells.toArray) w:=by kernel_rfl
theorem KA(w:World):(Instr.build 192 #[]).run Tryz.prog w=.ok (.agg fI.cells.toArray) w:=by kernel_rfl
theorem nE(L:Lab):∀u∈L.cells,u.oneCell'=true:=by
 intro u hu;rcases List.mem_append.1 hu with h|h
 ·exact bN _ u h
 ·simp[Lab.nums] at h
  rcases h with rfl|rfl|rfl|rfl|rfl<;>rfl
theorem Ga(x y:Int)(w:World):(Instr.field 182 (.agg #[.int .i64 x,.int .i64 y]) 0).run Tryz.prog w=.ok (.int .i64 x) w:=by kernel_rfl
theorem iQ:fI.cells.length=37:=rfl
theorem KB{w:World}{v:Value}{n:Nat}{base:Nat}(h:w.ownsRow base 5 1 v n (List.replicate n (.int .u8 0))):Rd w 1 v (List.replicate n (0:UInt8)).length ((List.replicate n (0:UInt8)).map vb):=by
 have:=Rd.of_owns h;rw[List.length_replicate,List.map_replicate];exact this
structure UpW(w wr:World)(b2 b5 base p:Nat)(v:Value)(bs:List UInt8)(at_:Nat)(fe fa:Int)(zc:List Value)(cs:Array Value):Prop where
 res:wr.heap[b2]?=some (.cells zc.toArray 192 (0,0))
 lab:wr.heap[b5]?=some (.cells cs 192 (0,0))
 rd:Rdr wr base p v bs at_ fe fa
 keep:aA aB w wr
 ne:b2≠b5
 lb:w.heap.size≤base
 l2:w.heap.size≤b2
 l5:w.heap.size≤b5
theorem UpW.same{w wr w':World}{b2 b5 base p:Nat}{v:Value}{bs:List UInt8}{at_:Nat}{fe fa:Int}{zc:List Value}{cs:Array Value}(h:UpW w wr b2 b5 base p v bs at_ fe fa zc cs)(k:aA aB wr w'):UpW w w' b2 b5 base p v bs at_ fe fa zc cs:=
 ⟨k.blk h.res id,k.blk h.lab id,h.rd.keep k id (fun _ _=>id),h.keep.trans k,h.ne,h.lb,h.l2,h.l5⟩
theorem UpW.read{w wr w':World}{b2 b5 base p:Nat}{v:Value}{bs:List UInt8}{at_ at':Nat}{fe fa fe' fa':Int}{zc:List Value}{cs:Array Value}(h:UpW w wr b2 b5 base p v bs at_ fe fa zc cs)(k:aA (fun i=>i=p) wr w')(hr:Rdr w' base p v bs at' fe' fa'):UpW w w' b2 b5 base p v bs at' fe' fa' zc cs:=by
 have hp:∀i cs',wr.heap[i]?=some (.cells cs' 192 (0,0))->¬i=p:=by
  rintro i cs' hi rfl;rw[h.rd.blk] at hi;cases hi
 refine⟨k.blk h.res (hp _ _ h.res),k.blk h.lab (hp _ _ h.lab),hr,h.keep.trans' k (fun _ _ h=>h) (fun i hi e=>?_),h.ne,h.lb,h.l2,h.l5⟩;have:=h.rd.le;have:=h.lb;omega
theorem UpW.put{w wr w':World}{b2 b5 base p:Nat}{v:Value}{bs:List UInt8}{at_:Nat}{fe fa:Int}{zc:List Value}{cs cs':Array Value}(h:UpW w wr b2 b5 base p v bs at_ fe fa zc cs)(k:aA (fun i=>i=b5) wr w')(hl:w'.heap[b5]?=some (.cells cs' 192 (0,0))):UpW w w' b2 b5 base p v bs at_ fe fa zc cs':=by
 have h5:=h.l5;refine⟨k.blk h.res h.ne,hl,h.rd.keep k ?_ (fun g hg e=>?_),h.keep.trans' k (fun _ _ h=>h) (fun i hi e=>by omega),h.ne,h.lb,h.l2,h.l5⟩
 ·intro e
  have:=h.rd.blk;rw[e,h.lab] at this;cases this
 ·subst e
  obtain⟨cur,hc⟩:=aL h.rd.own hg;rw[h.lab] at hc;cases hc
theorem UpW.set{w wr:World}{b2 b5 base p:Nat}{v:Value}{bs:List UInt8}{at_:Nat}{fe fa:Int}{zc:List Value}{cs:Array Value}(h:UpW w wr b2 b5 base p v bs at_ fe fa zc cs)(i:Nat)(u:Value):UpW w (wr.setCell ⟨b5,i,none⟩ u) b2 b5 base p v bs at_ fe fa zc (cs.setIfInBounds i u):=
 h.put ((aA.refl (fun i=>i=b5) wr).setCell (p:=⟨b5,i,none⟩) (fun _=>rfl) _) (dO h.lab i u)
def gV(P:List Value)(n0 n1 n2 n3 n4:Int):Array Value:=(P++([.int .i64 n0,.int .i64 n1,.int .i64 n2,.int .i64 n3,.int .i64 n4]:List Value)).toArray
theorem nZ(P:List Value)(h:P.length=32)(n0 n1 n2 n3 n4 x:Int):(gV P n0 n1 n2 n3 n4).setIfInBounds 32 (.int .i64 x)=gV P x n1 n2 n3 n4/\(gV P n0 n1 n2 n3 n4).setIfInBounds 33 (.int .i64 x)=gV P n0 x n2 n3 n4 /\
 (gV P n0 n1 n2 n3 n4).setIfInBounds 34 (.int .i64 x)=gV P n0 n1 x n3 n4/\(gV P n0 n1 n2 n3 n4).setIfInBounds 35 (.int .i64 x)=gV P n0 n1 n2 x n4/\(gV P n0 n1 n2 n3 n4).setIfInBounds 36 (.int .i64 x)=gV P n0 n1 n2 n3 x:=by
 unfold gV;refine⟨?_,?_,?_,?_,?_⟩<;>rw[List.setIfInBounds_toArray,List.set_append_right _ _ (by omega),h]<;>rfl
theorem oA(P:List Value)(h:P.length=32)(n0 n1 n2 n3 n4:Int)(i:Nat)(hi:i<5):∃u,(gV P n0 n1 n2 n3 n4)[32+i]?=some u:=by
 unfold gV;rw[List.getElem?_toArray,List.getElem?_append_right (by omega)];exact⟨_,List.getElem?_eq_getElem (by simp;omega)⟩
theorem IC(P:List Value)(h:P.length=32)(zc:List Value)(hz:fI.cells=zc):spl zc.toArray 0 P=gV P 0 0 0 0 0:=by
 subst hz;apply Array.ext_getElem?;intro j;rw[mA _ _ _ _ (by rw[h];decide),h];unfold gV;simp only[List.getElem?_toArray]
 by_cases hj:j<32
 ·rw[if_pos (by omega),List.getElem?_append_left (by omega)];rfl
 ·rw[if_neg (by omega),List.getElem?_append_right (by omega),h]
  show (List.replicate 32 (Value.int .u8 0)++[.int .i64 0,.int .i64 0,.int .i64 0,.int .i64 0,.int .i64 0])[j]?=_;rw[List.getElem?_append_right (by simp;omega)];simp
theorem ID(w:World)(bv:Value)(b:List UInt8)(hr:Rd w 1 bv b.length (b.map vb))(hl:b.length=256)(hz:¬b=List.replicate 256 0)(h3:(fQ b).sectors≤4096)(h4:(fQ b).life≤2147483648)(hm:(fQ b).may=true)(hq:dW (fQ b)=b) :
 Calls Tryz.prog 186 #[bv] w (yW w (pA b)):=by
 have hlt:∀g,bv.ownBlock=some g->g<w.heap.size:=by
  obtain⟨k,hk,hk2⟩:=hr.lt (by simp;omega);intro g hg;rw[hg] at hk;cases hk;exact hk2
 obtain⟨a,c,hv,-,-⟩:=hr.form;rw[hl] at hv;subst hv;have HR:=O hr;have H3:=O h3;have H4:=O h4;have HM:=O hm;have HQ:=O hq;clear h3 h4 hm hq;clear hr;obtain⟨zc,hzc,hzl,hzo⟩:∃zc,fI.cells=zc/\zc.length=37/\∀u∈zc,u.oneCell'=true:=⟨_,rfl,rfl,nE _⟩
 have hzv:∀w,(zeroValue 192).run Tryz.prog w=.ok (.agg zc.toArray) w:=by rw[←hzc];exact oU
 have hbd:∀w,(Instr.build 192 #[]).run Tryz.prog w=.ok (.agg zc.toArray) w:=by rw[←hzc];exact KA
 have HZ:=O hzc;clear hzc;have HL:=O hl;clear hl;go_in
 go_wp2_with (first
  | (refine aR rfl 192 rfl _ hzv zc.toArray rfl ?_)
  | ((with_reducible show WL (some 15) (.makeSlice _ _ _));refine qA rfl (.const (.int .i64 256)) (.const (.int .i64 256)) 109 rfl w.heap.size 5 (.int .u8 0) 1 Tryz.underlying109 fN rfl 256 rfl rfl (by omega) (by unfold maxLen;omega) (by simp) ?_;intro w2 hown2 hk2;rw[World.size_alloc] at hown2;have HO2:=O (KB hown2);have HK2:=O hk2;clear hown2 hk2))
 have hkw2:aA aB w w2:=((aA.refl aB w).alloc _).trans HK2.out;have hres:w2.heap[w.heap.size]?=some (.cells zc.toArray 192 (0,0)):=HK2.out.blk (heap_alloc_new _ _) id;have HRES:=O hres;have HKW2:=O hkw2;clear hres hkw2;have hne:decide (b=List.replicate 256 0)=false:=by simpa using hz
 refine(mJ w2 _ _ b (List.replicate 256 0) (HR.out.keep HKW2.out fun _ _=>id) HO2.out false hne).mono ?_;rintro e w3 ⟨rfl,rfl⟩;have hp32:=F9 b HL.out;have HP:=O hp32;have HZN:=O hz;clear hz hne hp32 HK2 HO2;go_wp2_with fail;refine(H9 _ b w2 (HR.out.keep HKW2.out fun _ _=>id) (by rw[HL.out];omega)).mono ?_;rintro e w3 ⟨p,v,rfl,hrd,hk3⟩;have hres3:=hk3.blk HRES.out id;have hkw3:=HKW2.out.trans hk3;have hb2:=HKW2.out.size;have HRD:=O hrd;have HR3:=O hres3;have HK3:=O hkw3;clear hrd hk3 hres3 hkw3 HRES HKW2;go_wp2_with fail;refine(EM w3 w2.heap.size p v b 0 0 HRD.out 8 (by omega) (by rw[HL.out];omega)).mono ?_;rintro e w4 ⟨v4,rfl,-,hrd,hk4⟩;have hpn:w.heap.size≠p:=by have:=HRD.out.le;have:=lt_of_block HR3.out;intro e;rw[e,HRD.out.blk] at HR3;cases HR3.out
 have hres4:=hk4.blk HR3.out hpn;have hpw:w.heap.size≤p:=by have:=HRD.out.le;omega
 have hkw4:aA aB w w4:=HK3.out.trans' hk4 (fun _ _ h=>h) (fun i hi e=>by omega);have HRD4:=O hrd;have HR4:=O hres4;have HK4:=O hkw4;clear hrd hk4 hres4 hkw4 HRD HR3 HK3 hpn
 go_wp2_with (first
  | (refine aR rfl 192 rfl _ hzv zc.toArray rfl ?_))
 have U5:UpW w ((w4.alloc (.cells zc.toArray 192)).drew) w.heap.size w4.heap.size w2.heap.size p v b 8 0 0 zc zc.toArray:=by
  have K:aA aB w4 ((w4.alloc (.cells zc.toArray 192)).drew):=((aA.refl _ _).alloc _).drew;have hlt4:=lt_of_block HR4.out;exact⟨K.blk HR4.out id,heap_alloc_new w4 _,HRD4.out.keep K id (fun _ _=>id),HK4.out.trans K,by omega,hb2,Nat.le_refl _,HK4.out.size⟩
 obtain⟨b5,hb5⟩:∃b5,w4.heap.size=b5:=⟨_,rfl⟩
 refine wp_region_any (by kernel_rfl) ?_;obtain⟨w5,hw5⟩:∃w5,(w4.alloc (.cells zc.toArray 192)).drew=w5:=⟨_,rfl⟩
 change wpAny _ _ _ _ _ _ _ ((w4.alloc (.cells zc.toArray 192)).drew);rw[hw5] at U5 ⊢;rw[hb5] at U5 ⊢;have HU5:=O U5;clear U5 HRD4 HR4 HK4 hw5 hb5 hpw;refine wpAny_take (i:=0) (v:=.pointer (some ⟨b5,0,none⟩)) rfl (by kernel_rfl) (by kernel_rfl) (by kernel_rfl) (fun _ _ _ h=>h) (.inl ⟨by rfl,fun w'=>?_⟩) ?_
 ·go_simp
 refine wpAny_take (i:=1) (v:=.slice (some ⟨b5,0,none⟩) 32 32) rfl (by kernel_rfl) (by kernel_rfl) (by kernel_rfl) (fun _ _ _ h=>h) (.inl ⟨by rfl,fun w'=>?_⟩) ?_
 ·go_simp
 refine wpAny_take (i:=2) (v:=.pointer (some ⟨p,0,none⟩)) rfl (by kernel_rfl) (by kernel_rfl) (by kernel_rfl) (fun _ _ _ h=>h) (.inl ⟨by rfl,fun w'=>rfl⟩) ?_;refine AG (k:=3) rfl (by kernel_rfl) ?_;go_wp2_with fail;refine(EM w5 w2.heap.size p v b 8 0 HU5.out.rd 32 (by omega) (by rw[HL.out];omega)).mono ?_;rintro e w6 ⟨v6,rfl,hown,hrd,hk6⟩;have hrd6:Rd w6 1 v6 32 ((fQ b).pool.map vb):=Rd.of_owns hown;obtain⟨a6,c6,rfl,-,-⟩:=hrd6.form;have U6:=HU5.out.read hk6 hrd;obtain⟨P,hP⟩:∃P,(fQ b).pool.map vb=P:=⟨_,rfl⟩
 have hPl:P.length=32:=by rw[←hP];simp[HP.out]
 have hPo:∀u∈P,u.oneCell'=true:=by rw[←hP];exact bN _
 rw[hP] at hrd6;have HPP:=O hP;have HU6:=O U6;have HRD6:=O hrd6;clear hP U6 hrd6 hown hrd hk6 HU5;go_wp2_with fail;refine AG (k:=4) rfl (by kernel_rfl) ?_;refine rA rfl (.tmp 23) (.tmp 25) 109 109 rfl 5 Tryz.underlying109 yA b5 0 32 32 rfl _ 32 P rfl HRD6.out 32 rfl zc.toArray _ HU6.out.lab (by simp[hzl]) hPo ?_;intro w7 hb7 hk7;rw[List.take_of_length_le (by rw[hPl];exact Nat.le_refl _),IC P hPl zc HZ.out] at hb7;have HU7:=O (HU6.out.put hk7 hb7);clear hb7 hk7;refine wpList_nil ?_;refine wpAny_done (by kernel_rfl) ?_ _;clear HU6 HRD6;obtain⟨x0,hx0⟩:∃x,beN ((b.drop 40).take 1)=x:=⟨_,rfl⟩
 have HX40:=O hx0;obtain⟨x1,hx1⟩:∃x,beN ((b.drop 41).take 1)=x:=⟨_,rfl⟩
 have HX41:=O hx1;obtain⟨x2,hx2⟩:∃x,beN ((b.drop 42).take 1)=x:=⟨_,rfl⟩
 have HX42:=O hx2;obtain⟨x3,hx3⟩:∃x,beN ((b.drop 43).take 2)=x:=⟨_,rfl⟩
 have HX43:=O hx3;obtain⟨x4,hx4⟩:∃x,beN ((b.drop 45).take 5)=x:=⟨_,rfl⟩
 have HX45:=O hx4;have l0:(x0:Int)≤255:=by rw[←hx0];exact xH _ (by simp;omega)
 have l1:(x1:Int)≤255:=by rw[←hx1];exact xH _ (by simp;omega)
 have l2:(x2:Int)≤255:=by rw[←hx2];exact xH _ (by simp;omega)
 have HLab:=O (show fQ b=⟨(fQ b).pool,x0,x1,x2,x3,x4⟩ by rw[←hx0,←hx1,←hx2,←hx3,←hx4];rfl);have HX3:=O hx3;have HX4:=O hx4;clear hx0 hx1 hx2 hx3 hx4;go_wp2_with fail;refine(nU w7 w2.heap.size p v b 40 0 HU7.out.rd 1 0 255 (by omega) (by omega) (by rw[HL.out];omega) x0 HX40.out).mono ?_;rintro e w8 ⟨hkn,hq⟩;rw[if_pos ⟨by omega,l0⟩] at hq;obtain⟨rfl,hrd⟩:=hq;have HU8:=O (HU7.out.read hkn hrd);clear hkn hrd HU7;go_wp2_with fail;refine(nU w8 w2.heap.size p v b 41 0 HU8.out.rd 1 0 255 (by omega) (by omega) (by rw[HL.out];omega) x1 HX41.out).mono ?_;rintro e w9 ⟨hkn,hq⟩;rw[if_pos ⟨by omega,l1⟩] at hq;obtain⟨rfl,hrd⟩:=hq;have HU9:=O (HU8.out.read hkn hrd);clear hkn hrd HU8;go_wp2_with fail;refine(nU w9 w2.heap.size p v b 42 0 HU9.out.rd 1 0 255 (by omega) (by omega) (by rw[HL.out];omega) x2 HX42.out).mono ?_;rintro e w10 ⟨hkn,hq⟩;rw[if_pos ⟨by omega,l2⟩] at hq;obtain⟨rfl,hrd⟩:=hq;have HU10:=O (HU9.out.read hkn hrd);clear hkn hrd HU9;have U11:=((HU10.out.set 32 (.int .i64 x0)).set 33 (.int .i64 x1)).set 34 (.int .i64 x2);rw[(nZ P hPl 0 0 0 0 0 x0).1,(nZ P hPl x0 0 0 0 0 x1).2.1,(nZ P hPl x0 x1 0 0 0 x2).2.2.1] at U11;obtain⟨u0,g0⟩:=oA P hPl 0 0 0 0 0 0 (by omega);obtain⟨u1,g1⟩:=oA P hPl 0 0 0 0 0 1 (by omega);obtain⟨u2,g2⟩:=oA P hPl 0 0 0 0 0 2 (by omega);have k0:=aC HU10.out.lab g0;have k1:=aC HU10.out.lab g1;have k2:=aC HU10.out.lab g2;have kf:=fun i=>cV HU10.out.lab i
 obtain⟨w11,hw11⟩:∃w11,((w10.setCell ⟨b5,32,none⟩ (.int .i64 x0)).setCell ⟨b5,33,none⟩ (.int .i64 x1)).setCell ⟨b5,34,none⟩ (.int .i64 x2)=w11:=⟨_,rfl⟩
 rw[hw11] at U11;have HU11:=O U11;clear U11 g0 g1 g2;simp only[Nat.add_zero,Nat.reduceAdd] at k0 k1 k2;go_wp2_with fail;clear k0 k1 k2 kf hw11 HU10;have l3:(x3:Int)≤4096:=by have:=H3.out;rw[HLab.out] at this;exact this
 have l4:(x4:Int)≤2147483648:=by have:=H4.out;rw[HLab.out] at this;exact this
 go_wp2_with fail;refine(nU w11 w2.heap.size p v b 43 0 HU11.out.rd 2 0 4096 (by omega) (by omega) (by rw[HL.out];omega) x3 HX43.out).mono ?_;rintro e w12 ⟨hkn,hq⟩;rw[if_pos ⟨by omega,l3⟩] at hq;obtain⟨rfl,hrd⟩:=hq;have HU12:=O (HU11.out.read hkn hrd);clear hkn hrd HU11;go_wp2_with fail;refine(nU w12 w2.heap.size p v b 45 0 HU12.out.rd 5 0 2147483648 (by omega) (by omega) (by rw[HL.out];omega) x4 HX45.out).mono ?_;rintro e w13 ⟨hkn,hq⟩;rw[if_pos ⟨by omega,l4⟩] at hq;obtain⟨rfl,hrd⟩:=hq;have HU13:=O (HU12.out.read hkn hrd);clear hkn hrd HU12;have U14:=(HU13.out.set 35 (.int .i64 x3)).set 36 (.int .i64 x4);rw[(nZ P hPl x0 x1 x2 0 0 x3).2.2.2.1,(nZ P hPl x0 x1 x2 x3 0 x4).2.2.2.2] at U14;obtain⟨u3,g3⟩:=oA P hPl x0 x1 x2 0 0 3 (by omega);obtain⟨u4,g4⟩:=oA P hPl x0 x1 x2 0 0 4 (by omega);have k3:=aC HU13.out.lab g3;have k4:=aC HU13.out.lab g4;have kf:=fun i=>cV HU13.out.lab i
 obtain⟨w14,hw14⟩:∃w14,(w13.setCell ⟨b5,35,none⟩ (.int .i64 x3)).setCell ⟨b5,36,none⟩ (.int .i64 x4)=w14:=⟨_,rfl⟩
 rw[hw14] at U14;obtain⟨L,hL,hLp,hLm⟩:∃L:Lab,gV P x0 x1 x2 x3 x4=L.cells.toArray/\L.pool.length=32/\L=⟨(fQ b).pool,x0,x1,x2,x3,x4⟩:=⟨⟨(fQ b).pool,x0,x1,x2,x3,x4⟩,by rw[←HPP.out];rfl,HP.out,rfl⟩
 rw[hL] at U14;obtain⟨lc,hlc⟩:∃lc,L.cells=lc:=⟨_,rfl⟩
 have hlcl:lc.length=37:=by rw[←hlc];exact L.cells_length hLp
 have hlco:∀u∈lc,u.oneCell'=true:=by rw[←hlc];exact nE L
 rw[hlc] at U14;have HU14:=O U14;have HLC:=O hlc;have HLM:=O hLm;clear U14 g3 g4 hL hlc hLm;simp only[Nat.reduceAdd] at k3 k4
 go_wp2_with (first
  | ((with_reducible show WL (some 43) (.load 192 (.tmp 5)));refine wpList_load_mid rfl 192 (.tmp 5) rfl b5 0 rfl lc _ (aD HU14.out.lab) Tryz.underlying192 rfl (by rw[hlcl];exact fV) ?_))
 clear k3 k4 kf hw14 HU13;have CP:=Dg L hLp w14;rw[HLC.out] at CP;refine CP.mono ?_;clear CP;rintro e w15 ⟨v15,rfl,hown15,hk15⟩;have HU15:=O (HU14.out.same hk15);have hrd15:=Rd.of_owns hown15;obtain⟨a15,c15,rfl,-,-⟩:=hrd15.form;have HRD15:=O hrd15;clear hown15 hk15 hrd15 HU14;have HLL:=O (show L=fQ b by rw[HLM.out];exact HLab.out.symm);have HUR:=O (show pA b=(fQ b,0) by unfold pA;rw[if_neg (by rw[HL.out];simp),if_neg HZN.out,if_pos ⟨HM.out,HQ.out⟩]);rw[show L.may=true by rw[HLL.out];exact HM.out];have hfd:=Ga;go_wp2_with fail;refine(If w15 w2.heap.size p v b _ _ _ HU15.out.rd).mono ?_;rintro e w16 ⟨rfl,hk16⟩;have HU16:=O (HU15.out.same hk16);have HK16:=O hk16;clear hk16 HU15;go_wp2_with fail;refine(mJ w16 _ _ (dW L) b (HRD15.out.keep HK16.out fun _ _=>id) (HR.out.keep HU16.out.keep fun _ _=>id) true (by rw[HLL.out];exact decide_eq_true HQ.out)).mono ?_;rintro e w17 ⟨rfl,rfl⟩
 go_wp2_with (first
  | ((with_reducible show WL (some 62) (.load 192 (.tmp 5)));refine wpList_load_mid rfl 192 (.tmp 5) rfl b5 0 rfl lc _ (aD HU16.out.lab) Tryz.underlying192 rfl (by rw[hlcl];exact fV) ?_)
  | ((with_reducible show WL none (.store 192 (.tmp 2) (.tmp 62)));refine aP rfl 192 (.tmp 2) (.tmp 62) rfl w.heap.size 0 lc rfl rfl _ _ HU16.out.res (by rw[hlcl];simp[hzl]) (by rw[hlcl];exact fV) hlco ?_;intro w17 hb17 hk17;have HB17:=O hb17;have HK17:=O hk17;clear hb17 hk17))
 refine bodyPost_ret (bI rfl _ _ w.heap.size _ _ _ _ rfl HB17.out Tryz.underlying192 rfl (by rw[fJ,List.size_toArray,hzl];exact fV)) rfl ⟨?_,?_⟩
 ·rw[aI _ _ (by rw[hlcl];simp[hzl]),HUR.out,←HLC.out,HLL.out];rfl
 ·exact HU16.out.keep.trans' HK17.out (fun _ _ h=>h) (fun i hi e=>by omega)
theorem BN(w:World)(bv:Value)(L:Lab)(hL:L.pool.length=32)(hm:L.may=true)(b:List UInt8)(hb:b=dW L)(hr:Rd w 1 bv b.length (b.map vb)):Calls Tryz.prog 186 #[bv] w (yW w (pA b)):=by
 subst hb;have h1:=sO L hL hm;have h2:=hm;unfold Lab.may at h2;simp only[decide_eq_true_eq] at h2;refine ID w bv _ hr (uT L hL hm) (fun e=>?_) (by rw[h1];omega) (by rw[h1];omega) (by rw[h1];exact hm) (by rw[h1]);have:=congrArg (fun l=>l.take 8) e;simp only[yV L hm] at this;revert this
 decide
end
end Go.Proofs.YtiinnfhjpaeffaaGreat
