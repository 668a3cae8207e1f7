import Derived.Test.YtiinnfhjpaeffaaGreatA1
import Derived.Test.YtiinnfhjpaeffaaGreatA31
import Derived.Test.YtiinnfhjpaeffaaGreatA32
namespace Go.Proofs.YtiinnfhjpaeffaaGreat
set_option maxHeartbeats 64000000
set_option maxRecDepth 100000
set_option linter.unusedVariables false
section
open Go.RowKit Go.Maps Go.ChangeMaps
def wrM(Mm:Nat->Nat->List UInt8)(s:Nat)(b:List UInt8):Nat->Nat->Nat->List UInt8
 | 0=>Mm
 | k+1=>fV (wrM Mm s b k) k s b
variable{w w':World}{c a m lb cp D Z nw q q2 q8 q6 s:Nat}{pid b:List UInt8}{gv v:Value}{t:Lst}{B:Nat->Prop}{P:Nat->Nat->Nat->List UInt8}{Mm:Nat->Nat->List UInt8}
theorem BS(Mm:Nat->Nat->List UInt8)(s:Nat)(b:List UInt8):∀(k d f:Nat),f≠s->wrM Mm s b k d f=Mm d f
 | 0,_,_,_=>rfl
 | k+1,d,f,h=>by
   show fV _ _ _ _ _ _=_;unfold fV;rw[if_neg fun e=>h e.2];exact BS Mm s b k d f h
def qC(w:World)(c a m lb:Nat)(pid:List UInt8)(cp:Nat)(gv:Value)(t:Lst)(B:Nat->Prop)(D Z:Nat)(P:Nat->Nat->Nat->List UInt8)(nw q k:Nat)(w':World):Prop:=
 ∃B' d,gK w' c a m lb pid cp gv t B' D Z (P k) d/\d≤nw+q*k/\(∀i,B' i->B i\/w.heap.size≤i)/\aA B w w'
theorem qC.step{wr C u:World}{o x:Nat->Prop}{j n k:Nat}(r:¬B c/\¬B m/\¬B lb/\∀i,t.Own i->¬B i)(p:c<w.heap.size/\m<w.heap.size/\lb<w.heap.size/\∀i,t.Own i->i<w.heap.size)
 (h:gK wr c a m lb pid cp gv t o D Z (P k) j) (N:j≤nw+q*k) (y:∀i,o i->B i\/w.heap.size≤i) (G:aA B w wr) (F:aA aB wr C) (J:bR u a x D Z (P (k+1)) n) (L:n≤j+q) (z:∀i,x i->o i\/C.heap.size≤i) (M:aA o C u) (I:∀d,P (k+1) d 0=P k d 0):qC w c a m lb pid cp gv t B D Z P nw q (k+1) u:=by
 have g:aA o wr u:=F.trans' M (fun _ _ h=>h.elim) fun _ _ h=>h
 have f:∀i,i<w.heap.size->¬B i->¬o i:=fun i A H e=>(y i e).elim H fun e=>by omega
 refine⟨x,n,⟨h.cor.keep g (f c p.1 r.1) fun i e E=>f i (p.2.2.2 i E) (r.2.2.2 i E) e,J,g.blk h.mir (f m p.2.1 r.2.1),g.blk h.liv (f lb p.2.2.1 r.2.2.1),h.cpb,fun d K=>by rw[I];exact h.lab d K⟩,by rw[Nat.mul_succ];omega,fun i A=>?_,G.trans' g (fun _ _ h=>h) fun i A e=>(y i e).elim id fun e=>by omega⟩;rcases z i A with e|e
 ·exact y i e
 ·have:=F.size;have:=G.size
  exact .inr (by omega)
def gM(w:World)(c a m lb:Nat)(pid:List UInt8)(cp:Nat)(gv:Value)(t:Lst)(B:Nat->Prop)(D Z:Nat)(P:Nat->Nat->Nat->List UInt8)(nw q:Nat)(e:Ending)(w':World):Prop:=
 e=.returned (.tuple #[.int .i64 (D:Int),.int .i64 0])/\qC w c a m lb pid cp gv t B D Z P nw q D w'
theorem gM.from{w0:World}{e:Ending}(h:gM w c a m lb pid cp gv t B D Z P nw q e w')(k:aA aB w0 w):gM w0 c a m lb pid cp gv t B D Z P nw q e w':=by
 obtain⟨f,B',d,g,j,n,o⟩:=h;exact⟨f,B',d,g,j,fun i p=>(n i p).imp id fun h=>Nat.le_trans k.size h,k.trans' o (fun _ _ h=>h.elim) fun _ _ h=>h⟩
structure WrC(w:World)(B:Nat->Prop)(c q2 q8 q6 s:Nat)(v:Value)(b:List UInt8):Prop where
 c2:w.heap[q2]?=some (.cells #[.pointer (some ⟨c,0,none⟩)] 39 (0,0))
 c8:w.heap[q8]?=some (.cells #[.int .i64 (s:Int)] 3 (0,0))
 c6:w.heap[q6]?=some (.cells #[v] 109 (0,0))
 rd:Rd w 1 v 256 (b.map vb)
 off:¬B q2/\¬B q8/\¬B q6/\∀i,v.ownBlock=some i->¬B i
 lt:q2<w.heap.size/\q8<w.heap.size/\q6<w.heap.size/\∀i,v.ownBlock=some i->i<w.heap.size
theorem WrC.keep{B':Nat->Prop}(h:WrC w B c q2 q8 q6 s v b)(k:aA B w w')(f:∀i,B' i->B i\/w.heap.size≤i):WrC w' B' c q2 q8 q6 s v b:=by
 have q:∀i,i<w.heap.size->¬B i->¬B' i:=fun i d h e=>(f i e).elim h fun e=>by omega
 have z:=k.size;exact⟨k.blk h.c2 h.off.1,k.blk h.c8 h.off.2.1,k.blk h.c6 h.off.2.2.1,h.rd.keep k h.off.2.2.2,⟨q _ h.lt.1 h.off.1,q _ h.lt.2.1 h.off.2.1,q _ h.lt.2.2.1 h.off.2.2.1,fun i d=>q i (h.lt.2.2.2 i d) (h.off.2.2.2 i d)⟩,Nat.lt_of_lt_of_le h.lt.1 z,Nat.lt_of_lt_of_le h.lt.2.1 z,Nat.lt_of_lt_of_le h.lt.2.2.1 z,fun i d=>Nat.lt_of_lt_of_le (h.lt.2.2.2 i d) z⟩
theorem WrC.keep0(h:WrC w B c q2 q8 q6 s v b)(k:aA aB w w'):WrC w' B c q2 q8 q6 s v b:=h.keep k.any fun _ e=>.inl e
theorem ER(h:gK w c a m lb pid cp gv t B D Z Mm nw){d:Nat}(H:WrC w B c q2 q8 q6 s v b)(E:¬B c)(R:d<D)(V:s<Z)(C:b.length=256)(M:nw<100000000000):Calls Tryz.prog 102 #[.int .i64 (d:Int),.pointer q2,.pointer q8,.pointer q6] w (jP w a B D Z Mm nw d s b):=by
 have x:=O h;have u:=O H;have F:=O E;have k:=O (And.intro R (And.intro V (And.intro C M)));obtain⟨J,K,rfl,-,-⟩:=H.rd.form;have r:=lN w;clear h H E C M;go_in;go_wp2_with fail;refine dwA B (by kernel_rfl) ?_;intro X S j z n o;replace r:=kL r o;replace x:=O (x.keep0 o);replace u:=O (u.keep0 o);clear o;have G:=r;have y:=x;have f:=u;refine tnd 0 (.pointer c) rfl (.inl ⟨by rfl,fun w' g=>by have c:World.cell? w' ⟨q2,0,none⟩=some (.pointer c):=(j.out w' g).cell (cell_of_one f.c2) f.off.1;go_simp⟩) n ?_;refine tnb 1 (.pointer c) rfl n ?_;refine tnb 2 (.pointer c) rfl n ?_;refine tnd 3 (.pointer a) rfl (.inl ⟨by rfl,fun w' g=>by have c:World.cell? w' ⟨c,0,none⟩=some (.pointer a):=(j.out w' g).cell (bA.c0 y.cor) F.out;go_simp⟩) n ?_;refine tna 4 (.int .i64 (d:Int)) rfl n ?_;refine tnd 5 (.int .i64 (s:Int)) rfl (.inl ⟨by rfl,fun w' g=>by have c:World.cell? w' ⟨q8,0,none⟩=some (.int .i64 (s:Int)):=(j.out w' g).cell (cell_of_one f.c8) f.off.2.1;go_simp⟩) n ?_;refine tnd 6 (.slice J 256 K) rfl (.inl ⟨by rfl,fun w' g=>by have c:World.cell? w' ⟨q6,0,none⟩=some (.slice J 256 K):=(j.out w' g).cell (cell_of_one f.c6) f.off.2.2.1;go_simp⟩) n ?_;refine wA9 7 ?_;go_wp2_with fail;refine((oW x.arr k.1 k.2.1 b k.2.2.1 (.slice J 256 K) u.rd u.off.2.2.2 k.2.2.2)).mono ?_;rintro e W ⟨rfl,N,L,A,I⟩;have Q:Hid (jP w a B D Z Mm nw d s b (.returned (.int .i64 0)) W):=O ⟨rfl,N,L,fun i U=>(A i U).imp id fun h=>Nat.le_trans r.keep.size h,r.keep.trans' I (fun _ _ h=>h.elim) fun _ _ h=>h⟩;have p:=z.out _ ((j.out _ n).trans I);clear n I L A r x u;go_wp2_with fail;refine⟨p,?_⟩;refine tna 8 (.int .i64 0) rfl p ?_;refine wpAnyH_done (by kernel_rfl) ?_ _;clear p j z G y f;go_wp2;go_ret;exact Q.out
theorem Hd(h:gK w c a m lb pid cp gv t B D Z Mm nw)(hT:¬B c/\¬B m/\¬B lb/\∀i,t.Own i->¬B i)(hn:nw≤50000000000):Calls Tryz.prog 98 #[.pointer c,.func (.func 99) #[.pointer a] #[]] w (gM w c a m lb pid cp gv t B D Z (fun _=>Mm) nw 0):=by
 have hbd:=h.arr.bd;have f:=O h;have Y:=O hT;have U:=O hn;have u:=O (show c<w.heap.size/\m<w.heap.size/\lb<w.heap.size/\∀i,t.Own i->i<w.heap.size from⟨lt_of_block h.cor.top,lt_of_block h.mir,lt_of_block h.liv,fun i hi=>h.cor.lst.lt hi⟩);have r:=lN w;clear h hT hn;go_in;go_wp2_with fail;have A:=O (fun i (e:B i)=>f.arr.lt e);refine(qP f.cor f.arr).mono ?_;rintro e y ⟨v0,rfl,K,j⟩;obtain⟨g,o,dc,rfl,-⟩:=oZ (Rd.of_owns K) (lD (show 0<D by omega))
 have N:=O (fun(k:Nat) (j:k<D)=>show World.cell? y ⟨g,o+k,none⟩=some (.int .i64 (k:Int)) from by
  obtain⟨g',o',cap',he,hc⟩:=oZ (Rd.of_owns K) (lD j);cases he
  exact hc)
 have Q:Hid (¬B g):=O (fun e=>by have h1:=aU K (show (Value.slice (some ⟨g,o,none⟩) D dc).ownBlock=some g from rfl);have h2:=A.out g e;omega);clear K;replace r:=kL r j;replace f:=O (f.keep0 j);clear j;go_wp2_with fail;have p:=O r.keep;have X:=O (show c<y.heap.size/\m<y.heap.size/\lb<y.heap.size/\∀i,t.Own i->i<y.heap.size from⟨Nat.lt_of_lt_of_le u.1 p.size,Nat.lt_of_lt_of_le u.2.1 p.size,Nat.lt_of_lt_of_le u.2.2.1 p.size,fun i hi=>Nat.lt_of_lt_of_le (u.2.2.2 i hi) p.size⟩);have W:Hid (qC y c a m lb pid cp gv t B D Z (fun _=>Mm) nw 0 0 y):=O ⟨B,nw,f.out,Nat.le_add_right _ _,fun i h=>.inl h,aA.refl _ _⟩;clear r f
 go_loopw [6,8,12] (fun n _ i wr=>∃k:Nat,k≤D/\n=.int .i64 (k:Int)/\i=.int .i64 (k:Int)/\Hid (qC y c a m lb pid cp gv t B D Z (fun _=>Mm) nw 0 k wr)) (fun _ _ i _=>D-(intOf i).toNat)
 case atStart=>exact⟨0,by omega,rfl,rfl,W⟩
 case round =>
  obtain⟨k,j,rfl,rfl,I⟩:=hrel
  by_cases x:k<D
  ·obtain⟨B1,nw1,G,H,E,z⟩:=I.out
   have f:=O G;have C:=O H;have M:=O E;have R:=O z;have r:=lN wr;have hk0:(0:Int)≤(k:Int):=by omega
   have hk1:(k:Int)<(D:Int):=by omega
   have J:Hid (World.cell? wr ⟨g,o+k,none⟩=some (.int .i64 (k:Int))):=O (z.cell (N.out k x) Q.out);clear G H E z I;have L:=f;have c1:wr.cell? ⟨g,o+k,none⟩=some (.int .i64 (k:Int)):=J.out;go_wp2_with fail;clear c1;refine(oY f.arr f.cor f.liv x f.cpb (f.lab _ x)).mono ?_;rintro e w2 ⟨rfl,j⟩;replace r:=kL r j;replace f:=O (f.keep0 j);replace J:=O (j.cell J.out id);clear j;go_wp2_with fail;refine((zK f.arr x (by have h1:=C.out;have h2:=U.out;omega))).mono ?_;rintro e w3 ⟨rfl,B2,nw2,ha,hn2,F,j⟩;have V:Hid (qC y c a m lb pid cp gv t B D Z (fun _=>Mm) nw 0 (k+1) w3):=O (qC.step (P:=(fun _=>Mm)) Y.out X.out L.out C.out M.out R.out r.keep ha (by omega) F j (fun d=>rfl));clear j ha hn2 F f r;clear J;go_wp2
   go_roundw
   case rel=>exact⟨k+1,by omega,by go_num,by go_num,V⟩
   case measure=>simp[intOf];omega
  ·obtain rfl:k=D:=by omega
   have HP:=O (gM.from (w0:=w) ⟨rfl,I.out⟩ p.out);clear I;go_wp2
   go_ret2
   exact HP.out
theorem He(h:gK w c a m lb pid cp gv t B D Z Mm nw)(hT:¬B c/\¬B m/\¬B lb/\∀i,t.Own i->¬B i)(hW:WrC w B c q2 q8 q6 s v b)(hs:1≤s/\s<Z)(K:b.length=256)(hn:nw≤50000000000):Calls Tryz.prog 98 #[.pointer c,.func (.func 102) #[] #[.pointer q2,.pointer q8,.pointer q6]] w (gM w c a m lb pid cp gv t B D Z (wrM Mm s b) nw 1):=by
 have hbd:=h.arr.bd;have f:=O h;have I:=O hT;have HNW:=O hn;have HW:=O hW;have HS:=O hs;have W:=O K;have u:=O (show c<w.heap.size/\m<w.heap.size/\lb<w.heap.size/\∀i,t.Own i->i<w.heap.size from⟨lt_of_block h.cor.top,lt_of_block h.mir,lt_of_block h.liv,fun i hi=>h.cor.lst.lt hi⟩);have r:=lN w;clear h hT hn hW hs K;go_in;go_wp2_with fail;have E:=O (fun i (e:B i)=>f.arr.lt e);refine(qP f.cor f.arr).mono ?_;rintro e C ⟨v0,rfl,R,j⟩;obtain⟨g,o,dc,rfl,-⟩:=oZ (Rd.of_owns R) (lD (show 0<D by omega))
 have X:=O (fun(k:Nat) (j:k<D)=>show World.cell? C ⟨g,o+k,none⟩=some (.int .i64 (k:Int)) from by
  obtain⟨g',o',cap',he,hc⟩:=oZ (Rd.of_owns R) (lD j);cases he
  exact hc)
 have Y:Hid (¬B g):=O (fun e=>by have h1:=aU R (show (Value.slice (some ⟨g,o,none⟩) D dc).ownBlock=some g from rfl);have h2:=E.out g e;omega);clear R;replace r:=kL r j;replace f:=O (f.keep0 j);replace HW:=O (HW.keep0 j);clear j;go_wp2_with fail;have p:=O r.keep;have H:=O (show c<C.heap.size/\m<C.heap.size/\lb<C.heap.size/\∀i,t.Own i->i<C.heap.size from⟨Nat.lt_of_lt_of_le u.1 p.size,Nat.lt_of_lt_of_le u.2.1 p.size,Nat.lt_of_lt_of_le u.2.2.1 p.size,fun i hi=>Nat.lt_of_lt_of_le (u.2.2.2 i hi) p.size⟩);have HST:Hid (qC C c a m lb pid cp gv t B D Z (wrM Mm s b) nw 1 0 C):=O ⟨B,nw,f.out,Nat.le_add_right _ _,fun i h=>.inl h,aA.refl _ _⟩;clear r f
 go_loopw [6,8,12] (fun n _ i wr=>∃k:Nat,k≤D/\n=.int .i64 (k:Int)/\i=.int .i64 (k:Int)/\Hid (qC C c a m lb pid cp gv t B D Z (wrM Mm s b) nw 1 k wr)) (fun _ _ i _=>D-(intOf i).toNat)
 case atStart=>exact⟨0,by omega,rfl,rfl,HST⟩
 case round =>
  obtain⟨k,j,rfl,rfl,N⟩:=hrel
  by_cases z:k<D
  ·obtain⟨B1,nw1,L,M,y,A⟩:=N.out
   have f:=O L;have G:=O M;have V:=O y;have HKW:=O A;have r:=lN wr;have hk0:(0:Int)≤(k:Int):=by omega
   have hk1:(k:Int)<(D:Int):=by omega
   have Q:Hid (World.cell? wr ⟨g,o+k,none⟩=some (.int .i64 (k:Int))):=O (A.cell (X.out k z) Y.out);have x:=O (HW.keep A y);have F:Hid (¬B1 c):=O (fun e=>(y c e).elim I.1 fun e=>by have h1:=H.1;omega);clear L M y A N;have U:=f;have c1:wr.cell? ⟨g,o+k,none⟩=some (.int .i64 (k:Int)):=Q.out;go_wp2_with fail;clear c1;refine(oY f.arr f.cor f.liv z f.cpb (f.lab _ z)).mono ?_;rintro e w2 ⟨rfl,j⟩;replace r:=kL r j;replace f:=O (f.keep0 j);replace Q:=O (j.cell Q.out id);replace x:=O (x.keep0 j);clear j;go_wp2_with fail;refine((ER f.out x.out F.out z HS.2 W.out (by have h1:=G.out;have h2:=HNW.out;omega))).mono ?_;rintro e w3 ⟨rfl,B2,ha,J,j⟩;have HNX:Hid (qC C c a m lb pid cp gv t B D Z (wrM Mm s b) nw 1 (k+1) w3):=O (qC.step (P:=(wrM Mm s b)) I.out H.out U.out G.out V.out HKW.out r.keep ha (Nat.le_refl _) J j (fun d=>by show fV _ _ _ _ d 0=_;unfold fV;rw[if_neg fun e=>by have h1:=HS.1;omega]));clear j ha J x f r;clear Q;go_wp2
   go_roundw
   case rel=>exact⟨k+1,by omega,by go_num,by go_num,HNX⟩
   case measure=>simp[intOf];omega
  ·obtain rfl:k=D:=by omega
   have HP:=O (gM.from (w0:=w) ⟨rfl,N.out⟩ p.out);clear N;go_wp2
   go_ret2
   exact HP.out
theorem Ak(h:gK w c a m lb pid cp gv t B D Z Mm nw)(o:¬B c/\¬B m/\¬B lb/\∀i,t.Own i->¬B i)(x:nw≤50000000000)(n:Value)(u:Ub)(z:UbV w n u):Calls Tryz.prog 54 #[.pointer c,.agg (dW n u).toArray] w (gM w c a m lb pid cp gv t B D Z (fun _=>Mm) nw 0):=by
 have d:=O h;have k:=O o;have j:=O x;obtain⟨A,f⟩:∃l,dW n u=l:=⟨_,rfl⟩
 rw[f];have g:=lN w;clear h o x z f;go_in
 go_wp2_with ((with_reducible show WL _ _);refine bxL g 45 (.tmp 1) (A.toArray) ?_)
 intro E C p g;replace d:=O (d.keep0 p);clear p;have c1:C.cell? ⟨c,0,none⟩=some (.pointer a):=(bA.c0 d.cor)
 go_wp2_with fail;clear c1;refine((Hd d.out k.out j.out)).mono ?_;rintro e F r;have y:=O (r.from g.keep);obtain⟨rfl,-⟩:=r;clear g d;go_wp2
 go_ret2
 exact y.out
theorem wZ{u:Ub}(h:UbV w v u):∀x∈dW v u,x.oneCell'=true:=by
 intro x d;unfold dW at d;rcases List.mem_cons.1 d with rfl|d
 ·rfl
 ·rcases List.mem_append.1 d with d|d
  ·exact aT h.root x d
  ·rcases List.mem_cons.1 d with rfl|d
   ·rfl
   ·obtain⟨y,-,rfl⟩:=List.mem_map.1 d
    rfl
theorem Hf(h:gK w c a m lb pid cp gv t B D Z Mm nw)(hT:¬B c/\¬B m/\¬B lb/\∀i,t.Own i->¬B i)(hn:nw≤50000000000)(L:Value)(u:Ub)(J:UbV w L u)(C:u.may=true):Calls Tryz.prog 55 #[.pointer c,.agg (dW L u).toArray] w (gM w c a m lb pid cp gv t B D Z (wrM Mm (iS u.txg).toNat (iR u)) nw 1):=by
 have o:=O h;have HTP:=O hT;have HNW:=O hn;have f:=O J;have HMY:=O C;have p:=O (fun i (e:B i)=>h.arr.lt e);have HZ:=O h.arr.bd;have I:=JN J.pool J.root.sum C
 have H:Hid (1≤u.txg/\u.txg≤2147483648):=O (by
  unfold Ub.may at C;simp only[Bool.and_eq_true,decide_eq_true_eq] at C;exact⟨C.1.1.1.1,C.1.1.1.2⟩)
 obtain⟨s,hs,hs1,hs4⟩:∃s:Nat,iS u.txg=(s:Int)/\1≤s/\s≤4:=by
  have A:=H.out;have e:lZ u.txg=true:=by unfold lZ;rw[decide_eq_true A.1,decide_eq_true A.2];rfl
  refine⟨(iS u.txg).toNat,?_,?_,?_⟩<;>(unfold iS;rw[if_pos e];omega)
 have HSL:=O hs;rw[show (iS u.txg).toNat=s from by rw[hs];rfl];obtain⟨bs,j⟩:∃l,iR u=l:=⟨_,rfl⟩
 have HPK:=O j;rw[j] at I ⊢;have HPL:=O I;obtain⟨tx,V⟩:∃x,u.txg=x:=⟨_,rfl⟩
 have F:=O V;have W:=kX (v:=L) J.root.sum J.pool;have r:∀x∈dW L u,x.oneCell'=true:=wZ J;obtain⟨uc,z⟩:∃l,dW L u=l:=⟨_,rfl⟩
 have Q:=O z;rw[z] at W r ⊢;have HOU:=O r;have g:=lN w;clear h hT hn J C hs j r z V;go_in
 go_wp2_with ((with_reducible show WL _ _);refine bxL g 39 (.tmp 0) (#[.pointer c]) ?_)
 intro b2 w1 d g;replace o:=O (o.keep0 d);replace f:=O (f.keep d fun _ _=>id);clear d
 go_wp2_with ((with_reducible show WL _ _);refine bxL g 45 (.tmp 1) (uc.toArray) ?_)
 intro b3 w2 d g;replace o:=O (o.keep0 d);replace f:=O (f.keep d fun _ _=>id);clear d
 go_wp2_with ((with_reducible show WL _ _);refine wpList_load_mid rfl 45 (.tmp 3) rfl b3 0 rfl uc _ (aD (g.b 0)) lG rfl (by rw[W];exact nZ) ?_)
 have HW0:=O g.keep.size;refine((by rw[←Q.out];exact JR w2 L u f.out:Calls _ _ _ w2 (BR w2 u))).mono ?_;rintro e w3 ⟨v,rfl,K,d⟩;rw[HMY.out];rw[HPK.out,I] at K;obtain⟨va,vc,rfl,-,-⟩:=(Rd.of_owns K).form;have k:=O (Rd.of_owns K);have N:Hid (∀i,(Value.slice va 256 vc).ownBlock=some i->w.heap.size≤i/\i<w3.heap.size):=O (fun i G=>⟨Nat.le_trans HW0.out (aU K G),by obtain⟨cur,hc⟩:=aO K G;exact lt_of_block hc⟩);clear K;replace g:=kL g d;replace o:=O (o.keep0 d);replace f:=O (f.keep d fun _ _=>id);clear d
 go_wp2_with ((with_reducible show WL _ _);refine al 109 (.slice none 0 0) (#[.slice none 0 0]) NJ ?_)
 intro Y w4 j y n
 go_wp2_with ((with_reducible show WL _ _);refine sta 109 (.tmp 6) (.tmp 13) Y 0 ([.slice va 256 vc]) n (by first|decide|(rw[List.size_toArray,rfl];exact Nat.le_refl _)|simp[]) (by kernel_rfl) (one9) ?_)
 intro X d E;replace E:X.heap[Y]?=some (.cells #[.slice va 256 vc] 109 (0,0)):=E;replace d:=tX y d (fun i G e=>by omega);have M:=O (show w3.heap.size≤Y from Nat.le_of_eq j);replace g:=lW g j d E;replace o:=O (o.keep0 d);replace f:=O (f.keep d fun _ _=>id);replace k:=O (k.keep d fun _ _=>id);clear j d E y n;have c1:X.cell? ⟨b3,0,none⟩=some (.int .i64 tx):=(aC (i:=0) (g.b 1) (by rw[←Q.out,←F.out];rfl))
 go_wp2_with fail;clear c1;refine((by rw[←F.out];exact LL X u.txg (by have A:=H.out;omega) (by have A:=H.out;omega):Calls _ _ _ X (yI X u.txg))).mono ?_;rintro e w6 ⟨rfl,d⟩;replace g:=kL g d;replace o:=O (o.keep0 d);replace f:=O (f.keep d fun _ _=>id);replace k:=O (k.keep d fun _ _=>id);clear d;rw[HSL.out];obtain⟨sb,U⟩:∃b,lZ u.txg=b:=⟨_,rfl⟩
 rw[U];clear U
 go_wp2_with ((with_reducible show WL _ _);refine al 3 (.int .i64 0) (#[.int .i64 0]) Oi ?_)
 intro b8 w7 j y n
 go_wp2_with ((with_reducible show WL _ _);refine sta 3 (.tmp 8) (.tmp 19) b8 0 ([.int .i64 (s:Int)]) n (by first|decide|(rw[List.size_toArray,rfl];exact Nat.le_refl _)|simp[]) (by kernel_rfl) (one9) ?_)
 intro w8 d E;replace E:w8.heap[b8]?=some (.cells #[.int .i64 (s:Int)] 3 (0,0)):=E;replace d:=tX y d (fun i G e=>by omega);replace g:=lW g j d E;replace o:=O (o.keep0 d);replace f:=O (f.keep d fun _ _=>id);replace k:=O (k.keep d fun _ _=>id);clear j d E y n;have c1:w8.cell? ⟨b2,0,none⟩=some (.pointer c):=(aC (i:=0) (g.b 3) rfl)
 go_wp2_with fail;clear c1;have R:Hid (WrC w8 B c b2 b8 Y s (.slice va 256 vc) bs):=O ⟨g.b 3,g.b 0,g.b 1,k.out,⟨fun e=>by have A:=p.out _ e;have h2:=g.lt 3;omega,fun e=>by have A:=p.out _ e;have h2:=g.lt 0;omega,fun e=>by have A:=p.out _ e;have h2:=g.lt 1;omega,fun i G e=>by have A:=p.out _ e;have h2:=N.out i G;omega⟩,(g.lt 3).2,(g.lt 0).2,(g.lt 1).2,fun i G=>by have A:=(N.out i G).2;have h2:=M.out;have h3:=(g.lt 1).2;omega⟩;refine((He o.out HTP.out R.out ⟨hs1,by have A:=HZ.out;omega⟩ HPL.out HNW.out)).mono ?_;rintro e w9 C;have HP:=O (C.from g.keep);obtain⟨rfl,-⟩:=C;clear g o f k R;go_wp2
 go_ret2
 exact HP.out
theorem Cf{d:Func}{p:Tmp}{f:TypeId}(h:d.results=#[.cell p f])(tmps:Array Value)(P:Program)(w:World)(a:Addr)(x:Value)(e:tmps.getD p undef=.pointer (some a))(g:(loadVar f a).run P w=.ok x w) :
 (results d tmps).run P w=.ok x w:=by
 simp only[results,h];simp only[Array.getD_eq_getD_getElem?] at e;simp[asAddr,e,g]
theorem Hg(w:World)(v:Value)(D:Nat)(h:0<D)(e:Rd w 1 v D (kH D)):Calls Tryz.prog 96 #[v,.bool true] w (aN w (.int .i64 0)):=by
 obtain⟨g,o,j,rfl,d⟩:=oZ e (show (kH D)[0]?=some (.bool true) by unfold kH;rw[List.getElem?_replicate];exact if_pos h);have f:=O d;have k:(0:Int)<(D:Int):=by omega
 clear e d;go_in;go_wp2_with fail
 go_loopw [5,8] (fun _ i wr=>i=.int .i64 0/\wr=w) (fun _ _ _=>0)
 case atStart=>exact⟨rfl,rfl⟩
 case round =>
  obtain⟨rfl,rfl⟩:=hrel;have c1:wr.cell? ⟨g,o,none⟩=some (.bool true):=f.out;go_wp2;go_ret;exact aN.of (aA.refl _ _)
theorem Cg(w:World)(v:Value)(D:Nat)(i:0<D)(f:Rd w 1 v D (kH D)):Calls Tryz.prog 52 #[v,.bool true] w (aN w (.bool true)):=by
 have g:=O (Hg w v D i f);clear f;go_in;go_wp2_with fail;refine g.mono ?_;rintro e j ⟨rfl,d⟩;have h:=O d;clear d;go_wp2;go_ret;exact aN.of h.out
def Hh(w:World)(v:Value):Prop:=∀i,v.ownBlock=some i->∃d T,w.heap[i]?=some (.cells d T (0,0))
theorem Hh.keep{T:Nat->Prop}(h:Hh w v)(k:aA T w w')(g:∀i,v.ownBlock=some i->¬T i):Hh w' v:=fun i d=>by
 obtain⟨f,U,e⟩:=h i d;exact⟨f,U,k.blk e (g i d)⟩
def Hi:List Value:=dW (.slice none 0 0) ⟨0,zPt,0,List.replicate 32 0⟩
theorem D9:Hi.length=69:=rfl
theorem OJ:Hid (∀w,(zeroValue 45).run Tryz.prog w=.ok (.agg Hi.toArray) w):=O fun w=>by kernel_rfl
theorem LM(f g:Nat->Value)(x n:Int):Tryz.prog.built 45 [(0,.int .i64 x),(1,.agg ((List.range 35).map f).toArray),(2,.int .i64 n),(3,.agg ((List.range 32).map g).toArray)]=some (Value.int .i64 x::((List.range 35).map f++(.int .i64 n::(List.range 32).map g))).toArray:=by kernel_rfl
theorem LN(d:List Value)(h:d.length=35):d=(List.range 35).map fun i=>d.getD i undef:=by
 apply List.ext_getElem?;intro i;rw[List.getElem?_map]
 by_cases e:i<35
 ·rw[List.getElem?_range e,List.getElem?_eq_getElem (by omega)]
  simp[List.getD,List.getElem?_eq_getElem (show i<d.length by omega)]
 ·rw[List.getElem?_eq_none (by omega),List.getElem?_eq_none (by simp;omega)];rfl
theorem LO(v:Value)(u:Ub)(e:u.root.sum.length=32)(d:u.pool.length=32)(w:World):(Instr.build 45 #[(0,.int .i64 u.txg),(1,.agg (aE v u.root).toArray),(2,.int .i64 u.len),(3,.agg (u.pool.map vb).toArray)]).run Tryz.prog w=.ok (.agg (dW v u).toArray) w:=by
 refine run_build w 45 _ _ ?_;unfold dW;rw[LN (aE v u.root) (aJ e),AM (u.pool.map vb) (by rw[List.length_map,d])];exact LM _ _ _ _
theorem N9(a m:Nat)(pid:List UInt8)(g:pid.length=32)(cp:Nat)(lv gv:Value)(t:Lst)(rv:Value)(u:Ub)(d:(dW t.rv t.u).length=69)(e:(dW rv u).length=69):spl (eZ a m pid cp lv gv t).toArray 39 (dW rv u)=(eZ a m pid cp lv gv ⟨rv,u,t.ov,t.ol,t.vv,t.vl⟩).toArray:=by
 have h:=lI (.pointer a::.pointer m::(pid.map vb++[.int .i64 (cp:Int),lv,gv,t.ov,t.vv])) (dW t.rv t.u) (dW rv u) [.bool false] (by rw[d,e]);have f:(.pointer a::.pointer m::(pid.map vb++[.int .i64 (cp:Int),lv,gv,t.ov,t.vv])).length=39:=by simp[g]
 rw[f] at h;unfold eZ gX
 simpa [List.append_assoc] using h
def Ea(w:World)(c a m lb:Nat)(pid:List UInt8)(cp:Nat)(gv:Value)(t:Lst)(B:Nat->Prop)(D Z:Nat)(Mm:Nat->Nat->List UInt8)(nw k:Nat)(w':World):Prop:=
 ∃B' e M',gK w' c a m lb pid cp gv t B' D Z M' e/\e≤nw+D*(k / 2)/\(∀d s,5≤s->M' d s=Mm d s)/\(∀i,B' i->B i\/w.heap.size≤i)/\aA B w w'
def xA(w:World)(c a m lb g j:Nat)(o:Nat->Option Nat)(pid:List UInt8)(cp:Nat)(t:Lst)(B:Nat->Prop)(D Z:Nat)(Mm:Nat->Nat->List UInt8)(h:List Ad)(p:Pt)(n:Int)(e:Ending)(w':World):Prop:=
 e=.returned (.int .i64 0)/\∃B' f rv M',(∀d s,5≤s->M' d s=Mm d s)/\gS w' c a m lb g j o pid cp ⟨rv,⟨t.u.txg+1,p,n,pid⟩,t.ov,t.ol,t.vv,t.vl⟩ B' D Z M' f h/\(∀i,B' i->B i\/w.heap.size≤i)/\eR w rv/\aA (fun k=>B k\/k=c) w w'
theorem ES{g b2:Nat}{lc:Nat->Option Nat}{Ls:List Ad}(h:gS w c a m lb g b2 lc pid cp t B D Z Mm nw Ls)(ht:0≤t.u.txg/\t.u.txg+1<2147483648)(pv:Value)(p:Pt)(hp:PtV w pv p)(hpl:p.addrs.length≤65536)(n:Int)(hm:Ub.may ⟨t.u.txg+1,p,n,pid⟩=true):Calls Tryz.prog 21 #[.pointer c,.agg (aE pv p).toArray,.int .i64 n] w (xA w c a m lb g b2 lc pid cp t B D Z Mm Ls p n):=by
 have hbd:=h.led.bd;have F:=O h;have HIW:=O h;have W:=O hp;have HPL:=O hpl;have HMY:=O hm;have HT:=O ht;have HMN:=O h.many;have L:=O h.cor.cor.idl;have HADS:=O hp.ads;have HSUM:=O hp.sum;have J:=O h.top;have K:=O h.far;have X:=O (fun i (e:B i)=>h.lt (.inl e));have V:=O (show c<w.heap.size/\m<w.heap.size/\lb<w.heap.size/\(∀i,t.Own i->i<w.heap.size)/\∀i,Own g b2 lc D i->i<w.heap.size from⟨lt_of_block h.cor.cor.top,lt_of_block h.cor.mir,lt_of_block h.cor.liv,fun i x=>h.cor.cor.lst.lt x,fun i x=>h.lt (.inr x)⟩);have hpc:=aJ (v:=pv) hp.sum;have HOP0:=aT hp;obtain⟨pc,hpce⟩:∃l,aE pv p=l:=⟨_,rfl⟩
 have HOP:Hid (∀u∈pc,u.oneCell'=true):=O (by rw[←hpce];exact HOP0);have HPC:=O hpce;have HPS:Hid (∃r,pc=pv::r):=O ⟨_,hpce.symm⟩;rw[hpce] at hpc ⊢;have z:=lN w;clear h hp hpl ht hm HOP0 hpce
 go_enter_defers Tryz.func21,Tryz.ntmps21
 go_wp2_with ((with_reducible show WL _ _);refine bxL z 27 (.tmp 1) (pc.toArray) ?_)
 intro b4 w1 j z;replace F:=O (F.keep0 j);replace W:=O (W.keep j fun _ _=>id);clear j
 go_wp2_with ((with_reducible show WL _ _);refine alL z 49 (.int .i64 0) (#[.int .i64 0]) kF ?_)
 intro b6 w2 j z;replace F:=O (F.keep0 j);replace W:=O (W.keep j fun _ _=>id);clear j;go_wp2_with fail;refine(qN F.cor.cor F.cor.arr).mono ?_;rintro e w3 ⟨rfl,j⟩;replace z:=kL z j;replace F:=O (F.keep0 j);replace W:=O (W.keep j fun _ _=>id);clear j;have c1:w3.cell? ⟨b4,0,none⟩=some (pv):=(by obtain⟨r,e⟩:=HPS.out;exact aC (i:=0) (z.b 1) (by rw[e];rfl))
 go_wp2_with fail;clear c1;have HSZ:=O z.keep.size;refine((nH w3 pv p.addrs W.rd HPL.out)).mono ?_;rintro e w4 ⟨Q,rfl,ho,j⟩;obtain⟨va,vc,rfl,-,-⟩:=(Rd.of_owns ho).form;have HPV:Hid (PtV w4 (.slice va p.addrs.length vc) p):=O ⟨Rd.of_owns ho,HADS.out,HSUM.out⟩
 have HNW:Hid (∀i,(Value.slice va p.addrs.length vc).ownBlock=some i->w.heap.size≤i/\w3.heap.size≤i/\i<w4.heap.size/\∃cs T,w4.heap[i]?=some (.cells cs T (0,0))):=O (fun i x=>by
  obtain⟨cur,hc⟩:=aO ho x;exact⟨Nat.le_trans HSZ.out (aU ho x),aU ho x,lt_of_block hc,_,_,hc⟩)
 have HB46:=O (And.intro (z.lt 0).2 (z.lt 1).2);have C:Hid (Hh w4 (.slice va p.addrs.length vc)):=O fun i x=>(HNW.out i x).2.2.2
 clear ho;replace z:=kL z j;replace F:=O (F.keep0 j);replace W:=O (W.keep j fun _ _=>id);clear j;clear W
 go_wp2_with ((with_reducible show WL _ _);refine sta 23 (.tmp 22) (.tmp 21) b4 0 [.slice va p.addrs.length vc] (z.b 1) (by rw[List.size_toArray,hpc];simp) (by kernel_rfl) (one9) ?_)
 intro w5 j M;rw[←HPC.out,DG] at M;have hF:∀i,i=b4->i≠c/\i≠m/\i≠lb/\¬B i/\¬Own g b2 lc D i/\¬t.Own i:=HIW.fresh (z.lt 1).1;replace F:=O (F.keepT j hF);have hne:∀i,(Value.slice va p.addrs.length vc).ownBlock=some i->i≠b4:=fun i x e=>by have E:=(HNW.out i x).2.1;have G:=HB46.out;omega
 replace HPV:=O (HPV.keep j hne);replace C:=O (C.keep j hne);replace z:=O (z.set 1 j M);obtain⟨Q,hv1⟩:∃v,Value.slice va p.addrs.length vc=v:=⟨_,rfl⟩
 rw[hv1] at HPV HNW C;have hqc:=aJ (v:=Q) HSUM.out;obtain⟨qc,hqce⟩:∃l,aE Q p=l:=⟨_,rfl⟩
 have HOQ:Hid (∀u∈qc,u.oneCell'=true):=O (by rw[←hqce];exact aT HPV.out);have HQC:=O hqce;rw[hv1,hqce] at z;rw[hqce] at hqc;obtain⟨u,hu⟩:∃u:Ub,⟨t.u.txg+1,p,n,pid⟩=u:=⟨_,rfl⟩
 have HUE:=O hu;have HMU:Hid (u.may=true):=O (by rw[←hu];exact HMY.out);have I:=kX (v:=Q) (u:=u) (by rw[←hu];exact HSUM.out) (by rw[←hu];exact L.out);have hbu:=LO Q u (by rw[←hu];exact HSUM.out) (by rw[←hu];exact L.out);have o:=O (UbV.mk (w:=w5) (v:=Q) (u:=u) (by rw[←hu];exact HPV.out) (by rw[←hu];exact L.out));have HOU0:=wZ o.out;obtain⟨uc,huce⟩:∃l,dW Q u=l:=⟨_,rfl⟩
 have HUC:=O huce;have HOU:Hid (∀y∈uc,y.oneCell'=true):=O (by rw[←huce];exact HOU0);rw[huce] at I hbu;rw[←hu] at hbu;rw[hqce] at hbu;have HBU:=O hbu;have htx:0≤t.u.txg/\t.u.txg+1<2147483648:=HT.out;clear j M hF hne hv1 hqce hu hbu HOU0 huce HPV;go_wp2_with fail;refine dwB aB (by kernel_rfl) ?_;intro w6 S HSE HSI hS hkd;replace z:=kL z hkd;replace F:=O (F.keep0 hkd);replace o:=O (o.keep hkd fun _ _=>id);replace C:=O (C.keep hkd fun _ _=>id);clear hkd;have HLs:=z;have HIs:=F;have HUVs:=o;have HVCs:=C;refine tna 0 (.pointer c) rfl hS ?_;refine tnb 1 (.pointer c) rfl hS ?_;refine tnb 2 (.pointer (some ⟨c,39,none⟩)) rfl hS ?_;refine tnb 3 (.pointer (some ⟨c,39,none⟩)) rfl hS ?_;refine tnd 4 (.int .i64 t.u.txg) rfl (.inl ⟨by rfl,fun w' hw'=>by have c:World.cell? w' ⟨c,39,none⟩=some (.int .i64 t.u.txg):=(HSE.out w' hw').cell (bA.txg_ HIs.cor.cor) id;go_simp⟩) hS ?_;refine tnd 5 (.int .i64 (t.u.txg+1)) rfl (.inl ⟨by rfl,fun _ _=>by go_simp;exact IntWalk.i64_in _ (by omega)⟩) hS ?_;refine tnd 6 (.agg qc.toArray) rfl (yieldsIf_load_mid (by rfl) 27 (.tmp 4) rfl b4 0 rfl qc _ (fun w' h=>aD ((HSE.out w' h).blk (HLs.b 1) id)) aH rfl (szP9 hqc)) hS ?_;refine tna 7 (.int .i64 n) rfl hS ?_;refine tna 8 (.pointer c) rfl hS ?_;refine tnb 9 (.pointer c) rfl hS ?_;refine tnb 10 (.pointer (some ⟨c,2,none⟩)) rfl hS ?_;refine tnd 11 (.agg (pid.map vb).toArray) rfl (yieldsIf_load_mid (by rfl) 25 (.tmp 33) rfl c 2 rfl (pid.map vb) _ (fun w' h=>(HSE.out w' h).rangeAt (bA.id_ HIs.cor.cor)) Tryz.underlying25 rfl (by rw[List.length_map,L.out];exact uU)) hS ?_;refine tnd 12 (.agg uc.toArray) rfl (fH 45 #[(0,.tmp 28),(1,.tmp 29),(2,.tmp 30),(3,.tmp 34)] [(0,.int .i64 (t.u.txg+1)),(1,.agg qc.toArray),(2,.int .i64 n),(3,.agg (pid.map vb).toArray)] (.agg uc.toArray) HBU.out) hS ?_;refine wA9 13 ?_;refine al 45 (.agg Hi.toArray) (Hi.toArray) OJ ?_;intro b8 w7 hbs j M;have HNb8:=O (show w6.heap.size≤b8 from by have:=(HSE.out _ hS).size;omega);have hS1:=HSI.out _ ((HSE.out _ hS).trans j);clear hS;replace z:=lW z hbs j M;replace F:=O (F.keep0 j);replace o:=O (o.keep j fun _ _=>id);replace C:=O (C.keep j fun _ _=>id);clear hbs j M;refine wpList_nil ?_;refine⟨hS1,?_⟩;refine wA9 14 ?_;refine sta 45 (.tmp 8) (.tmp 35) b8 0 uc (z.b 0) (by first|decide|(rw[I];exact Nat.le_refl _)|simp[I,D9]) (by rw[I];exact nZ) HOU.out ?_;intro w8 j M;rw[aK _ _ (by first|rfl|simp[I,D9])] at M;have hS2:=HSI.out _ ((HSE.out _ hS1).trans' j (fun _ _ h=>h) (fun i x e=>by have:=HNb8.out;omega));clear hS1;replace z:=O (z.set 0 j M);replace F:=O (F.keepT j (HIW.fresh (by have E:=HNb8.out;have G:=HLs.keep.size;omega)));replace o:=O (o.keep j fun i x e=>by obtain⟨cs_,T_,h_⟩:=HVCs.out i x;have E:=lt_of_block h_;have G:=HNb8.out;omega);replace C:=O (C.keep j fun i x e=>by obtain⟨cs_,T_,h_⟩:=HVCs.out i x;have E:=lt_of_block h_;have G:=HNb8.out;omega);clear j M;refine wpList_nil ?_;refine⟨hS2,?_⟩;refine wpAnyH_done (by kernel_rfl) ?_ _;clear hS2 HSE HSI HLs HIs HUVs HVCs;refine noP ?_
 go_wp2_with ((with_reducible show WL _ _);refine wpList_load_mid rfl 45 (.tmp 8) rfl b8 0 rfl uc _ (aD (z.b 0)) lG rfl (by rw[I];exact nZ) ?_)
 refine((by rw[←HUC.out];exact sN w8 Q u o.out:Calls _ _ _ w8 (lQ w8 u.may))).mono ?_;rintro e w9 ⟨rfl,j⟩;replace z:=kL z j;replace F:=O (F.keep0 j);replace o:=O (o.keep j fun _ _=>id);replace C:=O (C.keep j fun _ _=>id);clear j;rw[HMU.out];go_wp2_with fail;refine(AK F.cor).mono ?_;rintro e wa ⟨v2,rfl,ho,j⟩;obtain⟨xa,xc,rfl,-,-⟩:=(Rd.of_owns ho).form;have HO:=O (Rd.of_owns ho);clear ho;replace z:=kL z j;replace F:=O (F.keep0 j);replace o:=O (o.keep j fun _ _=>id);replace C:=O (C.keep j fun _ _=>id);clear j;go_wp2_with fail;refine((Cg wa (.slice xa D xc) D (by omega) HO.out)).mono ?_;rintro e wb ⟨rfl,j⟩;replace z:=kL z j;replace F:=O (F.keep0 j);replace o:=O (o.keep j fun _ _=>id);replace C:=O (C.keep j fun _ _=>id);replace HO:=O (HO.keep j fun _ _=>id);clear j;clear HO;obtain⟨wc,hw_wc,j,M,-⟩:=aS wb #[.func (.func 54) #[] #[],.func (.func 55) #[] #[],.func (.func 54) #[] #[]] 118;obtain⟨b45,hbs⟩:∃b,wb.heap.size=b:=⟨_,rfl⟩
 rw[hbs] at M;replace z:=lW z hbs j M;have HBSb45:=O hbs;replace F:=O (F.keep0 j);replace o:=O (o.keep j fun _ _=>id);replace C:=O (C.keep j fun _ _=>id);clear j M hbs;go_wp2_with fail;clear hw_wc;rw[HBSb45.out];have HKW:=O z.keep;have HB6:=O (z.b 2);have HB8:=O (z.b 1);have HB45:=O (z.b 0);have HB6L:=O (z.lt 2).2;have HCM:Hid (m≠c/\lb≠c):=O ⟨fun e=>by (have E:=F.cor.mir;rw[eQ,e,F.cor.cor.top] at E;cases E),fun e=>by (have E:=F.cor.liv;rw[e,F.cor.cor.top] at E;have G:=Option.some.inj E;injection G with h3 h4;exact absurd h4 (by decide))⟩;have HG:=O (And.intro (z.lt 2).1 (And.intro (z.lt 1).1 (z.lt 0).1));have HIL:=F;have HUVL:=o;have HVN:Hid (∀i,Q.ownBlock=some i->¬B i/\i≠b6/\w.heap.size≤i/\i<wc.heap.size):=O (fun i x=>⟨fun e=>by have E:=X.out i e;have G:=(HNW.out i x).1;omega,fun e=>by have E:=(HNW.out i x).2.1;have G:=HB46.out;omega,(HNW.out i x).1,by (obtain⟨cs,T,h⟩:=C.out i x;exact lt_of_block h)⟩);have HNW0:Hid (nw≤40000000000/\D*2≤16):=O (by have E:=HMN.out;have G:=HT.out;omega);have HST:Hid (Ea wc c a m lb pid cp (.pointer g) t B D Z Mm nw 0 wc):=O ⟨B,nw,Mm,F.cor,by omega,fun _ _ _=>rfl,fun i h=>.inl h,aA.refl _ _⟩;have Y:Hid (wc.heap.size ≥ w.heap.size):=O HKW.size;clear z F o
 go_loopw [9,10,11,12,47] (fun _ _ _ _ i wr=>∃k:Nat,k≤3/\i=.int .i64 (k:Int)/\Hid (Ea wc c a m lb pid cp (.pointer g) t B D Z Mm nw k wr)) (fun _ _ _ _ i _=>3-(intOf i).toNat)
 case atStart=>exact⟨0,by omega,rfl,HST⟩
 case round =>
  obtain⟨k,j,rfl,HC⟩:=hrel;obtain⟨B1,H,M1,hcb,hn1,hM1,hb1,hkw⟩:=HC.out;have hD:2≤D/\D≤8:=⟨hbd.1,hbd.2.1⟩
  have HN1:Hid (H≤50000000000):=O (by
   have E:=HNW0.out;have G:D*(k / 2)≤8*2:=Nat.mul_le_mul hD.2 (by omega);omega)
  have HN2:=O hn1;have A:=O hcb;have HM1:=O hM1;have R:=O hb1;have HK1:=O hkw;have o:=O (HUVL.keep hkw fun i x=>(HVN.out i x).1);have hnb:∀i,w.heap.size≤i->i<wc.heap.size->¬B i:=fun i x _ e=>by have E:=X.out i e;omega
  have hR8:wr.heap[b8]?=some (.cells uc.toArray 45 (0,0)):=hkw.blk HB8.out fun e=>by have E:=X.out _ e;have G:=HG.out;omega
  have hR45:wr.heap[b45]?=some (.cells #[.func (.func 54) #[] #[],.func (.func 55) #[] #[],.func (.func 54) #[] #[]] 118 (0,0)):=hkw.blk HB45.out fun e=>by have E:=X.out _ e;have G:=HG.out;omega
  have hR6:wr.heap[b6]?=some (.cells #[.int .i64 0] 49 (0,0)):=hkw.blk HB6.out fun e=>by have E:=X.out _ e;have G:=HG.out;omega
  have HR8:=O hR8;have HR45:=O hR45;have HR6:=O hR6;have HTP:Hid (¬B1 c/\¬B1 m/\¬B1 lb/\∀i,t.Own i->¬B1 i):=O ⟨fun e=>(hb1 c e).elim J.1 fun e=>by have E:=V.1;have G:=Y.out;omega,fun e=>(hb1 m e).elim J.2.1 fun e=>by have E:=V.2.1;have G:=Y.out;omega,fun e=>(hb1 lb e).elim J.2.2.1 fun e=>by have E:=V.2.2.1;have G:=Y.out;omega,fun i x e=>(hb1 i e).elim (J.2.2.2 i x).1 fun e=>by have E:=V.2.2.2.1 i x;have G:=Y.out;omega⟩;have hD0:¬(D:Int)=0:=by omega
  have dD0:((D:Int) == 0)=false:=by rw[beq_eq_false_iff_ne];exact hD0
  have dD1:decide ((D:Int)=0)=false:=decide_eq_false hD0;clear hcb hn1 hM1 hb1 hkw hR8 hR45 hR6 HC;have hk4:k=0\/k=1\/k=2\/k=3:=by omega
  rcases hk4 with rfl|rfl|rfl|rfl
  ·have z:=lN wr
   have c1:wr.cell? ⟨b45,0,none⟩=some (.func (.func 54) #[] #[]):=(aC (i:=0) HR45.out rfl)
   go_wp2_with ((with_reducible show WL _ _);refine wpList_load_mid rfl 45 (.tmp 8) rfl b8 0 rfl uc _ (aD HR8.out) lG rfl (by rw[I];exact nZ) ?_)
   clear c1;have HLK:=O z.keep;refine((by rw[←HUC.out];exact Ak A.out HTP.out HN1.out Q u o.out:Calls _ _ _ wr (gM wr c a m lb pid cp (.pointer g) t B1 D Z (fun _=>M1) H 0))).mono ?_;rintro e wd ⟨rfl,B2,N,hc2,hn2,hb2,hk2⟩;have HNX:Hid (Ea wc c a m lb pid cp (.pointer g) t B D Z Mm nw 1 wd):=O ⟨B2,N,_,hc2,(by have E:H≤nw+D*0:=HN2.out;have G:N≤H+0*D:=hn2;show N≤nw+D*0;omega),fun d s hs=>HM1.out d s hs,fun i x=>(hb2 i x).elim (R.out i) (fun e=>.inr (by have E:=HK1.size;have G:=HLK.size;omega)),HK1.trans' (HLK.trans' hk2 (fun _ _ h=>h.elim) (fun _ _ h=>h)) (fun _ _ h=>h) (fun i x e=>(R.out i e).elim id (fun e=>by omega))⟩;clear z A o hc2 hn2 hb2 hk2;go_wp2
   go_roundw
   case rel=>exact⟨1,by omega,by go_num,HNX⟩
   case measure=>simp[intOf]
  ·have z:=lN wr
   have HSLT:Hid ((iS u.txg).toNat≤4):=O (by unfold iS;split<;>omega);have c1:wr.cell? ⟨b45,1,none⟩=some (.func (.func 55) #[] #[]):=(aC (i:=1) HR45.out rfl)
   go_wp2_with ((with_reducible show WL _ _);refine wpList_load_mid rfl 45 (.tmp 8) rfl b8 0 rfl uc _ (aD HR8.out) lG rfl (by rw[I];exact nZ) ?_)
   clear c1;have HLK:=O z.keep;refine((by rw[←HUC.out];exact Hf A.out HTP.out HN1.out Q u o.out HMU.out:Calls _ _ _ wr (gM wr c a m lb pid cp (.pointer g) t B1 D Z (wrM M1 (iS u.txg).toNat (iR u)) H 1))).mono ?_;rintro e wd ⟨rfl,B2,N,hc2,hn2,hb2,hk2⟩;have HNX:Hid (Ea wc c a m lb pid cp (.pointer g) t B D Z Mm nw 2 wd):=O ⟨B2,N,_,hc2,(by have E:H≤nw+D*0:=HN2.out;have G:N≤H+1*D:=hn2;show N≤nw+D*1;omega),fun d s hs=>by rw[show _=M1 d s from BS M1 _ _ D d s (fun e=>by have E:=HSLT.out;omega)];exact HM1.out d s hs,fun i x=>(hb2 i x).elim (R.out i) (fun e=>.inr (by have E:=HK1.size;have G:=HLK.size;omega)),HK1.trans' (HLK.trans' hk2 (fun _ _ h=>h.elim) (fun _ _ h=>h)) (fun _ _ h=>h) (fun i x e=>(R.out i e).elim id (fun e=>by omega))⟩;clear z A o hc2 hn2 hb2 hk2;go_wp2
   go_roundw
   case rel=>exact⟨2,by omega,by go_num,HNX⟩
   case measure=>simp[intOf]
  ·have z:=lN wr
   have c1:wr.cell? ⟨b45,2,none⟩=some (.func (.func 54) #[] #[]):=(aC (i:=2) HR45.out rfl)
   go_wp2_with ((with_reducible show WL _ _);refine wpList_load_mid rfl 45 (.tmp 8) rfl b8 0 rfl uc _ (aD HR8.out) lG rfl (by rw[I];exact nZ) ?_)
   clear c1;have HLK:=O z.keep;refine((by rw[←HUC.out];exact Ak A.out HTP.out HN1.out Q u o.out:Calls _ _ _ wr (gM wr c a m lb pid cp (.pointer g) t B1 D Z (fun _=>M1) H 0))).mono ?_;rintro e wd ⟨rfl,B2,N,hc2,hn2,hb2,hk2⟩;have HNX:Hid (Ea wc c a m lb pid cp (.pointer g) t B D Z Mm nw 3 wd):=O ⟨B2,N,_,hc2,(by have E:H≤nw+D*1:=HN2.out;have G:N≤H+0*D:=hn2;show N≤nw+D*1;omega),fun d s hs=>HM1.out d s hs,fun i x=>(hb2 i x).elim (R.out i) (fun e=>.inr (by have E:=HK1.size;have G:=HLK.size;omega)),HK1.trans' (HLK.trans' hk2 (fun _ _ h=>h.elim) (fun _ _ h=>h)) (fun _ _ h=>h) (fun i x e=>(R.out i e).elim id (fun e=>by omega))⟩;clear z A o hc2 hn2 hb2 hk2;go_wp2
   go_roundw
   case rel=>exact⟨3,by omega,by go_num,HNX⟩
   case measure=>simp[intOf]
  ·have z:=lN wr
   go_wp2_with ((with_reducible show WL _ _);first
    | refine wpList_load_mid rfl 45 (.tmp 8) rfl b8 0 rfl uc _ (aD HR8.out) lG rfl (by rw[I];exact nZ) ?_
    | refine sta 45 (.tmp 77) (.tmp 75) c 39 uc A.cor.top (by rw[List.size_toArray,sW L.out (DD A.cor.lst),I];decide) (by rw[I];exact nZ) HOU.out ?_)
   intro w9 j M;have HLED:Hid (dU wr 0 g b2 lc D Z Ls):=O (HIL.led.keep HK1.out fun i e h=>(K.out i h).1 e);rw[←HUC.out,N9 a m pid L.out cp _ _ t Q u (kX A.cor.lst.ub.root.sum A.cor.lst.ub.pool) (by rw[HUC.out,I])] at M;have hvi:∀i,Q.ownBlock=some i->i≠c:=fun i x e=>by have E:=(HVN.out i x).2.2.1;have G:=V.1;omega
   have HVB:Hid (∀i,Q.ownBlock=some i->¬B1 i):=O (fun i x e=>(R.out i e).elim (HVN.out i x).1 fun e=>by have E:=(HVN.out i x).2.2.2;omega);have hown:∀i,(⟨Q,u,t.ov,t.ol,t.vv,t.vl⟩:Lst).Own i->Q.ownBlock=some i\/t.Own i:=fun i h=>h.imp id fun h=>.inr h
   have hisc:∀i,Q.ownBlock=some i->∃cs T,wr.heap[i]?=some (.cells cs T (0,0)):=fun i x=>by
    obtain⟨cs,T,h⟩:=C.out i x;exact⟨cs,T,HK1.blk h (HVN.out i x).1⟩
   have HLV:Hid (lU w9 ⟨Q,u,t.ov,t.ol,t.vv,t.vl⟩):=O ⟨o.keep j hvi,A.cor.lst.old.keep j fun i x e=>(J.2.2.2 i (.inr (.inl x))).2.1 e,A.cor.lst.live.keep j fun i x e=>(J.2.2.2 i (.inr (.inr x))).2.1 e,A.cor.lst.oads,A.cor.lst.lads,fun i x=>by
    rcases hown i x with h|h
    ·obtain⟨cs,T,G⟩:=hisc i h
     exact⟨cs,T,j.blk G (hvi i h)⟩
    ·obtain⟨cs,T,G⟩:=A.cor.lst.isc i h
     exact⟨cs,T,j.blk G (J.2.2.2 i h).2.1⟩,by rw[←HUE.out];exact HPL.out,A.cor.lst.few.2⟩
   have HOW:Hid (∀i,(⟨Q,u,t.ov,t.ol,t.vv,t.vl⟩:Lst).Own i->¬B1 i/\i≠c/\i≠m/\i≠lb):=O (fun i x=>by
    rcases hown i x with h|h
    ·have E:=(HVN.out i h).2.2.1;have G:=V.out
     exact⟨HVB.out i h,by omega,by omega,by omega⟩
    ·exact⟨HTP.2.2.2 i h,(J.2.2.2 i h).2⟩)
   have HCO:Hid (gS w9 c a m lb g b2 lc pid cp ⟨Q,u,t.ov,t.ol,t.vv,t.vl⟩ B1 D Z M1 H Ls):=O ⟨⟨⟨M,L.out,HLV.out⟩,A.arr.keep j fun i e h=>HTP.1 (e▸h),j.blk A.mir HCM.1,j.blk A.liv HCM.2,A.cpb,A.lab⟩,HLED.keep j fun i e h=>(K.out i h).2.1 e,fun i h=>⟨fun e=>(R.out i e).elim (K.out i h).1 fun e=>by have E:=V.2.2.2.2 i h;have G:=Y.out;omega,(K.out i h).2.1,(K.out i h).2.2.1,(K.out i h).2.2.2.1,fun e=>(hown i e).elim (fun e=>by have E:=(HVN.out i e).2.2.1;have G:=V.2.2.2.2 i h;omega) (K.out i h).2.2.2.2⟩,⟨HTP.1,HTP.2.1,HTP.2.2.1,HOW.out⟩,by
    have E:H≤nw+D*1:=HN2.out;have G:=HMN.out;have h3:=HT.out;have h4:=hD;have h5:u.txg=t.u.txg+1:=by rw[←HUE.out]
    show H+_≤40000+8*u.txg.toNat;omega⟩
   have HKC:Hid (aA (fun k=>B k\/k=c) w w9):=O (HKW.trans' (HK1.trans' j (U:=fun k=>B k\/k=c) (fun _ _ h=>.inl h) fun _ _ h=>.inr h) (fun _ _ h=>h.elim) fun _ _ h=>h);have HR69:Hid (w9.heap[b6]?=some (.cells #[.int .i64 0] 49 (0,0))):=O (j.blk HR6.out fun e=>by have E:=HG.out;have G:=V.out;omega);clear j M hvi hown hisc A o HLED HLV z HR8 HR45 HR6
   go_wp2_with ((with_reducible show WL _ (.store 49 _ _));refine sta 49 (.tmp 6) (.const (.int .i64 0)) b6 0 [.int .i64 0] HR69.out (by simp) (by kernel_rfl) (one9) ?_)
   intro wa j M;replace M:wa.heap[b6]?=some (.cells #[.int .i64 0] 49 (0,0)):=M;have HBK:=O M
   have HP:Hid (xA w c a m lb g b2 lc pid cp t B D Z Mm Ls p n (.returned (.int .i64 0)) wa):=O (by
    have hg6:=HG.1;have hl:=V.out;have hl2:=Y.out;refine⟨rfl,B1,H,Q,M1,HM1.out,?_,fun i x=>(R.out i x).imp id fun h=>by omega,fun i x=>(HVN.out i x).2.2.1,HKC.trans' j (fun _ _ h=>h) fun i x e=>by omega⟩;rw[HUE.out];refine HCO.keepT j ?_;rintro i rfl;have h6:=HB6L.out;refine⟨by omega,by omega,by omega,fun e=>(R.out _ e).elim (fun e=>by have E:=X.out _ e;omega) (fun e=>by omega),fun e=>by have E:=hl.2.2.2.2 _ e;omega,fun e=>?_⟩;rcases e with e|e
    ·exact(HVN.out _ e).2.1 rfl
    ·have E:=hl.2.2.2.1 _ (.inr e)
     omega)
   clear j M HR69 HCO HKC;go_wp2_with fail;refine leaves_cons (f:=48) (args:=#[.pointer c,.pointer b6]) (by simp) (by simp[go_sem]) ?_;refine(nI wa c b6 0 _ HBK.out (by decide)).mono ?_;rintro e u' w'' ⟨rfl,rfl,j⟩;have c7:w''.cell? ⟨b6,0,none⟩=some (.int .i64 0):=aC (i:=0) (j.blk HBK.out id) rfl;refine⟨_,Cf rfl _ _ _ ⟨b6,0,none⟩ (.int .i64 0) rfl (by go_simp),?_⟩;obtain⟨-,B3,nw3,rv,M3,g1,g2,g3,g4,g5⟩:=HP.out;exact⟨rfl,B3,nw3,rv,M3,g1,g2.keep0 j,g3,g4,g5.trans j.any⟩
def Eb(w:World)(c:Nat)(S:Kor)(B:Nat->Prop)(e:Ending)(w':World):Prop:=
 e=.returned (.int .i64 0)/\∃M' B',(∀d s,5≤s->M' d s=S.M d s)/\KI w' c ⟨S.D,S.Z,S.cp,S.L,M',S.txg+1⟩ B'/\(∀k,B' k->B k\/w.heap.size≤k)/\Cl w w' B B'/\aA B w w'
theorem KI.commit{S:Kor}(I:KI w c S B)(A:S.txg+1<2147483648)(pv:Value)(p:Pt)(K:PtV w pv p)(o:p.addrs.length≤65536)(n:Int)(z:0≤n/\n≤16384)(L:p.hole=true\/(p.may=true/\p.level=3/\p.birth≤S.txg+1)):Calls Tryz.prog 21 #[.pointer c,.agg (aE pv p).toArray,.int .i64 n] w (Eb w c S B):=by
 obtain⟨d,a,m,lb,g,x,C,pid,M,nw,t,j,y,rfl⟩:=I
 have J:Ub.may ⟨t.u.txg+1,p,n,pid⟩=true:=by
  have h0:=d.t0;unfold Ub.may;rw[j];simp only[Bool.and_eq_true,Bool.or_eq_true,decide_eq_true_eq,beq_iff_eq];refine⟨⟨⟨⟨by omega,by omega⟩,z.1⟩,z.2⟩,L.imp id fun h=>⟨⟨h.1,h.2.1⟩,h.2.2⟩⟩
 refine(ES y (by rw[j];exact⟨d.t0,A⟩) pv p K o n J).mono ?_;rintro e w' ⟨rfl,B',u,rv,M',E,f,F,G,H⟩;have r:∀i,rv.ownBlock=some i->w.heap.size≤i:=G;refine⟨rfl,M',fun k=>k=c\/k=m\/k=lb\/B' k\/Own g x C S.D k\/(⟨rv,⟨t.u.txg+1,p,n,pid⟩,t.ov,t.ol,t.vv,t.vl⟩:Lst).Own k,E,⟨⟨d.d2,d.d8,d.z8,d.z4,d.c1,d.c3,d.cD,by show 0≤S.txg+1;have:=d.t0;omega,A⟩,a,m,lb,g,x,C,pid,B',u,_,by show t.u.txg+1=S.txg+1;rw[j],f,rfl⟩,?_,?_,H.mono fun k _ e=>?_⟩
 ·rintro k (e|e|e|e|e|e)
  ·exact .inl (.inl e)
  ·exact .inl (.inr (.inl e))
  ·exact .inl (.inr (.inr (.inl e)))
  ·exact(F k e).imp (fun h=>.inr (.inr (.inr (.inl h)))) id
  ·exact .inl (.inr (.inr (.inr (.inr (.inl e)))))
  ·rcases e with e|e
   ·exact .inr (r k e)
   ·exact .inl (.inr (.inr (.inr (.inr (.inr (.inr e))))))
 ·rintro k (rfl|rfl|rfl|e|e|e)
  ·exact .inl ⟨_,_,f.cor.cor.top⟩
  ·exact .inl ⟨_,_,f.cor.mir⟩
  ·exact .inl ⟨_,_,f.cor.liv⟩
  ·exact .inl (f.cor.arr.isC e)
  ·exact(y.led.isC f.led e).imp id fun h=>⟨.inr (.inr (.inr (.inr (.inl e)))),h⟩
  ·exact .inl (f.cor.cor.lst.isc k e)
 ·rcases e with e|rfl
  ·exact .inr (.inr (.inr (.inl e)))
  ·exact .inl rfl
section
variable {B0:Nat->Prop}{w0 w w':World}{c:Nat}{S T:Kor}{B B':Nat->Prop}{rs:List (Value×Pt)}{l:List (Nat×Array Value×TypeId)}
theorem Cs.turned(h:Cs B0 w0 c S B rs w l)(j:KI w' c T B')(d:∀k,B' k->B k\/w.heap.size≤k)(k:aA B w w'):Cs B0 w0 c T B' rs w' l:=by
 refine⟨h.loc.turn2 k (fun _ e=>.inl e) (fun i g e=>(h.bb i e).elim id fun e=>by omega) ?_,j,fun r f=>(h.pv r f).keep k d,fun i e=>(d i e).elim (h.bb i) fun e=>.inr (Nat.le_trans h.keep.size e)⟩;rintro i g (e|⟨r,f,e⟩)
 ·exact(d i e).elim .inl fun e=>by omega
 ·exact .inr ⟨r,f,e⟩
theorem Cs.begin(h:Loc aB aB w0 w l)(j:KI w' c S B)(g:∀k,B k->w.heap.size≤k)(k:aA aB w w'):Cs aB w0 c S B [] w' l:=by
 refine⟨⟨h.keep.trans k,h.ge,h.nd,fun x f=>k.blk (h.at_ x f) id,fun x f e=>?_⟩,j,(fun r d=>by cases d),fun i e=>.inr (Nat.le_trans h.keep.size (g i e))⟩;rcases e with e|⟨r,d,-⟩
 ·have n:=g _ e;have o:=lt_of_block (h.at_ x f);omega
 ·cases d
end
variable{S:Kor}{M':Nat->Nat->List UInt8}{v:Value}{w:World}{base:Nat}{m:List Int}{qs:List (Value×Pt)}
theorem Kor.com_ext(h:∀d s,5≤s->M' d s=S.M d s):Ext S ⟨S.D,S.Z,S.cp,S.L,M',S.txg+1⟩:=
 ⟨rfl,rfl,rfl,by show S.txg≤S.txg+1;omega,fun _ h=>h,fun a _ e=>by
  obtain⟨-,-,f,-⟩:=e;exact h _ _ (by omega)⟩
theorem Kor.com_room{N:Nat}(h:S.room N)(x:Int):Kor.room ⟨S.D,S.Z,S.cp,S.L,M',x⟩ N:=h
theorem Tr.Ok.comm{t:Tr}(h:Tr.Ok S 3 t):t.ptr.hole=true\/(t.ptr.may=true/\t.ptr.level=3/\t.ptr.birth≤S.txg+1):=by
 cases d:t.isHole with
 | true=>left;rw[h.hole_eq];exact d
 | false=>right;have:=h.top d;exact⟨h.may3,this.1,this.2.2⟩
theorem Ec{P:Program}{y:Func}{p q u v:Tmp}{i j:TypeId}(h:y.results=#[.tmp u,.cell p i,.cell q j,.tmp v])(tmps:Array Value)(w:World)(g k:Nat)(t E:TypeId)(cs e:Array Value)(z f:Nat×Nat)(d d2:TypeDesc)
 (A:tmps.getD p undef=.pointer g) (C:tmps.getD q undef=.pointer k) (G:w.heap[g]?=some (.cells cs t z)) (o:w.heap[k]?=some (.cells e E f)) (I:P.underlying i=some d) (F:(match d with|.struct _|.array _ _=>true|_=>false)=true) (H:(P.info? i).map (·.size)=some cs.size)
 (x:P.underlying j=some d2) (n:(match d2 with|.struct _|.array _ _=>true|_=>false)=true) (r:(P.info? j).map (·.size)=some e.size):(results y tmps).run P w=.ok (.tuple #[tmps.getD u undef,.agg cs,.agg e,tmps.getD v undef]) w:=by
 simp only[Array.getD_eq_getD_getElem?] at A C ⊢;simp[results,h,A,C,asAddr,Sem.run_bind,Result.andThen,run_loadVar_row w g t i cs z d G I F H,run_loadVar_row w k E j e f d2 o x n r]
def Fz(w:World)(e:Ending)(w':World):Prop:=∃c g h d f S B,e=.returned (.tuple #[.pointer (some ⟨c,0,none⟩),.agg (aE g d.ptr).toArray,.agg (aE h f.ptr).toArray,.bool true])/\KI w' c S B/\Tr.Ok S 3 d/\Tr.Ok S 3 f/\(eJ 3 d).Nodup/\bC w' B g d.ptr/\bC w' B h f.ptr/\LI d f/\(∀k,B k->w.heap.size≤k)/\aA aB w w'
theorem JS(w:World):Calls Tryz.prog 28 #[] w (Fz w):=by
 have hzp:(aE (.slice none 0 0) zPt).length=35:=rfl;have hzb:=pZ;obtain⟨zp,hzpe⟩:∃l,aE (.slice none 0 0) zPt=l:=⟨_,rfl⟩
 have HOZP:Hid (∀u∈zp,u.oneCell'=true):=O (by rw[←hzpe];exact cP zPt);have HZPE:=O hzpe;rw[hzpe] at hzp hzb;have HZB:=O hzb;clear hzpe hzb;have d:=lN w;go_in
 go_wp2_with ((with_reducible show WL _ _);refine alL d 27 (.agg aI.toArray) (aI.toArray) bK ?_)
 intro b1 w1 j d;clear j
 go_wp2_with ((with_reducible show WL _ _);refine alL d 27 (.agg aI.toArray) (aI.toArray) bK ?_)
 intro b2 w2 j d;clear j
 go_wp2_with ((with_reducible show WL _ _);first
  | refine bld 27 #[] [] (.agg zp.toArray) HZB.out ?_
  | refine al 27 (.agg aI.toArray) (aI.toArray) bK ?_)
 intro b4 w3 hbs hk0 hb0_
 go_wp2_with ((with_reducible show WL _ _);first
  | refine bld 27 #[] [] (.agg zp.toArray) HZB.out ?_
  | refine sta 27 (.tmp 4) (.tmp 11) b4 0 zp hb0_ (by first|decide|(rw[List.size_toArray,hzp];exact Nat.le_refl _)|simp[hzp,aG]) (szP9 hzp) HOZP.out ?_)
 intro w4 j hb;rw[aK _ _ (by first|rfl|(rw[List.size_toArray,hzp];rfl)|simp[hzp,aG])] at hb;replace j:=tX hk0 j (fun i hi e=>by omega);replace d:=lW d hbs j hb;clear hbs j hb hk0 hb0_;go_wp2_with fail;refine((G4 w4 40 (by omega))).mono ?_;rintro e w5 ⟨c,M,B,rfl,o,hB,j⟩;replace d:=O (Cs.begin d.out o hB j);clear o hB j;obtain⟨F,S1,hset,hr1,hu1⟩:=zW (t:=.hole) (n:=5) (b:=sec 1) (N:=31) (Kor.room_new 40 M 0) (oE (b:=0) (by decide)) (by rw[Tr.blk_hole];exact oE (a:=0) (by decide));have hb0:=d.ki.bd;have hso:=Fs hb0 (Tr.ok_hole _ 3) (by omega) (jA 1) hset;have huo:=(hso.2 F rfl).1;have hub:=yC.set yC.hole (hso.2 F rfl).2;have HUO:=O huo;have HSET:=O hset;have HUB:=O hub;have HB0:=O hb0;have HSO:=O hso.1;have HR1:=O hr1;clear hset hr1 hu1 hso huo hub hb0;go_wp2_with fail;apply vJ (R:=fun(b6:Nat) (roa:Option Addr) (roc:Nat) (E:List Value) w'=>Hid (∃p B1,aE p F.ptr=E/\Cs aB w c S1 B1 [(p,F.ptr)] w' ((b6,E.toArray,27)::[(b4,zp.toArray,27),(b2,aI.toArray,27),(b1,aI.toArray,27)])))
 case h =>
  refine G5 B d (by kernel_rfl) ?_;intro w6 SW HSE f hkd d;clear hkd;have J:=d;refine tna 0 (.pointer c) rfl (sD9 f d) ?_;refine tnd 1 (.agg zp.toArray) rfl (ldD 27 (.tmp 4) b4 0 zp _ (fun w' h=>aD (J.own (HSE.out w' h) 0)) aH (szP9 hzp)) (sD9 f d) ?_;refine eK (k:=2) (l:=7) rfl rfl (by kernel_rfl) ?_ ?_
  ·go_wp2_with fail
   refine(tE w6 1).mono ?_;rintro e w7 ⟨v_,rfl,ho,j⟩;obtain⟨roa,roc,rfl,-,-⟩:=(Rd.of_owns ho).form;have X:=O ho;have y:=O (vY ho (fun i e=>d.ki.lt e));replace d:=O (d.keeps j);clear ho j;go_wp2_with fail;refine⟨f.out _ d.dr,?_⟩;refine eK (k:=3) (l:=7) rfl rfl (by kernel_rfl) ?_ ?_
   ·go_wp2_with fail
    have Q:=d.keep.size;refine((by rw[←HZPE.out];have h:=mT d.ki (.slice none 0 0) .hole (Tr.ok_hole _ 3) (bC.hole _ _) 5 (by omega) (.slice roa 256 roc) (sec 1) (jA 1) (Rd.of_owns X.out) y.out;rw[HSET.out] at h;exact h:Calls _ _ _ w7 (cN w7 c B (.slice none 0 0) (some F) S1))).mono ?_;rintro e w8 ⟨p,B1,rfl,g,o,r,-,x,j⟩;replace g:bC w8 B1 p F.ptr:=g;rw[show gJ (some F)=F.ptr from rfl,show lE (some F)=0 from rfl];replace d:=O (d.laid (fun _ _ e=>e) g o r (vZ x) j);obtain⟨E,C,A,K⟩:=nmP g;rw[C.out];clear Q g o r x j X y;go_wp2_with fail;refine⟨f.out _ d.dr,?_⟩;refine tna 4 (.tuple #[.agg E.toArray,.int .i64 0]) rfl (sD9 f d) ?_;refine tnb 5 (.agg E.toArray) rfl (sD9 f d) ?_;refine tnb 6 (.int .i64 0) rfl (sD9 f d) ?_;refine wA9 7 ?_;refine alD d f 27 (.agg aI.toArray) (aI.toArray) bK ?_;intro b6 w9 hb6 j d;clear j;refine wA9 8 ?_;refine stD d f 0 rfl 27 (.tmp 6) (.tmp 22) E (.inl hb6) (by first|rfl|simp[A,aG]) (szP9 A) K.out ?_;intro wa d;refine tna 9 (.int .i64 0) rfl (sD9 f d) ?_;refine wpAnyH_done (by kernel_rfl) ?_ _;refine noP ?_;exact⟨rfl,b6,roa,roc,E,rfl,O ⟨p,B1,C.out,d.toCs⟩⟩
   ·refine alD d f 27 (.agg aI.toArray) (aI.toArray) bK ?_
    intro b6 w8 hb6 j d;replace X:=O (j.owns X.out fun _ _=>id);replace y:=O (fun i hi=>And.intro (y.out i hi).1 (Nat.lt_of_lt_of_le (y.out i hi).2 (j).size));clear j;refine wA9 3 ?_;go_wp2_with fail;have Q:=d.keep.size;refine((by rw[←HZPE.out];have h:=mT d.ki (.slice none 0 0) .hole (Tr.ok_hole _ 3) (bC.hole _ _) 5 (by omega) (.slice roa 256 roc) (sec 1) (jA 1) (Rd.of_owns X.out) y.out;rw[HSET.out] at h;exact h:Calls _ _ _ w8 (cN w8 c B (.slice none 0 0) (some F) S1))).mono ?_;rintro e w9 ⟨p,B1,rfl,g,o,r,-,x,j⟩;replace g:bC w9 B1 p F.ptr:=g;rw[show gJ (some F)=F.ptr from rfl,show lE (some F)=0 from rfl];replace d:=O (d.laid (fun _ _ e=>e) g o r (vZ x) j);obtain⟨E,C,A,K⟩:=nmP g;rw[C.out];clear Q g o r x j X y;go_wp2_with fail;refine⟨f.out _ d.dr,?_⟩;refine tna 4 (.tuple #[.agg E.toArray,.int .i64 0]) rfl (sD9 f d) ?_;refine tnb 5 (.agg E.toArray) rfl (sD9 f d) ?_;refine tnb 6 (.int .i64 0) rfl (sD9 f d) ?_;refine wA9 8 ?_;refine stD d f 0 rfl 27 (.tmp 6) (.tmp 22) E (.inl hb6) (by first|rfl|simp[A,aG]) (szP9 A) K.out ?_;intro wa d;refine tna 9 (.int .i64 0) rfl (sD9 f d) ?_;refine wpAnyH_done (by kernel_rfl) ?_ _;refine noP ?_;exact⟨rfl,b6,roa,roc,E,rfl,O ⟨p,B1,C.out,d.toCs⟩⟩
  ·refine alD d f 27 (.agg aI.toArray) (aI.toArray) bK ?_
   intro b6 w7 hb6 j d;clear j;refine wA9 2 ?_;go_wp2_with fail;refine(tE w7 1).mono ?_;rintro e w8 ⟨v_,rfl,ho,j⟩;obtain⟨roa,roc,rfl,-,-⟩:=(Rd.of_owns ho).form;have X:=O ho;have y:=O (vY ho (fun i e=>d.ki.lt e));replace d:=O (d.keeps j);clear ho j;go_wp2_with fail;refine⟨f.out _ d.dr,?_⟩;refine wA9 3 ?_;go_wp2_with fail;have Q:=d.keep.size;refine((by rw[←HZPE.out];have h:=mT d.ki (.slice none 0 0) .hole (Tr.ok_hole _ 3) (bC.hole _ _) 5 (by omega) (.slice roa 256 roc) (sec 1) (jA 1) (Rd.of_owns X.out) y.out;rw[HSET.out] at h;exact h:Calls _ _ _ w8 (cN w8 c B (.slice none 0 0) (some F) S1))).mono ?_;rintro e w9 ⟨p,B1,rfl,g,o,r,-,x,j⟩;replace g:bC w9 B1 p F.ptr:=g;rw[show gJ (some F)=F.ptr from rfl,show lE (some F)=0 from rfl];replace d:=O (d.laid (fun _ _ e=>e) g o r (vZ x) j);obtain⟨E,C,A,K⟩:=nmP g;rw[C.out];clear Q g o r x j X y;go_wp2_with fail;refine⟨f.out _ d.dr,?_⟩;refine tna 4 (.tuple #[.agg E.toArray,.int .i64 0]) rfl (sD9 f d) ?_;refine tnb 5 (.agg E.toArray) rfl (sD9 f d) ?_;refine tnb 6 (.int .i64 0) rfl (sD9 f d) ?_;refine wA9 8 ?_;refine stD d f 0 rfl 27 (.tmp 6) (.tmp 22) E (.inl hb6) (by first|rfl|simp[A,aG]) (szP9 A) K.out ?_;intro wa d;refine tna 9 (.int .i64 0) rfl (sD9 f d) ?_;refine wpAnyH_done (by kernel_rfl) ?_ _;refine noP ?_;exact⟨rfl,b6,roa,roc,E,rfl,O ⟨p,B1,C.out,d.toCs⟩⟩
 case hR =>
  rintro b6 roa roc E wb HF;obtain⟨p,B1,hcs,hl⟩:=HF.out;have d:=O hl;have C:=O hcs;have A:E.length=35:=by rw[←hcs];exact aJ (d.pv0 0).pt.sum
  have K:Hid (∀u∈E,u.oneCell'=true):=O (by rw[←hcs];exact aT (d.pv0 0).pt);clear hcs hl HF
  go_wp2_with ((with_reducible show WL _ _);refine wpList_load_mid rfl 27 (.tmp 6) rfl b6 0 rfl E _ (aD (d.b 0)) aH rfl (szP9 A) ?_)
  refine((by rw[←C.out];exact KI.commit d.ki (by rw[HSO.txg];show (0:Int)+1<2147483648;decide) p F.ptr (d.pv0 0).pt HUO.few 0 (by decide) HUO.comm:Calls _ _ _ wb (Eb wb c S1 B1))).mono ?_;rintro e wc ⟨rfl,M2,B2,hM2,hki2,hbb2,-,j⟩;have hx2:=Kor.com_ext hM2;have hr2:=Kor.com_room (M':=M2) HR1.out (S1.txg+1);have htx2:(⟨S1.D,S1.Z,S1.cp,S1.L,M2,S1.txg+1⟩:Kor).txg=1:=by show S1.txg+1=1;rw[HSO.txg];rfl
  obtain⟨S2,hS2⟩:∃T,(⟨S1.D,S1.Z,S1.cp,S1.L,M2,S1.txg+1⟩:Kor)=T:=⟨_,rfl⟩
  rw[hS2] at hki2 hx2 hr2 htx2;replace d:=O (d.turned hki2 hbb2 j);have huo2:=HUO.ext hx2;obtain⟨V,S3,hset2,hr3,hu2⟩:=zW (t:=F) (n:=6) (b:=sec 1) (N:=27) hr2 (oE (b:=0) (by decide)) (by rw[HUB.out 6 (by omega)];exact oE (a:=0) (by decide));have hso2:=Fs hki2.bd huo2 (by omega) (jA 1) hset2;have HUO2:=O huo2;have W:=O hset2;have HVO:=O (hso2.2 V rfl).1;have HUO3:=O (huo2.ext hso2.1.ext)
  have HTT:Hid (LI F V):=O (by
   have h1:=HSET.out;have h2:=W.out;unfold tB at h1 h2;rw[if_neg (by rw[Tr.blk_hole];exact oE (a:=0) (by decide))] at h1;rw[if_neg (by rw[HUB.out 6 (by omega)];exact oE (a:=0) (by decide))] at h2;exact OI HB0.out hki2.bd rfl htx2 rfl (jA 1) (oE (b:=0) (by decide)) h1 huo2 h2)
  have HND:Hid ((eJ 3 F).Nodup):=O (by
   have h1:=HSET.out;unfold tB at h1;rw[if_neg (by rw[Tr.blk_hole];exact oE (a:=0) (by decide))] at h1;exact(BP (jA 1) 5 (by omega) HB0.out (jU.hole _ 3) h1).1.apart)
  clear hx2 hr2 htx2 hS2 huo2 hset2 hr3 hu2 hso2 hki2 hbb2 hM2 j;go_wp2_with fail;apply vJ (R:=fun(b9:Nat) (rpa:Option Addr) (rpc:Nat) (I:List Value) w'=>Hid (∃H B3,aE H V.ptr=I/\Cs aB w c S3 B3 [(H,V.ptr),(p,F.ptr)] w' ((b9,I.toArray,27)::[(b6,E.toArray,27),(b4,zp.toArray,27),(b2,aI.toArray,27),(b1,aI.toArray,27)])))
  case h =>
   refine G5 B2 d (by kernel_rfl) ?_;intro wd SW HSE f hkd d;clear hkd;have J:=d;refine tna 0 (.pointer c) rfl (sD9 f d) ?_;refine tnd 1 (.agg E.toArray) rfl (ldD 27 (.tmp 6) b6 0 E _ (fun w' h=>aD (J.own (HSE.out w' h) 0)) aH (szP9 A)) (sD9 f d) ?_;refine eK (k:=2) (l:=7) rfl rfl (by kernel_rfl) ?_ ?_
   ·go_wp2_with fail
    refine(tE wd 1).mono ?_;rintro e we ⟨v_,rfl,ho,j⟩;obtain⟨rpa,rpc,rfl,-,-⟩:=(Rd.of_owns ho).form;have Y:=O ho;have z:=O (vY ho (fun i e=>d.ki.lt e));replace d:=O (d.keeps j);clear ho j;go_wp2_with fail;refine⟨f.out _ d.dr,?_⟩;refine eK (k:=3) (l:=7) rfl rfl (by kernel_rfl) ?_ ?_
    ·go_wp2_with fail
     have Q:=d.keep.size;refine((by rw[←C.out];have h:=mT d.ki p F HUO2.out (d.pv0 0) 6 (by omega) (.slice rpa 256 rpc) (sec 1) (jA 1) (Rd.of_owns Y.out) z.out;rw[W.out] at h;exact h:Calls _ _ _ we (cN we c B2 (.slice none 0 0) (some V) S3))).mono ?_;rintro e wf ⟨H,B3,rfl,g,o,r,-,x,j⟩;replace g:bC wf B3 H V.ptr:=g;rw[show gJ (some V)=V.ptr from rfl,show lE (some V)=0 from rfl];replace d:=O (d.laid (fun _ _ e=>e) g o r (vZ x) j);obtain⟨I,U,G,L⟩:=nmP g;rw[U.out];clear Q g o r x j Y z;go_wp2_with fail;refine⟨f.out _ d.dr,?_⟩;refine tna 4 (.tuple #[.agg I.toArray,.int .i64 0]) rfl (sD9 f d) ?_;refine tnb 5 (.agg I.toArray) rfl (sD9 f d) ?_;refine tnb 6 (.int .i64 0) rfl (sD9 f d) ?_;refine wA9 7 ?_;refine alD d f 27 (.agg aI.toArray) (aI.toArray) bK ?_;intro b9 wg hb9 j d;clear j;refine wA9 8 ?_;refine stD d f 0 rfl 27 (.tmp 9) (.tmp 32) I (.inl hb9) (by first|rfl|simp[G,aG]) (szP9 G) L.out ?_;intro wh d;refine tna 9 (.int .i64 0) rfl (sD9 f d) ?_;refine wpAnyH_done (by kernel_rfl) ?_ _;refine noP ?_;exact⟨rfl,b9,rpa,rpc,I,rfl,O ⟨H,B3,U.out,d.toCs⟩⟩
    ·refine alD d f 27 (.agg aI.toArray) (aI.toArray) bK ?_
     intro b9 wf hb9 j d;replace Y:=O (j.owns Y.out fun _ _=>id);replace z:=O (fun i hi=>And.intro (z.out i hi).1 (Nat.lt_of_lt_of_le (z.out i hi).2 (j).size));clear j;refine wA9 3 ?_;go_wp2_with fail;have Q:=d.keep.size;refine((by rw[←C.out];have h:=mT d.ki p F HUO2.out (d.pv0 0) 6 (by omega) (.slice rpa 256 rpc) (sec 1) (jA 1) (Rd.of_owns Y.out) z.out;rw[W.out] at h;exact h:Calls _ _ _ wf (cN wf c B2 (.slice none 0 0) (some V) S3))).mono ?_;rintro e wg ⟨H,B3,rfl,g,o,r,-,x,j⟩;replace g:bC wg B3 H V.ptr:=g;rw[show gJ (some V)=V.ptr from rfl,show lE (some V)=0 from rfl];replace d:=O (d.laid (fun _ _ e=>e) g o r (vZ x) j);obtain⟨I,U,G,L⟩:=nmP g;rw[U.out];clear Q g o r x j Y z;go_wp2_with fail;refine⟨f.out _ d.dr,?_⟩;refine tna 4 (.tuple #[.agg I.toArray,.int .i64 0]) rfl (sD9 f d) ?_;refine tnb 5 (.agg I.toArray) rfl (sD9 f d) ?_;refine tnb 6 (.int .i64 0) rfl (sD9 f d) ?_;refine wA9 8 ?_;refine stD d f 0 rfl 27 (.tmp 9) (.tmp 32) I (.inl hb9) (by first|rfl|simp[G,aG]) (szP9 G) L.out ?_;intro wh d;refine tna 9 (.int .i64 0) rfl (sD9 f d) ?_;refine wpAnyH_done (by kernel_rfl) ?_ _;refine noP ?_;exact⟨rfl,b9,rpa,rpc,I,rfl,O ⟨H,B3,U.out,d.toCs⟩⟩
   ·refine alD d f 27 (.agg aI.toArray) (aI.toArray) bK ?_
    intro b9 we hb9 j d;clear j;refine wA9 2 ?_;go_wp2_with fail;refine(tE we 1).mono ?_;rintro e wf ⟨v_,rfl,ho,j⟩;obtain⟨rpa,rpc,rfl,-,-⟩:=(Rd.of_owns ho).form;have Y:=O ho;have z:=O (vY ho (fun i e=>d.ki.lt e));replace d:=O (d.keeps j);clear ho j;go_wp2_with fail;refine⟨f.out _ d.dr,?_⟩;refine wA9 3 ?_;go_wp2_with fail;have Q:=d.keep.size;refine((by rw[←C.out];have h:=mT d.ki p F HUO2.out (d.pv0 0) 6 (by omega) (.slice rpa 256 rpc) (sec 1) (jA 1) (Rd.of_owns Y.out) z.out;rw[W.out] at h;exact h:Calls _ _ _ wf (cN wf c B2 (.slice none 0 0) (some V) S3))).mono ?_;rintro e wg ⟨H,B3,rfl,g,o,r,-,x,j⟩;replace g:bC wg B3 H V.ptr:=g;rw[show gJ (some V)=V.ptr from rfl,show lE (some V)=0 from rfl];replace d:=O (d.laid (fun _ _ e=>e) g o r (vZ x) j);obtain⟨I,U,G,L⟩:=nmP g;rw[U.out];clear Q g o r x j Y z;go_wp2_with fail;refine⟨f.out _ d.dr,?_⟩;refine tna 4 (.tuple #[.agg I.toArray,.int .i64 0]) rfl (sD9 f d) ?_;refine tnb 5 (.agg I.toArray) rfl (sD9 f d) ?_;refine tnb 6 (.int .i64 0) rfl (sD9 f d) ?_;refine wA9 8 ?_;refine stD d f 0 rfl 27 (.tmp 9) (.tmp 32) I (.inl hb9) (by first|rfl|simp[G,aG]) (szP9 G) L.out ?_;intro wh d;refine tna 9 (.int .i64 0) rfl (sD9 f d) ?_;refine wpAnyH_done (by kernel_rfl) ?_ _;refine noP ?_;exact⟨rfl,b9,rpa,rpc,I,rfl,O ⟨H,B3,U.out,d.toCs⟩⟩
  case hR =>
   rintro b9 rpa rpc I wi HF;obtain⟨H,B3,hcs,hl⟩:=HF.out;have d:=O hl;have U:=O hcs;have G:I.length=35:=by rw[←hcs];exact aJ (d.pv0 0).pt.sum
   have L:Hid (∀u∈I,u.oneCell'=true):=O (by rw[←hcs];exact aT (d.pv0 0).pt);clear hcs hl HF;go_wp2_with fail;refine G5 (fun k=>k=b1\/k=b2) d (by kernel_rfl) ?_;intro wj SW HSE f hkd d;clear hkd;have J:=d;refine tna 0 (.pointer c) rfl (sD9 f d) ?_;refine tnd 1 (.agg E.toArray) rfl (ldD 27 (.tmp 6) b6 0 E _ (fun w' h=>aD ((HSE.out w' h).blk (J.b 1) (by rintro (e|e);exact(J.toCs.ne 4 1) e;exact(J.toCs.ne 3 1) e))) aH (szP9 A)) (sD9 f d) ?_;refine tnd 2 (.agg I.toArray) rfl (ldD 27 (.tmp 9) b9 0 I _ (fun w' h=>aD ((HSE.out w' h).blk (J.b 0) (by rintro (e|e);exact(J.toCs.ne 4 0) e;exact(J.toCs.ne 3 0) e))) aH (szP9 G)) (sD9 f d) ?_;refine tna 3 (.int .i64 0) rfl (sD9 f d) ?_;refine tnb 4 (.bool true) rfl (sD9 f d) ?_;refine tna 5 (.bool true) rfl (sD9 f d) ?_;refine tna 6 (.int .i64 0) rfl (sD9 f d) ?_;refine tnb 7 (.bool true) rfl (sD9 f d) ?_;refine tna 8 (.bool true) rfl (sD9 f d) ?_;refine tna 9 (.bool true) rfl (sD9 f d) ?_;refine tna 10 (.int .i64 0) rfl (sD9 f d) ?_;refine tnb 11 (.bool true) rfl (sD9 f d) ?_;refine tna 12 (.bool true) rfl (sD9 f d) ?_;refine tna 13 (.pointer c) rfl (sD9 f d) ?_;refine wA9 14 ?_;refine stD d f 4 rfl 27 (.tmp 1) (.tmp 35) E (.inr (.inl rfl)) (by first|rfl|simp[A,aG]) (szP9 A) K.out ?_;intro wk d;refine wA9 15 ?_;refine stD d f 3 rfl 27 (.tmp 2) (.tmp 36) I (.inr (.inr rfl)) (by first|rfl|simp[G,aG]) (szP9 G) L.out ?_;intro wl d;refine tna 16 (.bool true) rfl (sD9 f d) ?_;refine wpAnyH_done (by kernel_rfl) ?_ _;refine noP ?_;have HB1_:=O (d.b 4);have HB2_:=O (d.b 3);have HP:Hid (Fz w (.returned (.tuple #[.pointer c,.agg E.toArray,.agg I.toArray,.bool true])) wl):=O ⟨c,p,H,F,V,S3,B3,by rw[C.out,U.out],d.ki,HUO3.out,HVO.out,HND.out,d.pv0 1,d.pv0 0,HTT.out,fun k e=>(d.bb k e).elim False.elim id,d.keep⟩;clear d J HSE f;go_wp2_with fail;refine bodyPost_ret (Ec rfl _ _ b1 b2 _ _ _ _ _ _ _ _ rfl rfl HB1_.out HB2_.out aH rfl (by rw[List.size_toArray,A];exact dM) aH rfl (by rw[List.size_toArray,G];exact dM)) rfl ?_;exact HP.out
theorem Nk{d:List Nat}(h:w.ownsRow base 3 1 v d.length (yG d))(e:d.map (fun(i:Nat)=>(i:Int))=m):Rd w 1 v m.length (m.map fun x=>.int .i64 x):=by
 subst e;rw[List.length_map,List.map_map];exact Rd.of_owns h
theorem Nl(h:w.ownsRow base 3 1 v qs.length (vK qs))(d:qs.map (fun x=>x.2.level)=m):Rd w 1 v m.length (m.map fun x=>.int .i64 x):=by
 subst d;rw[List.length_map,List.map_map];exact Rd.of_owns h
theorem FA{b n:Nat}{T:TypeId}{cs:List Value}(h:w.heap[b]?=some (.cells cs.toArray T (0,0)))(d:cs=m.map fun x=>.int .i64 x)(e:m.length=n)(f:n≤100):Rd w 1 (.slice b n n) m.length (m.map fun x=>.int .i64 x):=by
 rw[e,←d];exact dE (n:=n) (size:=1) h (by rw[d,List.length_map,e,Nat.mul_one]) (by unfold maxLen;omega)
theorem lK.row{w':World}{ps:List Pt}(g:qs.map (·.2)=ps)(f:w'.ownsRow w.heap.size 27 35 v ps.length (qs.flatMap fun x=>aE x.1 x.2))(d:∀x∈qs,PtV w' x.1 x.2/\∀i,x.1.ownBlock=some i->w.heap.size≤i/\v.ownBlock≠some i/\IsC w' i):jW w' v qs/\qs.length=ps.length:=by
 have e:qs.length=ps.length:=by rw[←g,List.length_map]
 exact⟨⟨by rw[e];exact Rd.of_owns f,fun x h=>(d x h).1⟩,e⟩
theorem Cs.start2{c:Nat}{B:Nat->Prop}(h:KI w c S B){u:Value}{p q:Pt}(f:bC w B v p)(g:bC w B u q):Cs B w c S B [(v,p),(u,q)] w []:=⟨Loc.nil _ _ w,h,(fun r d=>by
 simp only[List.mem_cons,List.not_mem_nil,or_false] at d;rcases d with rfl|rfl
 ·exact f
 ·exact g),fun _ e=>.inl e⟩
theorem rF(w:World):Calls Tryz.prog 7 #[] w (L6 w):=by
 go_in;go_wp2_with fail;refine((JS w)).mono ?_;rintro e w1 ⟨c,vrc,vsc,u1,u2,S,B,rfl,hki,huo,hvo,hnd,K,L,htt,hB,d⟩;have HBN:=O hB;have HKW:=O d;have HUO:=O huo;have HVO:=O hvo;have HND:=O hnd;have C:=O htt;have g:=O (Cs.start2 hki K L);obtain⟨rc,U,E,Q⟩:=nmP K;obtain⟨sc,V,F,R⟩:=nmP L;rw[U.out,V.out];clear hki huo hvo hnd K L htt hB d
 go_wp2_with ((with_reducible show WL _ _);refine al 27 (.agg aI.toArray) (aI.toArray) bK ?_)
 intro b2 w2 j d o;replace g:=O (g.new (trivial) j d o);clear j d o
 go_wp2_with ((with_reducible show WL _ _);refine al 27 (.agg aI.toArray) (aI.toArray) bK ?_)
 intro b3 w3 j d o;replace g:=O (g.new (trivial) j d o);clear j d o
 go_wp2_with ((with_reducible show WL _ _);refine sta 27 (.tmp 2) (.tmp 12) b2 0 rc (g.b 1) (by first|decide|(rw[E];exact Nat.le_refl _)|simp[E,aG]) (szP9 E) Q.out ?_)
 intro w4 d o;rw[aK _ _ (by first|rfl|simp[E,aG])] at o;replace g:=O (g.set 1 d o);clear d o
 go_wp2_with ((with_reducible show WL _ _);refine sta 27 (.tmp 3) (.tmp 13) b3 0 sc (g.b 0) (by first|decide|(rw[F];exact Nat.le_refl _)|simp[F,aG]) (szP9 F) R.out ?_)
 intro w5 d o;rw[aK _ _ (by first|rfl|simp[F,aG])] at o;replace g:=O (g.set 0 d o);clear d o
 go_wp2_with ((with_reducible show WL _ _);refine wpList_load_mid rfl 27 (.tmp 2) rfl b2 0 rfl rc _ (aD (g.b 1)) aH rfl (szP9 E) ?_)
 refine((by rw[←U.out];exact D1 g.ki vrc u1 HUO.out (g.pv0 0):Calls _ _ _ w5 (lK w5 (fX 3 u1)))).mono ?_;rintro e w6 ⟨tp,A,rfl,hq,z,Y,d⟩;have G:=lK.row hq z Y;have f:=O G.1;have u:=O hq;obtain⟨tpa,tpc,rfl,-,-⟩:=(Rd.of_owns z).form;have n:Hid (A.length=4):=O (G.2.trans (by have h:=congrArg List.length C.lv1;rw[List.length_map] at h;exact h));rw[←G.2,n.out];rw[←G.2,n.out] at f;clear hq z Y G;replace g:=O (g.keeps d);clear d
 go_wp2_with ((with_reducible show WL _ _);refine wpList_load_mid rfl 27 (.tmp 3) rfl b3 0 rfl sc _ (aD (g.b 0)) aH rfl (szP9 F) ?_)
 refine((by rw[←V.out];exact Ha g.ki vsc u2 HVO.out (g.pv0 1) 1:Calls _ _ _ w6 (mX w6 (bks (bF 1) 3 u2 0)))).mono ?_;rintro e w7 ⟨tb,rfl,z,d⟩;rw[C.b1] at z;obtain⟨tba,tbc,rfl,-,-⟩:=(Rd.of_owns z).form;have i:Hid (Rd w7 1 (.slice tba 1 tbc) ([6]:List Int).length (([6]:List Int).map fun x=>.int .i64 x)):=O (Nk z rfl);clear z;replace g:=O (g.keeps d);replace f:=O (f.keep0 d);clear d;go_wp2_with fail;refine((Hb w7 (.slice tpa 4 tpc) A f.out (by rw[n.out];decide))).mono ?_;rintro e w8 ⟨lv,rfl,z,d⟩;rw[n.out] at z;obtain⟨la,lc,rfl,-,-⟩:=(Rd.of_owns z).form;have k:Hid (Rd w8 1 (.slice la 4 lc) ([3,2,1,0]:List Int).length (([3,2,1,0]:List Int).map fun x=>.int .i64 x)):=O (Nl (qs:=A) (by rw[n.out];exact z) (by have h:=C.lv1;rw[←u.out,List.map_map] at h;exact h));clear z;replace g:=O (g.keeps d);replace f:=O (f.keep0 d);replace i:=O (i.keep d fun _ _=>id);clear d;obtain⟨w9,M,d,o,-⟩:=aS w8 #[.int .i64 3,.int .i64 2,.int .i64 1,.int .i64 0] 3;obtain⟨W,j⟩:∃b,w8.heap.size=b:=⟨_,rfl⟩
 rw[j] at o;have r:Hid (Rd w9 1 (.slice W 4 4) ([3,2,1,0]:List Int).length (([3,2,1,0]:List Int).map fun x=>.int .i64 x)):=O (FA o rfl rfl (by decide));replace g:=O (g.keeps d);have H:=O j;replace f:=O (f.keep0 d);replace i:=O (i.keep d fun _ _=>id);replace k:=O (k.keep d fun _ _=>id);clear d o j;go_wp2_with fail;clear M;rw[H.out];go_wp2_with fail;refine((by have h:=vM w9 (.slice la 4 lc) (.slice W 4 4) [3,2,1,0] [3,2,1,0] k.out r.out;rw[decide_eq_true rfl] at h;exact h:Calls _ _ _ w9 (aX w9 true))).mono ?_;rintro e wa ⟨rfl,d⟩;replace g:=O (g.keeps d);replace f:=O (f.keep0 d);replace i:=O (i.keep d fun _ _=>id);replace k:=O (k.keep d fun _ _=>id);replace r:=O (r.keep d fun _ _=>id);clear d;go_wp2_with fail;refine((Ai wa (.slice tpa 4 tpc) A f.out (by rw[n.out];decide) (fun y hy=>by have h1:=C.len1 y.2 (by rw[←u.out];exact List.mem_map.2 ⟨y,hy,rfl⟩);omega))).mono ?_;rintro e wb ⟨xv,rfl,z,d⟩
 have h8:(cY (dL A)).length=8:=by
  rw[D6 u.out,EQ HND.out,←D6 u.out];unfold dL;rw[show (A.flatMap fun x=>x.2.addrs)=(A.map (·.2)).flatMap fun p=>p.addrs by rw[List.flatMap_map],D7 (by rw[u.out];exact C.len1),List.length_map,n.out]
 rw[h8] at z;obtain⟨xa,xc,rfl,-,-⟩:=(Rd.of_owns z).form;clear z h8;replace g:=O (g.keeps d);replace f:=O (f.keep0 d);replace i:=O (i.keep d fun _ _=>id);replace k:=O (k.keep d fun _ _=>id);replace r:=O (r.keep d fun _ _=>id);clear d;obtain⟨wc,N,d,o,-⟩:=aS wb #[.int .i64 6] 3;obtain⟨X,j⟩:∃b,wb.heap.size=b:=⟨_,rfl⟩
 rw[j] at o;have J:Hid (Rd wc 1 (.slice X 1 1) ([6]:List Int).length (([6]:List Int).map fun x=>.int .i64 x)):=O (FA o rfl rfl (by decide));replace g:=O (g.keeps d);have I:=O j;replace f:=O (f.keep0 d);replace i:=O (i.keep d fun _ _=>id);replace k:=O (k.keep d fun _ _=>id);replace r:=O (r.keep d fun _ _=>id);clear d o j;go_wp2_with fail;clear N;rw[I.out];go_wp2_with fail;refine((by have h:=vM wc (.slice tba 1 tbc) (.slice X 1 1) [6] [6] i.out J.out;rw[decide_eq_true rfl] at h;exact h:Calls _ _ _ wc (aX wc true))).mono ?_;rintro e wd ⟨rfl,d⟩;replace g:=O (g.keeps d);replace f:=O (f.keep0 d);replace i:=O (i.keep d fun _ _=>id);replace k:=O (k.keep d fun _ _=>id);replace r:=O (r.keep d fun _ _=>id);replace J:=O (J.keep d fun _ _=>id);clear d;have HP:=O (g.fin HBN.out HKW.out);clear g;go_wp2;go_ret;exact⟨rfl,HP.out⟩
theorem AU(W:World)(v:Value)(qs:List (Value×Pt))(h:jW W v qs):Calls Tryz.prog 3 #[v] W (L6 W):=by
 obtain⟨va,vc,rfl,-,-⟩:=h.rd.form;obtain⟨q,Q⟩:∃n,qs.length=n:=⟨_,rfl⟩
 have hqm:q≤maxLen:=by obtain⟨_,_,-,h1,h2⟩:=h.rd.form;omega
 unfold maxLen at hqm;have d:=O Q;have HP:=O h;rw[Q];clear h Q;go_in;go_wp2_with fail
 go_loopw [3] (fun i wr=>∃k:Nat,k≤q/\i=.int .i64 (k:Int)/\Hid (∀x∈qs.take k,x.2.addrs.length≤20)/\Hid (aA aB W wr)) (fun i _=>q-(intOf i).toNat)
 case atStart=>exact⟨0,by omega,rfl,O (fun x r=>by cases r),O (aA.refl _ _)⟩
 case round =>
  obtain⟨k,hk,rfl,H8,R⟩:=hrel;rcases Nat.lt_or_ge k q with M|M
  ·have hk0:(0:Int)≤(k:Int):=by omega
   have L:(k:Int)<(q:Int):=by omega
   obtain⟨⟨pv,p⟩,r⟩:∃x,qs[k]?=some x:=⟨qs[k]'(by rw[d.out];exact M),List.getElem?_eq_getElem (by rw[d.out];exact M)⟩
   have hxm:=List.mem_of_getElem? r;have hP:=HP.keep0 R.out;obtain⟨g,o,cap,he,hr⟩:=tI (f:=fun(x:Value×Pt)=>aE x.1 x.2) (s:=35) (fun y hy=>aJ (hP.at_ y hy).sum) (by decide) hP.rd r;rw[d.out] at he;injection he with he1 he2 he3
   subst he1;have HX:=O r;have hpt:PtV wr pv p:=hP.at_ _ hxm;obtain⟨pva,pvc,z,hpm1,hpm2⟩:=hpt.rd.form;obtain⟨n,hn⟩:∃n,p.addrs.length=n:=⟨_,rfl⟩
   have hnm:n≤maxLen:=by omega
   unfold maxLen at hnm;have c1:wr.cell? ⟨g,o+k*35,none⟩=some (.slice pva n pvc):=hr 0 _ (by rw[←hn,←z];rfl);have HN:=O hn;clear r hxm hP hr he2 he3 z hn hpt hpm1 hpm2;rcases Nat.lt_or_ge 20 n with h20|h20
   ·have A:(20:Int)<(n:Int):=by omega
    have hd:decide ((20:Int)<(n:Int))=true:=decide_eq_true A;go_wp2_with fail;refine(rF wr).mono ?_;rintro e w2 ⟨rfl,j⟩;have u:=O (R.trans j);clear j c1;go_wp2;go_ret;exact⟨rfl,u.out⟩
   ·have A:¬(20:Int)<(n:Int):=by omega
    have hd:decide ((20:Int)<(n:Int))=false:=decide_eq_false A;go_wp2_with fail;clear c1
    go_roundw
    case rel=>exact⟨k+1,by omega,by go_num,O (fun x r=>by
     rw[List.take_add_one,HX.out] at r;rcases List.mem_append.1 r with r|r
     ·exact H8.out x r
     ·rcases List.mem_singleton.1 r with rfl
      have:=HN.out;show p.addrs.length≤20;omega),R⟩
    case measure=>simp[intOf];omega
  ·obtain rfl:q=k:=by omega
   have I:Hid (∀x∈qs,x.2.addrs.length≤20):=O (by have h:=H8.out;rwa [List.take_of_length_le (by rw[d.out];exact Nat.le_refl _)] at h);clear H8;rcases Nat.lt_or_ge 60 q with h60|h60
   ·have C:(60:Int)<(q:Int):=by omega
    have hd:decide ((60:Int)<(q:Int))=true:=decide_eq_true C;go_wp2_with fail;refine(rF wr).mono ?_;rintro e w2 ⟨rfl,j⟩;have u:=O (R.trans j);clear j;go_wp2;go_ret;exact⟨rfl,u.out⟩
   ·have C:¬(60:Int)<(q:Int):=by omega
    have hd:decide ((60:Int)<(q:Int))=false:=decide_eq_false C;have HQ6:=O (show qs.length≤1000 from by rw[d.out];omega);go_wp2_with fail;refine((by rw[←d.out];exact EU wr _ qs (HP.keep0 R.out) HQ6.out I.out:Calls _ _ _ wr (rG wr qs))).mono ?_;rintro e w1 ⟨iv,V,rfl,H,z,L⟩;have Y:=O (R.trans L);have G:V.length=q:=by have:=congrArg List.length H;simp only[List.length_map] at this;rw[this,d.out]
    obtain⟨ia,ic,rfl,-,-⟩:=z.rd.form;have HPS:=O H;have HPV:=O z;have HPL:=O G;have HPM:=O (show V.length≤1000 from by rw[G];omega)
    have HAQ:Hid (dL V=dL qs):=O (by
     have e:∀l:List (Value×Pt),dL l=(l.map (·.2)).flatMap fun p=>p.addrs:=fun l=>by unfold dL;rw[List.flatMap_map]
     rw[e,e,H])
    have HP20:Hid (∀x∈V,x.2.addrs.length≤20):=O (fun x r=>by
     have h1:x.2∈qs.map (·.2):=by rw[←HPS.out];exact List.mem_map.2 ⟨x,r,rfl⟩
     obtain⟨y,hy,e⟩:=List.mem_map.1 h1;rw[←e];exact I.out y hy)
    rw[G];clear H z G L;go_wp2_with fail;refine((by have h:=HPV.out;rw[HPL.out] at h;rw[←HAQ.out];exact Ai w1 _ V h HPM.out HP20.out:Calls _ _ _ w1 (gU w1 (cY (dL qs))))).mono ?_;rintro e w2 ⟨av,rfl,ho,j⟩;obtain⟨aa,ac,rfl,-,-⟩:=(Rd.of_owns ho).form;have HO:=O ho;have u:=O (Y.trans j);have HI2:=O j;clear ho j;go_wp2_with fail;refine((by rw[←d.out];exact Hk w2 _ qs (HP.keep0 u.out) HQ6.out I.out:Calls _ _ _ w2 (gU w2 (cY (dL qs))))).mono ?_;rintro e w3 ⟨bv,rfl,N,E⟩;obtain⟨ba,bc,rfl,-,-⟩:=(Rd.of_owns N).form;have HO3:=O N;have HK3:=O (u.trans E);have HI3:=O (HI2.trans E);have J:=O (E.owns HO.out fun _ _=>id);clear N E;go_wp2_with fail;refine(yX w3 _ _ (cY (dL qs)) (cY (dL qs)) (Rd.of_owns J.out) (Rd.of_owns HO3.out) true (decide_eq_true rfl)).mono ?_;rintro e w4 ⟨rfl,F⟩;have HK4:=O (HK3.trans F);have HI4:=O (HI3.trans F);have K:=O (F.owns J.out fun _ _=>id);clear F HO J HO3;go_wp2_with fail;refine(F8 w4 w1.heap.size _ _ _ K.out).mono ?_;rintro e w5 ⟨rfl,hk5⟩;have X:=O (HI4.trans' hk5 (U:=aB) (fun _ _ h=>h) fun i hi e=>by have:=aU K.out e;omega);have HK5:=O (Y.trans X.out);clear hk5 K;go_wp2_with fail;refine((by have h:=HPV.keep0 X.out;rw[HPL.out] at h;rw[←d.out];rw[←d.out] at h;exact ET w5 _ _ V qs h (HP.keep0 HK5.out) HPS.out HPM.out:Calls _ _ _ w5 (aX w5 true))).mono ?_;rintro e w6 ⟨rfl,hk6⟩;have HK6:=O (HK5.trans hk6);clear hk6;go_wp2_with fail;refine(rF w6).mono ?_;rintro e w7 ⟨rfl,hk7⟩;have HK7:=O (HK6.trans hk7);clear hk7;go_wp2;go_ret;exact⟨rfl,HK7.out⟩
end
end Go.Proofs.YtiinnfhjpaeffaaGreat
