import Derived.Test.YtoeinblfcbpcmaaGreatDoorC29
import Derived.Test.YtoeinblfcbpcmaaGreatDoorC30
namespace Go.Proofs.YtoeinblfcbpcmaaGreatDoor
open Tryz
set_option maxHeartbeats 0
set_option maxRecDepth 100000
set_option linter.unusedVariables false
section
open Go.RowKit Go.Maps Go.ChangeMaps
def wrM(Mm:Nat->Nat->List UInt8)(s:Nat)(b:List UInt8):Nat->Nat->Nat->List UInt8
 | 0=>Mm
 | k+1=>fN (wrM Mm s b k) k s b
variable{w w':World}{c a m lb cp D Z nw q q2 q8 q6 s g b2:Nat}{yv gv v lv:Value}{pid b:List UInt8}{t:Lst}{B:Nat->Prop}{P:Nat->Nat->Nat->List UInt8}{Mm:Nat->Nat->List UInt8}{fn:Func}{p:Tmp}{lc:Nat->Option Nat}{Ls:List Ad}{S:Kor}
theorem Dc(Mm:Nat->Nat->List UInt8)(s:Nat)(b:List UInt8):∀(k d f:Nat),f≠s->wrM Mm s b k d f=Mm d f
 | 0,_,_,_=>rfl
 | k+1,d,f,h=>by
   show fN _ _ _ _ _ _=_;unfold fN;rw[if_neg fun e=>h e.2];exact Dc Mm s b k d f h
theorem Fp(Mm:Nat->Nat->List UInt8)(s:Nat)(b:List UInt8):∀(k d:Nat),d<k->wrM Mm s b k d s=b
 | 0,_,h=>absurd h (Nat.not_lt_zero _)
 | k+1,d,h=>by
   show fN _ _ _ _ _ _=_;unfold fN
   by_cases e:d=k
   ·rw[if_pos ⟨e,rfl⟩]
   ·rw[if_neg fun h=>e h.1]
    exact Fp Mm s b k d (by omega)
def rO(w:World)(c a m lb:Nat)(yv:Value)(pid:List UInt8)(cp:Nat)(gv:Value)(t:Lst)(B:Nat->Prop)(D Z:Nat)(P:Nat->Nat->Nat->List UInt8)(nw q k:Nat)(w':World):Prop:=
 ∃f e,eJ w' c a m lb yv pid cp gv t f D Z (P k) e/\(e≤nw+q*k/\(q=0->hE w' a fun d=>k≤d))/\(∀i,f i->B i\/w.heap.size≤i)/\aA B w w'
theorem rO.step{wr F A:World}{y G:Nat->Prop}{r u k:Nat}(E:¬B c/\¬B m/\¬B lb/\∀i,t.Own i->¬B i)(C:c<w.heap.size/\m<w.heap.size/\lb<w.heap.size/\∀i,t.Own i->i<w.heap.size)
 (h:eJ wr c a m lb yv pid cp gv t y D Z (P k) r) (N:r≤nw+q*k/\(q=0->hE wr a fun d=>k≤d)) (H:∀i,y i->B i\/w.heap.size≤i) (R:aA B w wr) (K:aA aB wr F) (W:bE A a G D Z (P (k+1)) u) (z:u≤r+q/\(q=0->∀P,hE F a P->hE A a fun x=>P x/\x≠k)) (I:∀i,G i->y i\/F.heap.size≤i) (k2:aA y F A) (V:∀d,P (k+1) d 0=P k d 0):rO w c a m lb yv pid cp gv t B D Z P nw q (k+1) A:=by
 have l:aA y wr A:=K.trans' k2 (fun _ _ h=>h.elim) fun _ _ h=>h
 have f:∀i,i<w.heap.size->¬B i->¬y i:=fun i J U e=>(H i e).elim U fun e=>by omega
 refine⟨G,u,⟨h.cor.keep l (f c C.1 E.1) fun i e Q=>f i (C.2.2.2 i Q) (E.2.2.2 i Q) e,W,l.blk h.mir (f m C.2.1 E.2.1),h.liv.keep l (f lb C.2.2.1 E.2.2.1),h.cpb,fun d X=>by rw[V];exact h.lab d X⟩,⟨by rw[Nat.mul_succ];have L:=N.1;have M:=z.1;omega,fun h0 p n T e j Y=>by
  obtain⟨g,o,d,L,M,h3,h4⟩:=z.2 h0 _ (h.arr.looseK K (N.2 h0)) p n T e j Y;exact⟨g,o,d,L,M,by omega⟩⟩,fun i J=>?_,R.tT l fun i J e=>(H i e).elim id fun e=>by omega⟩
 rcases I i J with e|e
 ·exact H i e
 ·have:=K.size;have:=R.size
  exact .inr (by omega)
def iA(w:World)(c a m lb:Nat)(yv:Value)(pid:List UInt8)(cp:Nat)(gv:Value)(t:Lst)(B:Nat->Prop)(D Z:Nat)(P:Nat->Nat->Nat->List UInt8)(nw q:Nat)(e:Ending)(w':World):Prop:=
 e=.returned (.tuple #[.int .i64 (D:Int),.int .i64 0])/\rO w c a m lb yv pid cp gv t B D Z P nw q D w'
theorem iA.from{w0:World}{e:Ending}(h:iA w c a m lb yv pid cp gv t B D Z P nw q e w')(k:aA aB w0 w):iA w0 c a m lb yv pid cp gv t B D Z P nw q e w':=by
 obtain⟨j,f,d,l,n,o,r⟩:=h;exact⟨j,f,d,l,n,fun i u=>(o i u).imp id fun h=>Nat.le_trans k.size h,k.trans' r (fun _ _ h=>h.elim) fun _ _ h=>h⟩
structure WrC(w:World)(B:Nat->Prop)(c q2 q8 q6 s:Nat)(v:Value)(b:List UInt8):Prop where
 c2:w.heap[q2]?=some (.cells #[.pointer (some ⟨c,0,none⟩)] 26 (0,0))
 c8:w.heap[q8]?=some (.cells #[.int .i64 (s:Int)] 3 (0,0))
 c6:w.heap[q6]?=some (.cells #[v] 22 (0,0))
 rd:Rd w 1 v 256 (b.map vb)
 off:¬B q2/\¬B q8/\¬B q6/\∀i,v.ownBlock=some i->¬B i
 lt:q2<w.heap.size/\q8<w.heap.size/\q6<w.heap.size/\∀i,v.ownBlock=some i->i<w.heap.size
theorem WrC.keep{f:Nat->Prop}(h:WrC w B c q2 q8 q6 s v b)(k:aA B w w')(j:∀i,f i->B i\/w.heap.size≤i):WrC w' f c q2 q8 q6 s v b:=by
 have q:∀i,i<w.heap.size->¬B i->¬f i:=fun i d h e=>(j i e).elim h fun e=>by omega
 have z:=k.size;exact⟨k.blk h.c2 h.off.1,k.blk h.c8 h.off.2.1,k.blk h.c6 h.off.2.2.1,h.rd.keep k h.off.2.2.2,⟨q _ h.lt.1 h.off.1,q _ h.lt.2.1 h.off.2.1,q _ h.lt.2.2.1 h.off.2.2.1,fun i d=>q i (h.lt.2.2.2 i d) (h.off.2.2.2 i d)⟩,Nat.lt_of_lt_of_le h.lt.1 z,Nat.lt_of_lt_of_le h.lt.2.1 z,Nat.lt_of_lt_of_le h.lt.2.2.1 z,fun i d=>Nat.lt_of_lt_of_le (h.lt.2.2.2 i d) z⟩
theorem WrC.keep0(h:WrC w B c q2 q8 q6 s v b)(k:aA aB w w'):WrC w' B c q2 q8 q6 s v b:=h.keep k.any fun _ e=>.inl e
theorem Gp(h:eJ w c a m lb yv pid cp gv t B D Z Mm nw){d:Nat}(I:WrC w B c q2 q8 q6 s v b)(F:¬B c)(T:d<D)(V:s<Z)(E:b.length=256)(N:nw<100000000000):Calls prog 141 #[.int .i64 (d:Int),.pointer q2,.pointer q8,.pointer q6] w (kK w a B D Z Mm nw d s b):=by
 have y:=O h;have x:=O I;have G:=O F;have l:=O (And.intro T (And.intro V (And.intro E N)));obtain⟨K,L,rfl,-,-⟩:=I.rd.form;have u:=lN w;clear h I F E N;go_in;go_wp2_with fail;refine dwA B (by kernel_rfl) ?_;intro X S k A n o;replace u:=kL u o;replace y:=O (y.keep0 o);replace x:=O (x.keep0 o);clear o;have H:=u;have z:=y;have f:=x;refine tnd 0 (.pointer c) rfl (.inl ⟨by rfl,fun w' j=>by have c:World.cell? w' ⟨q2,0,none⟩=some (.pointer c):=(k w' j).cell (cell_of_one f.c2) f.off.1;go_simp⟩) n ?_;refine tnb 1 (.pointer c) rfl n ?_;refine tnb 2 (.pointer c) rfl n ?_;refine tnd 3 (.pointer a) rfl (.inl ⟨by rfl,fun w' j=>by have c:World.cell? w' ⟨c,0,none⟩=some (.pointer a):=(k w' j).cell (aT.c0 z.cor) G.out;go_simp⟩) n ?_;refine tna 4 (.int .i64 (d:Int)) rfl n ?_;refine tnd 5 (.int .i64 (s:Int)) rfl (.inl ⟨by rfl,fun w' j=>by have c:World.cell? w' ⟨q8,0,none⟩=some (.int .i64 (s:Int)):=(k w' j).cell (cell_of_one f.c8) f.off.2.1;go_simp⟩) n ?_;refine tnd 6 (.slice K 256 L) rfl (.inl ⟨by rfl,fun w' j=>by have c:World.cell? w' ⟨q6,0,none⟩=some (.slice K 256 L):=(k w' j).cell (cell_of_one f.c6) f.off.2.2.1;go_simp⟩) n ?_;refine wA9 7 ?_;go_wp2_with fail;refine((qG y.arr l.1 l.2.1 b l.2.2.1 (.slice K 256 L) x.rd x.off.2.2.2 l.2.2.2)).mono ?_;rintro e W ⟨rfl,Q,M,C,J⟩;have R:Hid (kK w a B D Z Mm nw d s b (.returned (.int .i64 0)) W):=O ⟨rfl,Q,M,fun i U=>(C i U).imp id fun h=>Nat.le_trans u.keep.size h,u.keep.trans' J (fun _ _ h=>h.elim) fun _ _ h=>h⟩;have r:=A.out _ ((k _ n).trans J);clear n J M C u y x;go_wp2_with fail;refine⟨r,?_⟩;refine tna 8 (.int .i64 0) rfl r ?_;refine wpAnyH_done (by kernel_rfl) ?_ _;clear r k A H z f;go_wp2;go_ret;exact R.out
theorem IY(h:eJ w c a m lb yv pid cp gv t B D Z Mm nw)(hT:¬B c/\¬B m/\¬B lb/\∀i,t.Own i->¬B i)(hn:nw≤50000000000):Calls prog 138 #[.pointer c,.func (.func 126) #[.pointer a] #[]] w (iA w c a m lb yv pid cp gv t B D Z (fun _=>Mm) nw 0):=by
 have qd:=h.arr.bd;have f:=O h;have Y:=O hT;have U:=O hn;have u:=O (show c<w.heap.size/\m<w.heap.size/\lb<w.heap.size/\∀i,t.Own i->i<w.heap.size from⟨lt_of_block h.cor.top,lt_of_block h.mir,h.liv.lt,fun i hi=>h.cor.lst.lt hi⟩);have r:=lN w;clear h hT hn;go_in;go_wp2_with fail;have A:=O (fun i (e:B i)=>f.arr.lt e);refine(pJ f.cor f.arr).mono ?_;rintro e y ⟨v0,rfl,L,j⟩;obtain⟨g,o,dc,rfl,-⟩:=nD (Rd.of_owns L) (jL (show 0<D by omega))
 have Q:=O (fun(k:Nat) (j:k<D)=>show World.cell? y ⟨g,o+k,none⟩=some (.int .i64 (k:Int)) from by
  obtain⟨g',o',qc,he,hc⟩:=nD (Rd.of_owns L) (jL j);cases he
  exact hc)
 have R:Hid (¬B g):=O (fun e=>by have h1:=bG L (show (Value.slice (some ⟨g,o,none⟩) D dc).ownBlock=some g from rfl);have h2:=A.out g e;omega);clear L;replace r:=kL r j;replace f:=O (f.keep0 j);clear j;go_wp2_with fail;have l:=O r.keep;have X:=O (show c<y.heap.size/\m<y.heap.size/\lb<y.heap.size/\∀i,t.Own i->i<y.heap.size from⟨Nat.lt_of_lt_of_le u.1 l.size,Nat.lt_of_lt_of_le u.2.1 l.size,Nat.lt_of_lt_of_le u.2.2.1 l.size,fun i hi=>Nat.lt_of_lt_of_le (u.2.2.2 i hi) l.size⟩);have W:Hid (rO y c a m lb yv pid cp gv t B D Z (fun _=>Mm) nw 0 0 y):=O ⟨B,nw,f.out,⟨Nat.le_add_right _ _,fun _=>f.arr.loose0⟩,fun i h=>.inl h,aA.refl _ _⟩;clear r f
 go_loopw [6,8,12] (fun n _ i wr=>∃k:Nat,k≤D/\n=.int .i64 (k:Int)/\i=.int .i64 (k:Int)/\Hid (rO y c a m lb yv pid cp gv t B D Z (fun _=>Mm) nw 0 k wr)) (fun _ _ i _=>D-(intOf i).toNat)
 case atStart=>exact⟨0,by omega,rfl,rfl,W⟩
 case round =>
  obtain⟨k,j,rfl,rfl,J⟩:=hrel
  by_cases x:k<D
  ·obtain⟨B1,qg,G,I,E,z⟩:=J.out
   have f:=O G;have C:=O I;have N:=O E;have T:=O z;have r:=lN wr;have qe:(0:Int)≤(k:Int):=by omega
   have qf:(k:Int)<(D:Int):=by omega
   have K:Hid (World.cell? wr ⟨g,o+k,none⟩=some (.int .i64 (k:Int))):=O (z.cell (Q k x) R.out);clear G I E z J;have M:=f;have c1:wr.cell? ⟨g,o+k,none⟩=some (.int .i64 (k:Int)):=K.out;go_wp2_with fail;clear c1;refine(nC f.arr f.cor f.liv x f.cpb (f.lab _ x)).mono ?_;rintro e w2 ⟨rfl,j⟩;replace r:=kL r j;replace f:=O (f.keep0 j);replace K:=O (j.cell K.out id);clear j;go_wp2_with fail;refine((Aa f.arr x (by have h1:=C.1;have h2:=U.out;omega))).mono ?_;rintro e w3 ⟨⟨rfl,B2,qh,ha,qa,F,j⟩,H⟩;have V:Hid (rO y c a m lb yv pid cp gv t B D Z (fun _=>Mm) nw 0 (k+1) w3):=O (rO.step (P:=(fun _=>Mm)) Y.out X.out M.out (by have h9:=C.out;exact⟨h9.1,fun _=>h9.2 (by trivial)⟩) N.out T.out r.keep ha ⟨by omega,fun _=>H⟩ F j (fun d=>rfl));clear j ha qa F H f r;clear K;go_wp2
   go_roundw
   case rel=>exact⟨k+1,by omega,by go_num,by go_num,V⟩
   case measure=>simp[intOf];omega
  ·obtain rfl:k=D:=by omega
   have HP:=O (iA.from (w0:=w) ⟨rfl,J.out⟩ l.out);clear J;go_wp2
   go_ret2
   exact HP.out
theorem IZ(h:eJ w c a m lb yv pid cp gv t B D Z Mm nw)(hT:¬B c/\¬B m/\¬B lb/\∀i,t.Own i->¬B i)(hW:WrC w B c q2 q8 q6 s v b)(hs:1≤s/\s<Z)(K:b.length=256)(hn:nw≤50000000000):Calls prog 138 #[.pointer c,.func (.func 141) #[] #[.pointer q2,.pointer q8,.pointer q6]] w (iA w c a m lb yv pid cp gv t B D Z (wrM Mm s b) nw 1):=by
 have qf:=h.arr.bd;have f:=O h;have I:=O hT;have qa:=O hn;have HW:=O hW;have HS:=O hs;have V:=O K;have u:=O (show c<w.heap.size/\m<w.heap.size/\lb<w.heap.size/\∀i,t.Own i->i<w.heap.size from⟨lt_of_block h.cor.top,lt_of_block h.mir,h.liv.lt,fun i hi=>h.cor.lst.lt hi⟩);have r:=lN w;clear h hT hn hW hs K;go_in;go_wp2_with fail;have E:=O (fun i (e:B i)=>f.arr.lt e);refine(pJ f.cor f.arr).mono ?_;rintro e C ⟨v0,rfl,R,j⟩;obtain⟨g,o,dc,rfl,-⟩:=nD (Rd.of_owns R) (jL (show 0<D by omega))
 have W:=O (fun(k:Nat) (j:k<D)=>show World.cell? C ⟨g,o+k,none⟩=some (.int .i64 (k:Int)) from by
  obtain⟨g',o',qe,he,hc⟩:=nD (Rd.of_owns R) (jL j);cases he
  exact hc)
 have X:Hid (¬B g):=O (fun e=>by have h1:=bG R (show (Value.slice (some ⟨g,o,none⟩) D dc).ownBlock=some g from rfl);have h2:=E.out g e;omega);clear R;replace r:=kL r j;replace f:=O (f.keep0 j);replace HW:=O (HW.keep0 j);clear j;go_wp2_with fail;have l:=O r.keep;have H:=O (show c<C.heap.size/\m<C.heap.size/\lb<C.heap.size/\∀i,t.Own i->i<C.heap.size from⟨Nat.lt_of_lt_of_le u.1 l.size,Nat.lt_of_lt_of_le u.2.1 l.size,Nat.lt_of_lt_of_le u.2.2.1 l.size,fun i hi=>Nat.lt_of_lt_of_le (u.2.2.2 i hi) l.size⟩);have qd:Hid (rO C c a m lb yv pid cp gv t B D Z (wrM Mm s b) nw 1 0 C):=O ⟨B,nw,f.out,⟨Nat.le_add_right _ _,fun _=>f.arr.loose0⟩,fun i h=>.inl h,aA.refl _ _⟩;clear r f
 go_loopw [6,8,12] (fun n _ i wr=>∃k:Nat,k≤D/\n=.int .i64 (k:Int)/\i=.int .i64 (k:Int)/\Hid (rO C c a m lb yv pid cp gv t B D Z (wrM Mm s b) nw 1 k wr)) (fun _ _ i _=>D-(intOf i).toNat)
 case atStart=>exact⟨0,by omega,rfl,rfl,qd⟩
 case round =>
  obtain⟨k,j,rfl,rfl,N⟩:=hrel
  by_cases z:k<D
  ·obtain⟨B1,qi,L,M,y,A⟩:=N.out
   have f:=O L;have G:=O M;have U:=O y;have Y:=O A;have r:=lN wr;have qg:(0:Int)≤(k:Int):=by omega
   have qh:(k:Int)<(D:Int):=by omega
   have Q:Hid (World.cell? wr ⟨g,o+k,none⟩=some (.int .i64 (k:Int))):=O (A.cell (W k z) X.out);have x:=O (HW.keep A y);have F:Hid (¬B1 c):=O (fun e=>(y c e).elim I.1 fun e=>by have h1:=H.1;omega);clear L M y A N;have T:=f;have c1:wr.cell? ⟨g,o+k,none⟩=some (.int .i64 (k:Int)):=Q.out;go_wp2_with fail;clear c1;refine(nC f.arr f.cor f.liv z f.cpb (f.lab _ z)).mono ?_;rintro e w2 ⟨rfl,j⟩;replace r:=kL r j;replace f:=O (f.keep0 j);replace Q:=O (j.cell Q.out id);replace x:=O (x.keep0 j);clear j;go_wp2_with fail;refine((Gp f.out x.out F.out z HS.2 V.out (by have h1:=G.1;have h2:=qa.out;omega))).mono ?_;rintro e w3 ⟨rfl,B2,ha,J,j⟩;have qc:Hid (rO C c a m lb yv pid cp gv t B D Z (wrM Mm s b) nw 1 (k+1) w3):=O (rO.step (P:=(wrM Mm s b)) I.out H.out T.out ⟨G.1,fun e=>absurd e (by decide)⟩ U.out Y.out r.keep ha ⟨Nat.le_refl _,fun e=>absurd e (by decide)⟩ J j (fun d=>by show fN _ _ _ _ d 0=_;unfold fN;rw[if_neg fun e=>by have h1:=HS.1;omega]));clear j ha J x f r;clear Q;go_wp2
   go_roundw
   case rel=>exact⟨k+1,by omega,by go_num,by go_num,qc⟩
   case measure=>simp[intOf];omega
  ·obtain rfl:k=D:=by omega
   have HP:=O (iA.from (w0:=w) ⟨rfl,N.out⟩ l.out);clear N;go_wp2
   go_ret2
   exact HP.out
theorem BF(h:eJ w c a m lb yv pid cp gv t B D Z Mm nw)(r:¬B c/\¬B m/\¬B lb/\∀i,t.Own i->¬B i)(z:nw≤50000000000)(o:Value)(u:Ub)(C:UbV w o u):Calls prog 80 #[.pointer c,.agg (aV o u).toArray] w (iA w c a m lb yv pid cp gv t B D Z (fun _=>Mm) nw 0):=by
 have d:=O h;have n:=O r;have k:=O z;obtain⟨E,f⟩:=zX9 (aV o u)
 rw[f];have j:=lN w;clear h r z C f;go_in
 go_wp2_with refine bxM j (E.toArray) ?_
 intro G F x j;replace d:=O (d.keep0 x);clear x;have c1:F.cell? ⟨c,0,none⟩=some (.pointer a):=(aT.c0 d.cor)
 go_wp2_with fail;clear c1;refine((IY d.out n.out k.out)).mono ?_;rintro e H y;have A:=O (y.from j.keep);obtain⟨rfl,-⟩:=y;clear j d;go_wp2
 go_ret2
 exact A.out
theorem jW{u:Ub}(h:UbV w v u):∀x∈aV v u,x.oneCell'=true:=by
 intro x d;unfold aV at d;rcases List.mem_cons.1 d with rfl|d
 ·rfl
 ·rcases List.mem_append.1 d with d|d
  ·exact fE h.root x d
  ·rcases List.mem_cons.1 d with rfl|d
   ·rfl
   ·obtain⟨y,-,rfl⟩:=List.mem_map.1 d
    rfl
theorem I0(h:eJ w c a m lb yv pid cp gv t B D Z Mm nw)(hT:¬B c/\¬B m/\¬B lb/\∀i,t.Own i->¬B i)(hn:nw≤50000000000)(K:Value)(u:Ub)(H:UbV w K u)(C:u.may=true):Calls prog 81 #[.pointer c,.agg (aV K u).toArray] w (iA w c a m lb yv pid cp gv t B D Z (wrM Mm (eC u.txg).toNat (aY u)) nw 1):=by
 have o:=O h;have qf:=O hT;have qa:=O hn;have f:=O H;have Y:=O C;have r:=O (fun i (e:B i)=>h.arr.lt e);have HZ:=O h.arr.bd;have G:=xZ H.pool H.root.sum C
 have F:Hid (1≤u.txg/\u.txg≤2147483648):=O (by
  unfold Ub.may at C;simp only[Bool.and_eq_true,decide_eq_true_eq] at C;exact⟨C.1.1.1.1,C.1.1.1.2⟩)
 obtain⟨s,hs,qh,qj⟩:∃s:Nat,eC u.txg=(s:Int)/\1≤s/\s≤4:=by
  have A:=F.out;have e:lC u.txg=true:=by unfold lC;rw[decide_eq_true A.1,decide_eq_true A.2];rfl
  refine⟨(eC u.txg).toNat,?_,?_,?_⟩<;>(unfold eC;rw[if_pos e];omega)
 have qe:=O hs;rw[show (eC u.txg).toNat=s from by rw[hs];rfl];obtain⟨bs,k⟩:=zX9 (aY u)
 have qc:=O k;rw[k] at G ⊢;have qd:=O G;obtain⟨tx,U⟩:=zX9 u.txg
 have E:=O U;have V:=bZ (v:=K) H.root.sum H.pool;have y:∀x∈aV K u,x.oneCell'=true:=jW H;obtain⟨uc,z⟩:=zX9 (aV K u)
 have N:=O z;rw[z] at V y ⊢;have qi:=O y;have j:=lN w;clear h hT hn H C hs k y z U;go_in
 go_wp2_with refine bxM j (#[.pointer c]) ?_
 intro b2 w1 d j;replace o:=O (o.keep0 d);replace f:=O (f.keep d fun _ _=>id);clear d
 go_wp2_with refine bxM j (uc.toArray) ?_
 intro b3 w2 d j;replace o:=O (o.keep0 d);replace f:=O (f.keep d fun _ _=>id);clear d
 go_wp2_with ((with_reducible show WL _ _);refine ldR (j.b 0) cP (by rw[V];exact gB) ?_)
 have qg:=O j.keep.size;refine((by rw[←N.out];exact yB w2 K u f.out:Ka w2 (yA w2 u))).mono ?_;rintro e w3 ⟨v,rfl,J,d⟩;rw[Y.out];rw[qc.out,G] at J;obtain⟨va,vc,rfl,-,-⟩:=(Rd.of_owns J).form;have n:=O (Rd.of_owns J);have M:Hid (∀i,(Value.slice va 256 vc).ownBlock=some i->w.heap.size≤i/\i<w3.heap.size):=O (fun i I=>⟨Nat.le_trans qg.out (bG J I),by obtain⟨cur,hc⟩:=aH J I;exact lt_of_block hc⟩);clear J;replace j:=kL j d;replace o:=O (o.keep0 d);replace f:=O (f.keep d fun _ _=>id);clear d
 go_wp2_with refine alV (.slice va 256 vc) Qg ?_
 intro b6 X k d R
 have L:=O (show w3.heap.size≤b6 from Nat.le_of_eq k);replace j:=lW j k d R;replace o:=O (o.keep0 d);replace f:=O (f.keep d fun _ _=>id);replace n:=O (n.keep d fun _ _=>id);clear k d R;have c1:X.cell? ⟨b3,0,none⟩=some (.int .i64 tx):=(aC (i:=0) (j.b 1) (by rw[←N.out,←E.out];rfl))
 go_wp2_with fail;clear c1;refine((by rw[←E.out];exact Fo X u.txg (by have A:=F.out;omega) (by have A:=F.out;omega):Ka X (AS X u.txg))).mono ?_;rintro e w6 ⟨rfl,d⟩;replace j:=kL j d;replace o:=O (o.keep0 d);replace f:=O (f.keep d fun _ _=>id);replace n:=O (n.keep d fun _ _=>id);clear d;rw[qe.out];obtain⟨sb,T⟩:=zX9 (lC u.txg)
 rw[T];clear T
 go_wp2_with refine alV (.int .i64 (s:Int)) QL ?_
 intro b8 w8 k d R
 replace j:=lW j k d R;replace o:=O (o.keep0 d);replace f:=O (f.keep d fun _ _=>id);replace n:=O (n.keep d fun _ _=>id);clear k d R;have c1:=cD j 3
 go_wp2_with fail;clear c1;have Q:Hid (WrC w8 B c b2 b8 b6 s (.slice va 256 vc) bs):=O ⟨j.b 3,j.b 0,j.b 1,n.out,⟨fun e=>by have A:=r.out _ e;have W:=j.lt 3;omega,fun e=>by have A:=r.out _ e;have W:=j.lt 0;omega,fun e=>by have A:=r.out _ e;have W:=j.lt 1;omega,fun i I e=>by have A:=r.out _ e;have W:=M.out i I;omega⟩,(j.lt 3).2,(j.lt 0).2,(j.lt 1).2,fun i I=>by have A:=(M i I).2;have W:=L.out;have h3:=(j.lt 1).2;omega⟩;refine((IZ o.out qf.out Q.out ⟨qh,by have A:=HZ.out;omega⟩ qd.out qa.out)).mono ?_;rintro e w9 C;have HP:=O (C.from j.keep);obtain⟨rfl,-⟩:=C;clear j o f n Q;go_wp2
 go_ret2
 exact HP.out
theorem DW{e:TypeId}(h:fn.results=#[.cell p e])(tmps:Array Value)(P:Program)(w:World)(a:Addr)(x:Value)(d:tmps.getD p undef=.pointer (some a))(f:(loadVar e a).run P w=.ok x w) :
 (results fn tmps).run P w=.ok x w:=by
 simp only[results,h];simp only[Array.getD_eq_getD_getElem?] at d;simp[asAddr,d,f]
theorem I1(w:World)(v:Value)(D:Nat)(h:0<D)(e:Rd w 1 v D (lA D)):Calls prog 137 #[v,.bool true] w (aN w (.int .i64 0)):=by
 obtain⟨g,o,j,rfl,d⟩:=nD e (show (lA D)[0]?=some (.bool true) by unfold lA;rw[List.getElem?_replicate];exact if_pos h);have f:=O d;have k:(0:Int)<(D:Int):=by omega
 clear e d;go_in;go_wp2_with fail
 go_loopw [5,8] (fun _ i wr=>i=.int .i64 0/\wr=w) (fun _ _ _=>0)
 case atStart=>exact⟨rfl,rfl⟩
 case round =>
  obtain⟨rfl,rfl⟩:=hrel;have c1:wr.cell? ⟨g,o,none⟩=some (.bool true):=f.out;go_wp2;go_ret;exact aN.of (aA.refl _ _)
theorem DX(w:World)(v:Value)(D:Nat)(j:0<D)(f:Rd w 1 v D (lA D)):Calls prog 79 #[v,.bool true] w (aN w (.bool true)):=by
 have h:=O (I1 w v D j f);clear f;go_in;go_wp2_with fail;refine h.mono ?_;rintro e k ⟨rfl,d⟩;have i:=O d;clear d;go_wp2;go_ret;exact aN.of i.out
def I2(w:World)(v:Value):Prop:=∀i,v.ownBlock=some i->∃d T,w.heap[i]?=some (.cells d T (0,0))
theorem I2.keep{T:Nat->Prop}(h:I2 w v)(k:aA T w w')(j:∀i,v.ownBlock=some i->¬T i):I2 w' v:=fun i d=>by
 obtain⟨f,U,e⟩:=h i d;exact⟨f,U,k.blk e (j i d)⟩
def Qt:List Value:=aV (.slice none 0 0) ⟨0,zPt,0,List.replicate 32 0⟩
theorem vL:Qt.length=69:=rfl
theorem I3:Hid (∀w,(zeroValue 71).run prog w=.ok (.agg Qt.toArray) w):=O fun w=>by kernel_rfl
theorem NC(f g:Nat->Value)(x n:Int):prog.built 71 [(0,.int .i64 x),(1,.agg ((List.range 35).map f).toArray),(2,.int .i64 n),(3,.agg ((List.range 32).map g).toArray)]=some (Value.int .i64 x::((List.range 35).map f++(.int .i64 n::(List.range 32).map g))).toArray:=by kernel_rfl
theorem ND(d:List Value)(h:d.length=35):d=(List.range 35).map fun i=>d.getD i undef:=by
 apply List.ext_getElem?;intro i;rw[List.getElem?_map]
 by_cases e:i<35
 ·rw[List.getElem?_range e,List.getElem?_eq_getElem (by omega)]
  simp[List.getD,List.getElem?_eq_getElem (show i<d.length by omega)]
 ·rw[List.getElem?_eq_none (by omega),List.getElem?_eq_none (by simp;omega)];rfl
theorem NE(v:Value)(u:Ub)(e:u.root.sum.length=32)(d:u.pool.length=32)(w:World):(Instr.build 71 #[(0,.int .i64 u.txg),(1,.agg (aL v u.root).toArray),(2,.int .i64 u.len),(3,.agg (u.pool.map vb).toArray)]).run prog w=.ok (.agg (aV v u).toArray) w:=by
 refine run_build w 71 _ _ ?_;unfold aV;rw[ND (aL v u.root) (bB e),Cv (u.pool.map vb) (by rw[List.length_map,d])];exact NC _ _ _ _
theorem Ln(a m:Nat)(pid:List UInt8)(i:pid.length=32)(cp:Nat)(lv gv:Value)(t:Lst)(rv:Value)(u:Ub)(d:(aV t.rv t.u).length=69)(e:(aV rv u).length=69):spl (dZ a m pid cp lv gv t).toArray 39 (aV rv u)=(dZ a m pid cp lv gv ⟨rv,u,t.ov,t.ol,t.vv,t.vl⟩).toArray:=by
 have h:=qT (.pointer a::.pointer m::(pid.map vb++[.int .i64 (cp:Int),lv,gv,t.ov,t.vv])) (aV t.rv t.u) (aV rv u) [.bool false] (by rw[d,e]);have f:(.pointer a::.pointer m::(pid.map vb++[.int .i64 (cp:Int),lv,gv,t.ov,t.vv])).length=39:=by simp[i]
 rw[f] at h;unfold dZ eF
 simpa [List.append_assoc] using h
def Fq(w:World)(c a m lb:Nat)(yv:Value)(pid:List UInt8)(cp:Nat)(gv:Value)(t:Lst)(B:Nat->Prop)(D Z:Nat)(Mm:Nat->Nat->List UInt8)(sl:Nat)(pk:List UInt8)(nw k:Nat)(w':World):Prop:=
 ∃h e f,eJ w' c a m lb yv pid cp gv t h D Z f e/\(e≤nw+D*(k / 2)/\(k=3->e=0))/\((∀d s,s≠sl->f d s=Mm d s)/\(2≤k->∀d,d<D->f d sl=pk))/\(∀i,h i->B i\/w.heap.size≤i)/\aA B w w'
def Ab(w:World)(c a m lb g b2:Nat)(yv:Value)(lc:Nat->Option Nat)(pid:List UInt8)(cp:Nat)(t:Lst)(B:Nat->Prop)(D Z:Nat)(Mm:Nat->Nat->List UInt8)(Ls:List Ad)(p:Pt)(n:Int)(e:Ending)(w':World):Prop:=
 e=.returned (.int .i64 0)/\∃h rv f,((∀d s,s≠(eC (t.u.txg+1)).toNat->f d s=Mm d s)/\∀d,d<D->f d (eC (t.u.txg+1)).toNat=aY ⟨t.u.txg+1,p,n,pid⟩)/\fI w' c a m lb g b2 yv lc pid cp ⟨rv,⟨t.u.txg+1,p,n,pid⟩,t.ov,t.ol,t.vv,t.vl⟩ h D Z f 0 Ls/\(∀i,h i->B i\/w.heap.size≤i)/\AQ w rv/\aA (fun k=>B k\/k=c) w w'
theorem Ac(h:fI w c a m lb g b2 yv lc pid cp t B D Z Mm nw Ls)(ht:0≤t.u.txg/\t.u.txg+1<2147483648)(pv:Value)(p:Pt)(hp:PtV w pv p)(xu:p.addrs.length≤65536)(n:Int)(hm:Ub.may ⟨t.u.txg+1,p,n,pid⟩=true):Calls prog 26 #[.pointer c,.agg (aL pv p).toArray,.int .i64 n] w (Ab w c a m lb g b2 yv lc pid cp t B D Z Mm Ls p n):=by
 have xq:=h.led.bd;have F:=O h;have z2:=O h;have R:=O hp;have xh:=O xu;have x0:=O hm;have HT:=O ht;have xd:=O h.many;have J:=O h.cor.cor.idl;have zv:=O hp.ads;have qq:=O hp.sum;have H:=O h.top;have I:=O h.far;have W:=O (fun i (e:B i)=>h.lt (.inl e));have Q:=O (show c<w.heap.size/\m<w.heap.size/\lb<w.heap.size/\(∀i,t.Own i->i<w.heap.size)/\∀i,Own g b2 lc D i->i<w.heap.size from⟨lt_of_block h.cor.cor.top,lt_of_block h.cor.mir,h.cor.liv.lt,fun i x=>h.cor.cor.lst.lt x,fun i x=>h.lt (.inr x)⟩);have xt:=bB (v:=pv) hp.sum;have zf:=fE hp;obtain⟨pc,ql⟩:=zX9 (aL pv p)
 have ve:Hid (∀u∈pc,u.oneCell'=true):=O (by rw[←ql];exact zf);have x2:=O ql;have x3:Hid (∃r,pc=pv::r):=O ⟨_,ql.symm⟩;rw[ql] at xt ⊢;have z:=lN w;clear h hp xu ht hm zf ql
 go_enter_defers func26,ntmps26
 go_wp2_with refine bxM z (pc.toArray) ?_
 intro b4 w1 j z;replace F:=O (F.keep0 j);replace R:=O (R.keep j fun _ _=>id);clear j
 go_wp2_with refine alS z qQ ?_
 intro b6 w2 j z;replace F:=O (F.keep0 j);replace R:=O (R.keep j fun _ _=>id);clear j;go_wp2_with fail;refine(kO F.cor.cor F.cor.arr).mono ?_;rintro e w3 ⟨rfl,j⟩;replace z:=kL z j;replace F:=O (F.keep0 j);replace R:=O (R.keep j fun _ _=>id);clear j;have c1:w3.cell? ⟨b4,0,none⟩=some (pv):=(by obtain⟨r,e⟩:=x3.out;exact aC (i:=0) (z.b 1) (by rw[e];rfl))
 go_wp2_with fail;clear c1;have x5:=O z.keep.size;refine((jU w3 pv p.addrs R.rd xh.out)).mono ?_;rintro e w4 ⟨M,rfl,ho,j⟩;obtain⟨va,vc,rfl,-,-⟩:=(Rd.of_owns ho).form;have qv:Hid (PtV w4 (.slice va p.addrs.length vc) p):=O ⟨Rd.of_owns ho,zv.out,qq.out⟩
 have qu:Hid (∀i,(Value.slice va p.addrs.length vc).ownBlock=some i->w.heap.size≤i/\w3.heap.size≤i/\i<w4.heap.size/\∃cs T,w4.heap[i]?=some (.cells cs T (0,0))):=O (fun i x=>by
  obtain⟨cur,hc⟩:=aH ho x;exact⟨Nat.le_trans x5.out (bG ho x),bG ho x,lt_of_block hc,_,_,hc⟩)
 have zd:=O (And.intro (z.lt 0).2 (z.lt 1).2);have C:Hid (I2 w4 (.slice va p.addrs.length vc)):=O fun i x=>(qu i x).2.2.2
 clear ho;replace z:=kL z j;replace F:=O (F.keep0 j);replace R:=O (R.keep j fun _ _=>id);clear j;clear R
 go_wp2_with ((with_reducible show WL _ _);refine sta 29 (.tmp 22) (.tmp 21) b4 0 [.slice va p.addrs.length vc] (z.b 1) (by rw[List.size_toArray,xt];simp) (by kernel_rfl) (one9) ?_)
 intro w5 j Y;rw[←x2.out,K6] at Y;have hF:∀i,i=b4->i≠c/\i≠m/\i≠lb/\¬B i/\¬Own g b2 lc D i/\¬t.Own i:=z2.fresh (z.lt 1).1;replace F:=O (F.keepT j hF);have zq:∀i,(Value.slice va p.addrs.length vc).ownBlock=some i->i≠b4:=fun i x e=>by have E:=(qu i x).2.1;have G:=zd.out;omega
 replace qv:=O (qv.keep j zq);replace C:=O (C.keep j zq);replace z:=O (z.set 1 j Y);obtain⟨M,zr⟩:=zX9 (Value.slice va p.addrs.length vc)
 rw[zr] at qv qu C;have xv:=bB (v:=M) qq.out;obtain⟨qc,qa⟩:=zX9 (aL M p)
 have vf:Hid (∀u∈qc,u.oneCell'=true):=O (by rw[←qa];exact fE qv.out);have vg:=O qa;rw[zr,qa] at z;rw[qa] at xv;obtain⟨u,hu⟩:∃u:Ub,⟨t.u.txg+1,p,n,pid⟩=u:=⟨_,rfl⟩
 have za:=O hu;have xe:Hid (u.may=true):=O (by rw[←hu];exact x0.out);have K:=bZ (v:=M) (u:=u) (by rw[←hu];exact qq.out) (by rw[←hu];exact J.out);have q4:=NE M u (by rw[←hu];exact qq.out) (by rw[←hu];exact J.out);have o:=O (UbV.mk (w:=w5) (v:=M) (u:=u) (by rw[←hu];exact qv.out) (by rw[←hu];exact J.out));have zg:=jW o.out;obtain⟨uc,qt⟩:=zX9 (aV M u)
 have qw:=O qt;have xg:Hid (∀y∈uc,y.oneCell'=true):=O (by rw[←qt];exact zg);rw[qt] at K q4;rw[←hu] at q4;rw[qa] at q4;have xy:=O q4;have vn:0≤t.u.txg/\t.u.txg+1<2147483648:=HT.out;clear j Y hF zq zr qa hu q4 zg qt qv;go_wp2_with fail;refine dwB aB (by kernel_rfl) ?_;intro w6 S qm zn hS q5;replace z:=kL z q5;replace F:=O (F.keep0 q5);replace o:=O (o.keep q5 fun _ _=>id);replace C:=O (C.keep q5 fun _ _=>id);clear q5;have zl:=z;have zk:=F;have xk:=o;have q3:=C;refine tna 0 (.pointer c) rfl hS ?_;refine tnb 1 (.pointer c) rfl hS ?_;refine tnb 2 (.pointer (some ⟨c,39,none⟩)) rfl hS ?_;refine tnb 3 (.pointer (some ⟨c,39,none⟩)) rfl hS ?_;refine tnd 4 (.int .i64 t.u.txg) rfl (.inl ⟨by rfl,fun w' x9=>by have c:World.cell? w' ⟨c,39,none⟩=some (.int .i64 t.u.txg):=(qm w' x9).cell (aT.txg_ zk.cor.cor) id;go_simp⟩) hS ?_;refine tnd 5 (.int .i64 (t.u.txg+1)) rfl (.inl ⟨by rfl,fun _ _=>by go_simp;exact IntWalk.i64_in _ (by omega)⟩) hS ?_;refine tnd 6 (.agg qc.toArray) rfl (yieldsIf_load_mid (by rfl) 33 (.tmp 4) rfl b4 0 rfl qc _ (fun w' h=>aD ((qm w' h).blk (zl.b 1) id)) bJ rfl (szP9 xv)) hS ?_;refine tna 7 (.int .i64 n) rfl hS ?_;refine tna 8 (.pointer c) rfl hS ?_;refine tnb 9 (.pointer c) rfl hS ?_;refine tnb 10 (.pointer (some ⟨c,2,none⟩)) rfl hS ?_;refine tnd 11 (.agg (pid.map vb).toArray) rfl (yieldsIf_load_mid (by rfl) 31 (.tmp 33) rfl c 2 rfl (pid.map vb) _ (fun w' h=>(qm w' h).rangeAt (aT.id_ zk.cor.cor)) underlying31 rfl (by rw[List.length_map,J.out];exact oA)) hS ?_;refine tnd 12 (.agg uc.toArray) rfl (lO 71 #[(0,.tmp 28),(1,.tmp 29),(2,.tmp 30),(3,.tmp 34)] [(0,.int .i64 (t.u.txg+1)),(1,.agg qc.toArray),(2,.int .i64 n),(3,.agg (pid.map vb).toArray)] (.agg uc.toArray) xy.out) hS ?_;refine wA9 13 ?_;refine alA I3 ?_;intro b8 w7 qn j Y;have qo:=O (show w6.heap.size≤b8 from by have:=(qm _ hS).size;omega);have zo:=zn.out _ ((qm _ hS).trans j);clear hS;replace z:=lW z qn j Y;replace F:=O (F.keep0 j);replace o:=O (o.keep j fun _ _=>id);replace C:=O (C.keep j fun _ _=>id);clear qn j Y;refine wpList_nil ?_;refine⟨zo,?_⟩;refine wA9 14 ?_;refine stW (z.b 0) K vL (by rw[K];exact gB) xg.out ?_;intro w8 j Y;have xp:=zn.out _ ((qm _ zo).tT j (fun i x e=>by have:=qo.out;omega));clear zo;replace z:=O (z.set 0 j Y);replace F:=O (F.keepT j (z2.fresh (by have E:=qo.out;have G:=zl.keep.size;omega)));replace o:=O (o.keep j fun i x e=>by obtain⟨x7,T_,h_⟩:=q3.out i x;have E:=lt_of_block h_;have G:=qo.out;omega);replace C:=O (C.keep j fun i x e=>by obtain⟨x7,T_,h_⟩:=q3.out i x;have E:=lt_of_block h_;have G:=qo.out;omega);clear j Y;refine wpList_nil ?_;refine⟨xp,?_⟩;refine wpAnyH_done (by kernel_rfl) ?_ _;clear xp qm zn zl zk xk q3;refine noP ?_
 go_wp2_with ((with_reducible show WL _ _);refine ldR (z.b 0) cP (by rw[K];exact gB) ?_)
 refine((by rw[←qw.out];exact uW w8 M u o.out:Ka w8 (rF w8 u.may))).mono ?_;rintro e w9 ⟨rfl,j⟩;replace z:=kL z j;replace F:=O (F.keep0 j);replace o:=O (o.keep j fun _ _=>id);replace C:=O (C.keep j fun _ _=>id);clear j;rw[xe.out];go_wp2_with fail;refine(zD F.cor).mono ?_;rintro e wa ⟨v2,rfl,ho,j⟩;obtain⟨xa,xc,rfl,-,-⟩:=(Rd.of_owns ho).form;have HO:=O (Rd.of_owns ho);clear ho;replace z:=kL z j;replace F:=O (F.keep0 j);replace o:=O (o.keep j fun _ _=>id);replace C:=O (C.keep j fun _ _=>id);clear j;go_wp2_with fail;refine((DX wa (.slice xa D xc) D (by omega) HO.out)).mono ?_;rintro e wb ⟨rfl,j⟩;replace z:=kL z j;replace F:=O (F.keep0 j);replace o:=O (o.keep j fun _ _=>id);replace C:=O (C.keep j fun _ _=>id);replace HO:=O (HO.keep j fun _ _=>id);clear j;clear HO;obtain⟨wc,zu,j,Y,-⟩:=aM wb #[.func (.func 80) #[] #[],.func (.func 81) #[] #[],.func (.func 80) #[] #[]] 138;obtain⟨zb,qn⟩:=zX9 wb.heap.size
 rw[qn] at Y;replace z:=lW z qn j Y;have q7:=O qn;replace F:=O (F.keep0 j);replace o:=O (o.keep j fun _ _=>id);replace C:=O (C.keep j fun _ _=>id);clear j Y qn;go_wp2_with fail;clear zu;rw[q7.out];have z7:=O z.keep;have xw:=O (z.b 2);have xx:=O (z.b 1);have zw:=O (z.b 0);have zx:=O (z.lt 2).2;have zz:Hid (m≠c/\lb≠c):=O ⟨fun e=>by (have E:=F.cor.mir;rw[eQ,e,F.cor.cor.top] at E;cases E),F.cor.liv.ne F.cor.cor.top⟩;have HG:=O (And.intro (z.lt 2).1 (And.intro (z.lt 1).1 (z.lt 0).1));have xz:=F;have xj:=o;have qe:Hid (∀i,M.ownBlock=some i->¬B i/\i≠b6/\w.heap.size≤i/\i<wc.heap.size):=O (fun i x=>⟨fun e=>by have E:=W.out i e;have G:=(qu i x).1;omega,fun e=>by have E:=(qu i x).2.1;have G:=zd.out;omega,(qu i x).1,by (obtain⟨cs,T,h⟩:=C.out i x;exact lt_of_block h)⟩);have xf:Hid (nw≤40000000000/\D*2≤16):=O (by have E:=xd.out;have G:=HT.out;omega);have x4:Hid (Fq wc c a m lb yv pid cp (.pointer g) t B D Z Mm (eC u.txg).toNat (aY u) nw 0 wc):=O ⟨B,nw,Mm,F.cor,⟨by omega,fun h=>absurd h (by decide)⟩,⟨fun _ _ _=>rfl,fun h=>absurd h (by decide)⟩,fun i h=>.inl h,aA.refl _ _⟩;have X:Hid (wc.heap.size ≥ w.heap.size):=O z7.size;clear z F o
 go_loopw [9,10,11,12,47] (fun _ _ _ _ i wr=>∃k:Nat,k≤3/\i=.int .i64 (k:Int)/\Hid (Fq wc c a m lb yv pid cp (.pointer g) t B D Z Mm (eC u.txg).toNat (aY u) nw k wr)) (fun _ _ _ _ i _=>3-(intOf i).toNat)
 case atStart=>exact⟨0,by omega,rfl,x4⟩
 case round =>
  obtain⟨k,j,rfl,HC⟩:=hrel;obtain⟨B1,V,M1,xr,zp,xm,qx,qy⟩:=HC.out;have hD:2≤D/\D≤8:=⟨xq.1,xq.2.1⟩
  have zm:Hid (V≤50000000000):=O (by
   have E:=xf.out;have G:D*(k / 2)≤8*2:=Nat.mul_le_mul hD.2 (by omega);have h3:=zp.1;omega)
  have q9:=O zp;have A:=O xr;have qz:=O xm;have N:=O qx;have qd:=O qy;have o:=O (xj.keep qy fun i x=>(qe i x).1);have vm:∀i,w.heap.size≤i->i<wc.heap.size->¬B i:=fun i x _ e=>by have E:=W.out i e;omega
  have xo:wr.heap[b8]?=some (.cells uc.toArray 71 (0,0)):=qy.blk xx.out fun e=>by have E:=W.out _ e;have G:=HG.out;omega
  have zi:wr.heap[zb]?=some (.cells #[.func (.func 80) #[] #[],.func (.func 81) #[] #[],.func (.func 80) #[] #[]] 138 (0,0)):=qy.blk zw.out fun e=>by have E:=W.out _ e;have G:=HG.out;omega
  have xn:wr.heap[b6]?=some (.cells #[.int .i64 0] 37 (0,0)):=qy.blk xw.out fun e=>by have E:=W.out _ e;have G:=HG.out;omega
  have q1:=O xo;have qp:=O zi;have xi:=O xn;have qi:Hid (¬B1 c/\¬B1 m/\¬B1 lb/\∀i,t.Own i->¬B1 i):=O ⟨fun e=>(qx c e).elim H.1 fun e=>by have E:=Q.1;have G:=X.out;omega,fun e=>(qx m e).elim H.2.1 fun e=>by have E:=Q.2.1;have G:=X.out;omega,fun e=>(qx lb e).elim H.2.2.1 fun e=>by have E:=Q.2.2.1;have G:=X.out;omega,fun i x e=>(qx i e).elim (H.2.2.2 i x).1 fun e=>by have E:=Q.2.2.2.1 i x;have G:=X.out;omega⟩;have xl:¬(D:Int)=0:=by omega
  have vh:((D:Int) == 0)=false:=by rw[beq_eq_false_iff_ne];exact xl
  have vi:decide ((D:Int)=0)=false:=decide_eq_false xl;clear xr zp xm qx qy xo zi xn HC;have x8:k=0\/k=1\/k=2\/k=3:=by omega
  rcases x8 with rfl|rfl|rfl|rfl
  ·have z:=lN wr
   have c1:wr.cell? ⟨zb,0,none⟩=some (.func (.func 80) #[] #[]):=(aC (i:=0) qp.out rfl)
   go_wp2_with ((with_reducible show WL _ _);refine ldM b8 0 uc (aD q1.out) cP (by rw[K];exact gB) ?_)
   clear c1;have qh:=O z.keep;refine((by rw[←qw.out];exact BF A.out qi.out zm.out M u o.out:Ka wr (iA wr c a m lb yv pid cp (.pointer g) t B1 D Z (fun _=>M1) V 0))).mono ?_;rintro e wd ⟨rfl,B2,L,qf,qg,qj,qk⟩;have q0:Hid (Fq wc c a m lb yv pid cp (.pointer g) t B D Z Mm (eC u.txg).toNat (aY u) nw 1 wd):=O ⟨B2,L,_,qf,⟨(by have E:V≤nw+D*0:=q9.1;have G:L≤V+0*D:=qg.1;show L≤nw+D*0;omega),fun h=>absurd h (by decide)⟩,⟨qz.1,fun h=>absurd h (by decide)⟩,fun i x=>(qj i x).elim (N i) (fun e=>.inr (by have E:=qd.size;have G:=qh.size;omega)),qd.tT (qh.trans' qk (fun _ _ h=>h.elim) (fun _ _ h=>h)) (fun i x e=>(N i e).elim id (fun e=>by omega))⟩;clear z A o qf qg qj qk;go_wp2
   go_roundw
   case rel=>exact⟨1,by omega,by go_num,q0⟩
   case measure=>simp[intOf]
  ·have z:=lN wr
   have c1:wr.cell? ⟨zb,1,none⟩=some (.func (.func 81) #[] #[]):=(aC (i:=1) qp.out rfl)
   go_wp2_with ((with_reducible show WL _ _);refine ldM b8 0 uc (aD q1.out) cP (by rw[K];exact gB) ?_)
   clear c1;have qh:=O z.keep;refine((by rw[←qw.out];exact I0 A.out qi.out zm.out M u o.out xe.out:Ka wr (iA wr c a m lb yv pid cp (.pointer g) t B1 D Z (wrM M1 (eC u.txg).toNat (aY u)) V 1))).mono ?_;rintro e wd ⟨rfl,B2,L,qf,qg,qj,qk⟩;have q0:Hid (Fq wc c a m lb yv pid cp (.pointer g) t B D Z Mm (eC u.txg).toNat (aY u) nw 2 wd):=O ⟨B2,L,_,qf,⟨(by have E:V≤nw+D*0:=q9.1;have G:L≤V+1*D:=qg.1;show L≤nw+D*1;omega),fun h=>absurd h (by decide)⟩,⟨fun d s hs=>(Dc M1 _ _ D d s hs).trans (qz.1 d s hs),fun _ d hd=>Fp M1 _ _ D d hd⟩,fun i x=>(qj i x).elim (N i) (fun e=>.inr (by have E:=qd.size;have G:=qh.size;omega)),qd.tT (qh.trans' qk (fun _ _ h=>h.elim) (fun _ _ h=>h)) (fun i x e=>(N i e).elim id (fun e=>by omega))⟩;clear z A o qf qg qj qk;go_wp2
   go_roundw
   case rel=>exact⟨2,by omega,by go_num,q0⟩
   case measure=>simp[intOf]
  ·have z:=lN wr
   have c1:wr.cell? ⟨zb,2,none⟩=some (.func (.func 80) #[] #[]):=(aC (i:=2) qp.out rfl)
   go_wp2_with ((with_reducible show WL _ _);refine ldM b8 0 uc (aD q1.out) cP (by rw[K];exact gB) ?_)
   clear c1;have qh:=O z.keep;refine((by rw[←qw.out];exact BF A.out qi.out zm.out M u o.out:Ka wr (iA wr c a m lb yv pid cp (.pointer g) t B1 D Z (fun _=>M1) V 0))).mono ?_;rintro e wd ⟨rfl,B2,L,qf,qg,qj,qk⟩;have q0:Hid (Fq wc c a m lb yv pid cp (.pointer g) t B D Z Mm (eC u.txg).toNat (aY u) nw 3 wd):=O ⟨B2,L,_,qf,⟨(by have E:V≤nw+D*1:=q9.1;have G:L≤V+0*D:=qg.1;show L≤nw+D*1;omega),fun _=>qf.arr.noLoose (qg.2 rfl)⟩,⟨qz.1,fun _=>qz.2 (by decide)⟩,fun i x=>(qj i x).elim (N i) (fun e=>.inr (by have E:=qd.size;have G:=qh.size;omega)),qd.tT (qh.trans' qk (fun _ _ h=>h.elim) (fun _ _ h=>h)) (fun i x e=>(N i e).elim id (fun e=>by omega))⟩;clear z A o qf qg qj qk;go_wp2
   go_roundw
   case rel=>exact⟨3,by omega,by go_num,q0⟩
   case measure=>simp[intOf]
  ·have z:=lN wr
   go_wp2_with ((with_reducible show WL _ _);first
    | refine ldM b8 0 uc (aD q1.out) cP (by rw[K];exact gB) ?_
    | refine sta 71 (.tmp 77) (.tmp 75) c 39 uc A.cor.top (by rw[List.size_toArray,gL J.out (gT A.cor.lst),K];decide) (by rw[K];exact gB) xg.out ?_)
   intro w9 j Y;have ze:Hid (dA wr 0 g b2 lc D Z Ls):=O (xz.led.keep qd.out fun i e h=>(I i h).1 e);rw[←qw.out,Ln a m pid J.out cp _ _ t M u (bZ A.cor.lst.ub.root.sum A.cor.lst.ub.pool) (by rw[qw.out,K])] at Y;have zt:∀i,M.ownBlock=some i->i≠c:=fun i x e=>by have E:=(qe i x).2.2.1;have G:=Q.1;omega
   have x6:Hid (∀i,M.ownBlock=some i->¬B1 i):=O (fun i x e=>(N i e).elim (qe i x).1 fun e=>by have E:=(qe i x).2.2.2;omega);have qr:∀i,(⟨M,u,t.ov,t.ol,t.vv,t.vl⟩:Lst).Own i->M.ownBlock=some i\/t.Own i:=fun i h=>h.imp id fun h=>.inr h
   have zj:∀i,M.ownBlock=some i->∃cs T,wr.heap[i]?=some (.cells cs T (0,0)):=fun i x=>by
    obtain⟨cs,T,h⟩:=C.out i x;exact⟨cs,T,qd.blk h (qe i x).1⟩
   have xb:Hid (kN w9 ⟨M,u,t.ov,t.ol,t.vv,t.vl⟩):=O ⟨o.keep j zt,A.cor.lst.old.keep j fun i x e=>(H.2.2.2 i (.inr (.inl x))).2.1 e,A.cor.lst.live.keep j fun i x e=>(H.2.2.2 i (.inr (.inr x))).2.1 e,A.cor.lst.oads,A.cor.lst.lads,fun i x=>by
    rcases qr i x with h|h
    ·obtain⟨cs,T,G⟩:=zj i h
     exact⟨cs,T,j.blk G (zt i h)⟩
    ·obtain⟨cs,T,G⟩:=A.cor.lst.isc i h
     exact⟨cs,T,j.blk G (H.2.2.2 i h).2.1⟩,by rw[←za.out];exact xh.out,A.cor.lst.few.2⟩
   have x1:Hid (∀i,(⟨M,u,t.ov,t.ol,t.vv,t.vl⟩:Lst).Own i->¬B1 i/\i≠c/\i≠m/\i≠lb):=O (fun i x=>by
    rcases qr i x with h|h
    ·have E:=(qe i h).2.2.1;have G:=Q.out
     exact⟨x6 i h,by omega,by omega,by omega⟩
    ·exact⟨qi.2.2.2 i h,(H.2.2.2 i h).2⟩)
   have z1:Hid (fI w9 c a m lb g b2 yv lc pid cp ⟨M,u,t.ov,t.ol,t.vv,t.vl⟩ B1 D Z M1 0 Ls):=O ⟨⟨⟨Y,J.out,xb.out⟩,(q9.2 (by trivial)▸A.arr:bE wr a B1 D Z M1 0).keep j fun i e h=>qi.1 (e▸h),j.blk A.mir zz.1,A.liv.keep j zz.2,A.cpb,A.lab⟩,ze.keep j fun i e h=>(I i h).2.1 e,fun i h=>⟨fun e=>(N i e).elim (I i h).1 fun e=>by have E:=Q.2.2.2.2 i h;have G:=X.out;omega,(I i h).2.1,(I i h).2.2.1,(I i h).2.2.2.1,fun e=>(qr i e).elim (fun e=>by have E:=(qe i e).2.2.1;have G:=Q.2.2.2.2 i h;omega) (I i h).2.2.2.2⟩,⟨qi.1,qi.2.1,qi.2.2.1,x1.out⟩,by
    have G:=xd.out;have h3:=HT.out;have h4:=hD;have h5:u.txg=t.u.txg+1:=by rw[←za.out]
    show 0+_≤40000+8*u.txg.toNat;omega⟩
   have z6:Hid (aA (fun k=>B k\/k=c) w w9):=O (z7.trans' (qd.trans' j (U:=fun k=>B k\/k=c) (fun _ _ h=>.inl h) fun _ _ h=>.inr h) (fun _ _ h=>h.elim) fun _ _ h=>h);have zh:Hid (w9.heap[b6]?=some (.cells #[.int .i64 0] 37 (0,0))):=O (j.blk xi.out fun e=>by have E:=HG.out;have G:=Q.out;omega);clear j Y zt qr zj A o ze xb z q1 qp xi
   go_wp2_with ((with_reducible show WL _ (.store 37 _ _));refine stV (.int .i64 0) zh.out ?_)
   intro wa j Y;have zy:=O Y
   have HP:Hid (Ab w c a m lb g b2 yv lc pid cp t B D Z Mm Ls p n (.returned (.int .i64 0)) wa):=O (by
    have vj:=HG.1;have hl:=Q.out;have vk:=X.out;refine⟨rfl,B1,M,M1,by have E:=qz.out;rw[←za.out] at E;exact⟨E.1,E.2 (by decide)⟩,?_,fun i x=>(N i x).imp id fun h=>by omega,fun i x=>(qe i x).2.2.1,z6.tT j fun i x e=>by omega⟩;rw[za.out];refine z1.keepT j ?_;rintro i rfl;have h6:=zx.out;refine⟨by omega,by omega,by omega,fun e=>(N _ e).elim (fun e=>by have E:=W.out _ e;omega) (fun e=>by omega),fun e=>by have E:=hl.2.2.2.2 _ e;omega,fun e=>?_⟩;rcases e with e|e
    ·exact(qe _ e).2.1 rfl
    ·have E:=hl.2.2.2.1 _ (.inr e)
     omega)
   clear j Y zh z1 z6;go_wp2_with fail;refine leaves_cons (f:=39) (args:=#[.pointer c,.pointer b6]) (by simp) (by simp[go_sem]) ?_;refine(lQ wa c b6 0 _ zy.out (by decide)).mono ?_;rintro e u' vd ⟨rfl,rfl,j⟩;have c7:vd.cell? ⟨b6,0,none⟩=some (.int .i64 0):=aC (i:=0) (j.blk zy.out id) rfl;refine⟨_,DW rfl _ _ _ ⟨b6,0,none⟩ (.int .i64 0) rfl (by go_simp),?_⟩;obtain⟨-,B3,rv,M3,g1,g2,g3,g4,g5⟩:=HP.out;exact⟨rfl,B3,rv,M3,g1,g2.keep0 j,g3,g4,g5.trans j.any⟩
def NF(w:World)(c:Nat)(S:Kor)(B:Nat->Prop)(e:Ending)(w':World):Prop:=
 e=.returned (.int .i64 0)/\∃h f,(∀d s,5≤s->h d s=S.M d s)/\KI w' c ⟨S.D,S.Z,S.cp,S.L,h,S.txg+1⟩ f/\(∀k,f k->B k\/w.heap.size≤k)/\Cl w w' B f/\aA B w w'
theorem KI.commit(J:KI w c S B)(A:S.txg+1<2147483648)(u:Value)(p:Pt)(L:PtV w u p)(o:p.addrs.length≤65536)(n:Int)(z:0≤n/\n≤16384)(M:p.hole=true\/(p.may=true/\p.level=3/\p.birth≤S.txg+1)):Calls prog 26 #[.pointer c,.agg (aL u p).toArray,.int .i64 n] w (NF w c S B):=by
 obtain⟨f,a,m,lb,g,b2,yv,lc,pid,Q,nw,t,l,y,rfl⟩:=J
 have K:Ub.may ⟨t.u.txg+1,p,n,pid⟩=true:=by
  have h0:=f.t0;unfold Ub.may;rw[l];simp only[Bool.and_eq_true,Bool.or_eq_true,decide_eq_true_eq,beq_iff_eq];refine⟨⟨⟨⟨by omega,by omega⟩,z.1⟩,z.2⟩,M.imp id fun h=>⟨⟨h.1,h.2.1⟩,h.2.2⟩⟩
 refine(Ac y (by rw[l];exact⟨f.t0,A⟩) u p L o n K).mono ?_;rintro e w' ⟨rfl,x,rv,C,F,j,G,H,I⟩;have N:(eC (t.u.txg+1)).toNat≤4:=by unfold eC;split<;>omega
 have r:∀i,rv.ownBlock=some i->w.heap.size≤i:=H;refine⟨rfl,C,fun k=>k=c\/k=m\/k=lb\/x k\/Own g b2 lc S.D k\/(⟨rv,⟨t.u.txg+1,p,n,pid⟩,t.ov,t.ol,t.vv,t.vl⟩:Lst).Own k,fun d s R=>F.1 d s (by omega),⟨⟨f.d2,f.d8,f.z8,f.z4,f.c1,f.c3,f.cD,by show 0≤S.txg+1;have:=f.t0;omega,A⟩,a,m,lb,g,b2,yv,lc,pid,x,0,_,by show t.u.txg+1=S.txg+1;rw[l],j,rfl⟩,?_,?_,I.mono fun k _ e=>?_⟩
 ·rintro k (e|e|e|e|e|e)
  ·exact .inl (.inl e)
  ·exact .inl (.inr (.inl e))
  ·exact .inl (.inr (.inr (.inl e)))
  ·exact(G k e).imp (fun h=>.inr (.inr (.inr (.inl h)))) id
  ·exact .inl (.inr (.inr (.inr (.inr (.inl e)))))
  ·rcases e with e|e
   ·exact .inr (r k e)
   ·exact .inl (.inr (.inr (.inr (.inr (.inr (.inr e))))))
 ·rintro k (rfl|rfl|rfl|e|e|e)
  ·exact .inl ⟨_,_,j.cor.cor.top⟩
  ·exact .inl ⟨_,_,j.cor.mir⟩
  ·exact .inl (by obtain⟨E,U,h,-⟩:=j.cor.liv;exact⟨E,U,h⟩)
  ·exact .inl (j.cor.arr.isC e)
  ·exact(y.led.isC j.led e).imp id fun h=>⟨.inr (.inr (.inr (.inr (.inl e)))),h⟩
  ·exact .inl (j.cor.cor.lst.isc k e)
 ·rcases e with e|rfl
  ·exact .inr (.inr (.inr (.inl e)))
  ·exact .inl rfl
theorem Pw(v d:Value)(u:Ub):spl (aV v u).toArray 1 [d]=(aV d u).toArray:=by
 have h:=qT [.int .i64 u.txg] [v] [d] (.int .i64 u.root.birth::.int .i64 u.root.level::(u.root.sum.map vb++(.int .i64 u.len::u.pool.map vb))) rfl
 simpa [aV,aL] using h
theorem Fr{P:Program}{f:TypeId}(h:fn.results=#[.cell p f])(tmps:Array Value)(w:World)(g:Nat)(t:TypeId)(e:Array Value)(i:Nat×Nat)(d:TypeDesc)
 (j:tmps.getD p undef=.pointer g) (l:w.heap[g]?=some (.cells e t i)) (o:P.underlying f=some d) (k:(match d with|.struct _|.array _ _=>true|_=>false)=true) (n:(P.info? f).map (·.size)=some e.size):(results fn tmps).run P w=.ok (.agg e) w:=by
 simp only[Array.getD_eq_getD_getElem?] at j;simp[results,h,j,asAddr,run_loadVar_row w g t f e i d l o k n]
def Px(w:World)(S:Kor)(e:Ending)(w':World):Prop:=∃v u,e=.returned (.agg (aV v u).toArray)/\u.txg=S.txg/\aA aB w w'
def zE(w:World)(u:Ub)(e:Ending)(w':World):Prop:=∃v,e=.returned (.agg (aV v u).toArray)/\UbV w' v u/\w'.ownsRow w.heap.size 93 2 v u.root.addrs.length (aJ u.root.addrs)/\aA aB w w'
theorem yC(x:aT w c a m pid cp lv gv t):Calls prog 30 #[.pointer c] w (zE w t.u):=by
 have o:=O x;have R:=O (show t.u.root.addrs.length≤65536 from x.lst.few.1);have r:=bZ (v:=t.rv) x.lst.ub.root.sum x.lst.ub.pool;have E:=jW x.lst.ub;obtain⟨Y,k⟩:=zX9 (aV t.rv t.u)
 have G:=O k;have U:Hid (∀y∈Y,y.oneCell'=true):=O (by rw[←k];exact E);rw[k] at r;have n:Hid (t.u.root.sum.length=32/\t.u.pool.length=32):=O ⟨x.lst.ub.root.sum,x.lst.ub.pool⟩;have C:=O x.lst.ub.root.ads;have f:=lN w;clear x E k;go_in
 go_wp2_with refine alM f I3 ?_
 intro b2 w1 d f;replace o:=O (o.keep0 d);clear d;go_wp2_with fail;refine(xS o.out).mono ?_;rintro e w2 ⟨rfl,d⟩;replace f:=kL f d;replace o:=O (o.keep0 d);clear d
 go_wp2_with (first
  | refine ldM c 39 Y (by rw[←G.out];exact o.ub_) cP (by rw[r];exact gB) ?_
  | refine alA I3 ?_)
 intro X w3 J K F
 go_wp2_with ((with_reducible show WL _ _);refine stW F r vL (by rw[r];exact gB) U.out ?_)
 intro w4 d z;replace d:=tX K d (fun i H e=>by omega);replace f:=lW f J d z;replace o:=O (o.keep0 d);clear J d z K F;have c1:w4.cell? ⟨X,1,none⟩=some (t.rv):=(aC (i:=1) (f.b 0) (by rw[←G.out];rfl))
 go_wp2_with fail;clear c1;refine((jU w4 t.rv t.u.root.addrs o.lst.ub.root.rd R.out)).mono ?_;rintro e w5 ⟨v1,rfl,L,d⟩;obtain⟨M,N,rfl,-,-⟩:=(Rd.of_owns L).form;have I:Hid (∀y∈aV (.slice M t.u.root.addrs.length N) t.u,y.oneCell'=true):=O (jW ⟨⟨Rd.of_owns L,C.out,n.1⟩,n.2⟩);have j:=O (aQ L f.keep.size);have u:=O (And.intro (fun i (H:(Value.slice M t.u.root.addrs.length N).ownBlock=some i)=>bG L H) (And.intro (f.lt 0).2 (f.lt 1).2));clear L;replace f:=kL f d;replace o:=O (o.keep0 d);clear d
 go_wp2_with ((with_reducible show WL _ _);refine sta 29 (.tmp 16) (.tmp 14) X 1 [.slice M t.u.root.addrs.length N] (f.b 0) (by rw[List.size_toArray,r];simp) (by kernel_rfl) (one9) ?_)
 intro wx d z;rw[←G.out,Pw] at z;replace f:=O (f.set 0 d z);replace j:=O (d.owns j.out fun i H e=>by have h2:=u.1 i H;have h3:=u.2;omega);obtain⟨W,h⟩:=zX9 (aV (.slice M t.u.root.addrs.length N) t.u)
 have V:=O h;have A:W.length=69:=by rw[←h];exact bZ n.1 n.2
 have T:Hid (∀y∈W,y.oneCell'=true):=O (by rw[←h];exact I.out);rw[h] at f;clear d z h o
 go_wp2_with (first
  | refine ldR (f.b 0) cP (by rw[A];exact gB) ?_
  | refine stW (f.b 1) A vL (by rw[A];exact gB) T.out ?_)
 intro wv d z;replace f:=O (f.set 1 d z);replace j:=O (d.owns j.out fun i H e=>by have h2:=u.1 i H;have h3:=u.2;omega);clear d z;have Q:=O (f.b 1);have HP:Hid (zE w t.u (.returned (.agg W.toArray)) wv):=O ⟨_,by rw[←V.out],⟨⟨Rd.of_owns j.out,C.out,n.1⟩,n.2⟩,j.out,f.keep⟩;clear f j;go_wp2_with fail;refine bodyPost_ret (Fr rfl _ _ b2 _ _ _ _ rfl Q.out cP rfl (by rw[List.size_toArray,A];exact gB)) rfl ?_;exact HP.out
theorem KI.uber(i:KI w c S B):Calls prog 30 #[.pointer c] w (Px w S):=by
 obtain⟨n,a,m,lb,g,b2,yv,lc,pid,j,nw,t,d,f,rfl⟩:=i;refine(yC f.cor.cor).mono ?_;rintro e w' ⟨v,rfl,k,l,h⟩;exact⟨v,_,rfl,d,h⟩
def Ae(w:World)(D Z:Nat)(l:List Ad)(e:Ending)(w':World):Prop:=∃g b2 lc,e=.returned (.tuple #[.pointer (some ⟨g,0,none⟩),.int .i64 0])/\dA w' w.heap.size g b2 lc D Z l/\aA aB w w'
theorem Py(o:2≤D/\D≤8/\8≤Z/\Z≤4096)(v:Value)(l:List Ad)(i:∀x∈l,bW x D Z)(j:Rd w 2 v l.length (aJ l)):Calls prog 105 #[.int .i64 (D:Int),.int .i64 (Z:Int),v] w (Ae w D Z l):=by
 refine(BB w (D:Int) (Z:Int) v l j).mono fun e w' h=>?_
 have f:rM (D:Int) (Z:Int) l=true:=by
  unfold rM;simp only[Bool.and_eq_true,decide_eq_true_eq,List.all_eq_true];refine⟨⟨⟨⟨by omega,by omega⟩,by omega⟩,by omega⟩,fun x k=>?_⟩;have d:=i x k;unfold bW at d;unfold fL;simp only[Bool.and_eq_true,decide_eq_true_eq];have n:x.dev=x.1:=rfl;omega
 unfold oF at h;rw[if_pos f] at h;exact h
def BG(w:World)(c a m:Nat)(pid:List UInt8)(cp:Nat)(lv:Value)(t:Lst)(D Z:Nat)(e:Ending)(w':World):Prop:=
 e=.returned (.tuple #[])/\∃g b2 lc,aT w' c a m pid cp lv (.pointer (some ⟨g,0,none⟩)) t/\dA w' 0 g b2 lc D Z (cX (t.ol++t.vl))/\(∀k,Own g b2 lc D k->w.heap.size≤k)/\aA (fun k=>k=c) w w'
def iN(w:World)(c a m:Nat)(pid:List UInt8)(cp:Nat)(lv:Value)(t:Lst):Prop:=∃gv,aT w c a m pid cp lv gv t
theorem iN.keep0(h:iN w c a m pid cp lv t)(k:aA aB w w'):iN w' c a m pid cp lv t:=h.imp fun _ h=>h.keep0 k
theorem iN.c0(h:iN w c a m pid cp lv t):w.cell? ⟨c,0,none⟩=some (.pointer a):=h.elim fun _ h=>h.c0
theorem iN.old_(h:iN w c a m pid cp lv t):w.cell? ⟨c,37,none⟩=some t.ov:=h.elim fun _ h=>h.old_
theorem iN.live_(h:iN w c a m pid cp lv t):w.cell? ⟨c,38,none⟩=some t.vv:=h.elim fun _ h=>h.live_
theorem vM(h:aT w c a m pid cp lv gv t)(qc:∀i,t.Own i->i≠c)(ha:bE w a B D Z Mm nw)(qf:¬B c)(qh:∀x∈t.ol++t.vl,bW x D Z)(L:t.ol.length+t.vl.length≤65536):Calls prog 44 #[.pointer c] w (BG w c a m pid cp lv t D Z):=by
 have qe:=ha.bd;have ql:=O qe;have C:=O h.idl;have qp:=O qh;have W:=O qc;have K:=O h.lst;have qq:=O (gT h.lst);obtain⟨oa,oc,N,-,-⟩:=h.lst.old.form;obtain⟨va,vc,R,-,-⟩:=h.lst.live.form;obtain⟨on,qg⟩:=zX9 t.ol.length
 obtain⟨vn,qj⟩:=zX9 t.vl.length
 have V:Hid (t.ol.length+t.vl.length≤65536):=O L;rw[qg] at N;rw[qj] at R;have X:=O N;have Y:=O R;clear N R qg qj qh qc L;have T:=O (lt_of_block h.top);have o:=O h;have z:=O ha;have A:=lN w;have qw:Hid (∀i,i=c->¬B i):=O fun i e=>e▸qf
 clear h ha qe qf;go_in;go_wp2_with fail;obtain⟨S,G⟩:∃S:World->Prop,S=fun w'=>aA (fun k=>k=c) w.drew w'/\iN w' c a m pid cp lv t:=⟨_,rfl⟩
 have f:=O (show ∀w',S w'->aA (fun k=>k=c) w.drew w'/\iN w' c a m pid cp lv t from fun w' h=>by rw[G] at h;exact h);have u:=O (show ∀w',aA (fun k=>k=c) w.drew w'/\iN w' c a m pid cp lv t->S w' from fun w' h=>by rw[G];exact h);have j:S w.drew:=by rw[G];exact⟨aA.refl _ _,_,o.keep0 (aA.refl aB w).drew⟩
 have E:=(aA.refl aB w).drew;clear G;refine wp_region_held (S:=S) (by kernel_rfl) ?_;change wpAnyH _ _ _ _ _ _ _ _ w.drew;generalize w.drew=w1 at f u j E ⊢;replace A:=kL A E;replace o:=O (o.keep0 E);replace z:=O (z.keep0 E);clear E;have qo:=A;have qm:=o;have qk:=z;refine tna 0 (.pointer c) rfl j ?_;refine tna 1 (.pointer c) rfl j ?_;refine tnb 2 (.pointer c) rfl j ?_;refine tnb 3 (.pointer c) rfl j ?_;refine tnd 4 (.pointer a) rfl (.inl ⟨by rfl,fun w' y=>by have c:World.cell? w' ⟨c,0,none⟩=some (.pointer a):=iN.c0 (f w' y).2;go_simp⟩) j ?_;refine tna 6 (.pointer c) rfl j ?_;refine tnb 7 (.pointer c) rfl j ?_;refine tnb 8 (.pointer c) rfl j ?_;refine tnd 9 (.pointer a) rfl (.inl ⟨by rfl,fun w' y=>by have c:World.cell? w' ⟨c,0,none⟩=some (.pointer a):=iN.c0 (f w' y).2;go_simp⟩) j ?_;refine tna 11 (.pointer c) rfl j ?_;refine tnb 12 (.pointer c) rfl j ?_;refine tnb 13 (.pointer (some ⟨c,37,none⟩)) rfl j ?_;refine tnd 14 (.slice oa on oc) rfl (.inl ⟨by rfl,fun w' y=>by have c:World.cell? w' ⟨c,37,none⟩=some (.slice oa on oc):=(by rw[←X.out];exact iN.old_ (f w' y).2);go_simp⟩) j ?_;refine tna 15 (.pointer c) rfl j ?_;refine tnb 16 (.pointer c) rfl j ?_;refine tnb 17 (.pointer (some ⟨c,38,none⟩)) rfl j ?_;refine tnd 18 (.slice va vn vc) rfl (.inl ⟨by rfl,fun w' y=>by have c:World.cell? w' ⟨c,38,none⟩=some (.slice va vn vc):=(by rw[←Y.out];exact iN.live_ (f w' y).2);go_simp⟩) j ?_;refine wA9 5 ?_;go_wp2_with fail;refine(iW z.out).mono ?_;rintro e w2 ⟨rfl,d⟩;have H:=u.out _ ⟨(f _ j).1.trans d.any,(f _ j).2.keep0 d⟩;replace A:=kL A d;replace o:=O (o.keep0 d);replace z:=O (z.keep0 d);clear j d;go_wp2_with fail;refine⟨H,?_⟩;refine wA9 10 ?_;go_wp2_with fail;refine(tU z.out).mono ?_;rintro e w3 ⟨rfl,d⟩;have I:=u.out _ ⟨(f _ H).1.trans d.any,(f _ H).2.keep0 d⟩;replace A:=kL A d;replace o:=O (o.keep0 d);replace z:=O (z.keep0 d);clear H d;go_wp2_with fail;refine⟨I,?_⟩;refine wA9 19 ?_;go_wp2_with fail;refine(C9 w3 (.slice oa on oc) (.slice va vn vc) t.ol t.vl K.oads K.lads (by rw[←X.out];exact o.lst.old) (by rw[←Y.out];exact o.lst.live) (by have h1:=V.out;omega)).mono ?_;rintro e w4 ⟨v1,rfl,ho,d⟩;obtain⟨U,hU⟩:=zX9 (cX (t.ol++t.vl))
 have qu:Hid (∀x∈U,bW x D Z):=O (by rw[←hU];exact fun x hx=>qp.out x (mH.1 hx));rw[hU] at ho;obtain⟨un,Q⟩:=zX9 U.length
 have qt:=O Q;rw[Q] at ho;obtain⟨ua,uc,qi,-,-⟩:=(Rd.of_owns ho).form;have qv:v1=.slice ua un uc:=qi;have qr:=O hU;clear qi hU Q;subst qv;have HO:=O ho;clear ho;have J:=u.out _ ⟨(f _ I).1.trans d.any,(f _ I).2.keep0 d⟩;replace A:=kL A d;replace o:=O (o.keep0 d);replace z:=O (z.keep0 d);clear I d;go_wp2_with fail;refine⟨J,?_⟩;refine wA9 20 ?_;go_wp2_with fail;have qa:=O A.keep.size;refine((Py ql.out _ U qu.out (by rw[qt.out];exact Rd.of_owns HO.out):Ka w4 (Ae w4 D Z U))).mono ?_;rintro e w5 ⟨g,b2,lc,rfl,M,d⟩;have F:=O M;have qx:=O (lt_of_block o.top);clear M;have r:=u.out _ ⟨(f _ J).1.trans d.any,(f _ J).2.keep0 d⟩;replace A:=kL A d;replace o:=O (o.keep0 d);replace z:=O (z.keep0 d);replace HO:=O (d.owns HO.out fun _ _=>id);clear J d;go_wp2_with fail;refine⟨r,?_⟩;refine tna 21 (.tuple #[.pointer g,.int .i64 0]) rfl r ?_;refine tnb 22 (.pointer g) rfl r ?_;refine tnb 23 (.int .i64 0) rfl r ?_;refine tnb 24 (.pointer c) rfl r ?_;refine tnb 25 (.pointer (some ⟨c,36,none⟩)) rfl r ?_;refine wA9 26 ?_;refine sta 69 (.tmp 27) (.tmp 24) c 36 [.pointer g] o.top (by rw[List.size_toArray,gL C.out qq.out];simp) (by kernel_rfl) (one9) ?_;intro w6 d hb;rw[Lg _ _ _ C.out] at hb;have qd:S w6:=u.out _ ⟨(f _ r).1.trans d,_,hb,C.out,o.lst.keep d fun i e h=>W.out i h e⟩;have qn:Hid (∀i,i=c->¬Own g b2 lc D i):=O (by rintro i rfl e;have:=(F.own_lt e).1;have:=T.out;have:=qa.out;omega);have HP:Hid (BG w c a m pid cp lv t D Z (.returned (.tuple #[])) w6):=O ⟨rfl,g,b2,lc,⟨hb,C.out,o.lst.keep d fun i e h=>W.out i h e⟩,by rw[qr.out];exact(F.keep d qn.out).low (Nat.zero_le _),fun k e=>by have:=(F.own_lt e).1;have:=qa.out;omega,A.keep.any.trans d⟩;clear r d hb;refine wpList_nil ?_;refine⟨qd,?_⟩;refine wpAnyH_done (by kernel_rfl) ?_ _;clear qd f u qo qm qk;clear o z A HO F;go_wp2_with fail
 go_end0
 exact HP.out
theorem Lo(a m:Nat)(pid:List UInt8)(e:pid.length=32)(cp:Nat)(lv gv:Value)(t:Lst)(x:Value)(l:List Ad):spl (dZ a m pid cp lv gv t).toArray 37 [x]=(dZ a m pid cp lv gv ⟨t.rv,t.u,x,l,t.vv,t.vl⟩).toArray:=by
 have h:=qT (.pointer a::.pointer m::(pid.map vb++[.int .i64 (cp:Int),lv,gv])) [t.ov] [x] (t.vv::eF t) rfl;have d:(.pointer a::.pointer m::(pid.map vb++[.int .i64 (cp:Int),lv,gv])).length=37:=by simp[e]
 rw[d] at h;unfold dZ
 simpa [List.append_assoc,eF] using h
theorem Lp(a m:Nat)(pid:List UInt8)(e:pid.length=32)(cp:Nat)(lv gv:Value)(t:Lst)(x:Value)(l:List Ad):spl (dZ a m pid cp lv gv t).toArray 38 [x]=(dZ a m pid cp lv gv ⟨t.rv,t.u,t.ov,t.ol,x,l⟩).toArray:=by
 have h:=qT (.pointer a::.pointer m::(pid.map vb++[.int .i64 (cp:Int),lv,gv,t.ov])) [t.vv] [x] (eF t) rfl;have d:(.pointer a::.pointer m::(pid.map vb++[.int .i64 (cp:Int),lv,gv,t.ov])).length=38:=by simp[e]
 rw[d] at h;unfold dZ
 simpa [List.append_assoc,eF] using h
theorem Lq(h:eJ w c a m lb yv pid cp gv t B D Z Mm nw){k:Nat}(l:w.heap[k]?=some (.cells #[.pointer c] 26 (0,0)))(x:Ad)(n:bW x D Z):Calls prog 85 #[.agg (aO x).toArray,.pointer k] w (aN w (.bool false)):=by
 have d:=O (cell_of_one l);have o:=O n;have j:=O h;have i:=lN w;clear h n l;go_in
 go_wp2_with refine bxM i ((aO x).toArray) ?_
 intro b2 r f i;replace j:=O (j.keep0 f);replace d:=O (f.cell d.out id);clear f;have c1:r.cell? ⟨k,0,none⟩=some (.pointer c):=d.out
 go_wp2_with ((with_reducible show WL _ _);refine ldR (i.b 0) bY (by rw[bD];exact iV) ?_)
 clear c1;refine(Bx j.out x o.out).mono ?_;rintro e u ⟨rfl,f⟩;replace i:=kL i f;replace j:=O (j.keep0 f);replace d:=O (f.cell d.out id);clear f;go_wp2;go_ret;exact aN.of i.keep
def Lr(w:World)(c m lb:Nat)(t:Lst)(B:Nat->Prop):Prop:=(¬B c/\¬B m/\¬B lb)/\(m≠c/\lb≠c)/\∀i,t.Own i->¬B i/\i≠c/\i≠m/\i≠lb
def yD(w:World)(c a m lb:Nat)(yv:Value)(pid:List UInt8)(cp:Nat)(t:Lst)(B:Nat->Prop)(D Z:Nat)(Mm:Nat->Nat->List UInt8)(nw:Nat)(l:List Ad)(e:Ending)(w':World):Prop:=
 e=.returned (.int .i64 0)/\∃g b2 lc d,fI w' c a m lb g b2 yv lc pid cp ⟨t.rv,t.u,t.vv,t.vl,d,l⟩ B D Z Mm nw (cX (t.vl++l))/\AQ w d/\(∀k,Own g b2 lc D k->w.heap.size≤k)/\aA (fun i=>i=c) w w'
theorem Dd(h:eJ w c a m lb yv pid cp gv t B D Z Mm nw)(hT:Lr w c m lb t B)(v:Value)(l:List Ad)(hr:Rd w 2 v l.length (aJ l))(q0:jF l)(q3:∀x∈t.vl++l,bW x D Z)(qr:t.vl.length≤32768/\l.length≤32768)(q1:nw≤7000)(q4:0≤t.u.txg):Calls prog 29 #[.pointer c,v] w (yD w c a m lb yv pid cp t B D Z Mm nw l):=by
 have q7:=h.arr.bd;have r:=O h;have A:=O hr;have qx:=O q0;have qt:=O q3;have W:=O qr;have qy:=O q1;have f:=O hT;have qz:=O q4;have u:=O h.cor.idl;have qo:=O q7;have X:=O (And.intro (lt_of_block h.cor.top) (And.intro (lt_of_block h.mir) (And.intro h.liv.lt (And.intro (fun i (e:B i)=>h.arr.lt e) (fun i (e:t.Own i)=>h.cor.lst.lt e)))));obtain⟨va,vc,rfl,-,-⟩:=hr.form;obtain⟨ta,tc,qw,-,-⟩:=h.cor.lst.live.form;obtain⟨ln,qu⟩:=zX9 l.length
 obtain⟨tn,q5⟩:=zX9 t.vl.length
 rw[q5] at qw;rw[qu] at A ⊢;have G:=O qu;have qp:=O qw;have F:=lN w;clear h hr q0 q3 qr q1 hT q4 qw qu q5;go_in
 go_wp2_with refine bxM F (#[.pointer c]) ?_
 intro b2 w1 z F;replace r:=O (r.keep0 z);replace A:=O (A.keep z fun _ _=>id);clear z;have c1:=cD F 0
 go_wp2_with fail;clear c1;refine(kO r.cor r.arr).mono ?_;rintro e w2 ⟨rfl,z⟩;replace F:=kL F z;replace r:=O (r.keep0 z);replace A:=O (A.keep z fun _ _=>id);clear z;go_wp2_with fail;refine((by have U:=A.out;rw[←G.out] at U ⊢;exact vK w2 _ l U (by have C:=W.out;omega) 85 b2 (fun args w=>by rfl) fun y hy w2 k2=>Lq (r.keep0 k2) (k2.blk (F.b 0) id) y (qt y (List.mem_append_right _ hy)):Calls prog 84 #[.slice va ln vc,.func (.func 85) #[] #[.pointer b2]] w2 (aN w2 (.int .i64 (-1))))).mono ?_;rintro e w3 ⟨rfl,z⟩;replace F:=kL F z;replace r:=O (r.keep0 z);replace A:=O (A.keep z fun _ _=>id);clear z;go_wp2_with fail;refine dwA (fun k=>k=c) (by kernel_rfl) ?_;intro w4 S H Q hS qq;replace F:=kL F qq;replace r:=O (r.keep0 qq);replace A:=O (A.keep qq fun _ _=>id);clear qq;have qi:=F;have M:Hid (¬b2=c):=O (by have C:=(F.lt 0).1;have h2:=X.1;omega);refine tnd 0 (.pointer c) rfl (.inl ⟨by rfl,fun w' qn=>by have c:World.cell? w' ⟨b2,0,none⟩=some (.pointer c):=aC (i:=0) ((H w' qn).blk (qi.b 0) M.out) rfl;go_simp⟩) hS ?_;refine tnd 1 (.pointer c) rfl (.inl ⟨by rfl,fun w' qn=>by have c:World.cell? w' ⟨b2,0,none⟩=some (.pointer c):=aC (i:=0) ((H w' qn).blk (qi.b 0) M.out) rfl;go_simp⟩) hS ?_;refine tnd 2 (.pointer c) rfl (.inl ⟨by rfl,fun w' qn=>by have c:World.cell? w' ⟨b2,0,none⟩=some (.pointer c):=aC (i:=0) ((H w' qn).blk (qi.b 0) M.out) rfl;go_simp⟩) hS ?_;refine tnb 3 (.pointer c) rfl hS ?_;refine tnb 4 (.pointer (some ⟨c,38,none⟩)) rfl hS ?_;refine tna 6 (.slice va ln vc) rfl hS ?_;refine kT (k:=5) (l:=7) rfl rfl (by kernel_rfl) ?_ ?_
 ·have c1:World.cell? w4 ⟨c,38,none⟩=some (.slice ta tn tc):=by rw[←qp.out];exact aT.live_ r.cor
  go_wp2_with fail;clear c1;refine⟨hS,?_⟩;refine wA9 7 ?_;go_wp2_with fail;refine((by have U:=A.out;rw[←G.out] at U ⊢;exact jU w4 _ l U (by have C:=W.out;omega):Ka w4 (qJ w4 l))).mono ?_;rintro e wv ⟨v2,rfl,ho,z⟩;obtain⟨na,nc,rfl,-,-⟩:=(Rd.of_owns ho).form;rw[G.out] at ho ⊢;have qa:=O ho;have Y:=O (fun i (d:(Value.slice na ln nc).ownBlock=some i)=>show w.heap.size≤i from Nat.le_trans F.keep.size (bG ho d));have E:=Q.out _ ((H _ hS).trans z.any);replace F:=kL F z;replace r:=O (r.keep0 z);clear hS z ho A;go_wp2_with fail;refine⟨E,?_⟩;refine tnb 8 (.pointer c) rfl E ?_;refine tnb 9 (.pointer (some ⟨c,37,none⟩)) rfl E ?_;refine wA9 10 ?_;refine sta 29 (.tmp 26) (.tmp 22) c 37 [.slice ta tn tc] r.cor.top (by rw[List.size_toArray,gL u.out (gT r.cor.lst)];simp) (by kernel_rfl) (one9) ?_;intro wx qe qc;rw[Lo _ _ _ u.out _ _ _ _ _ t.vl] at qc;have I:=Q.out _ ((H _ E).trans qe);refine wpList_nil ?_;refine⟨I,?_⟩;refine tnb 11 (.pointer c) rfl I ?_;refine tnb 12 (.pointer (some ⟨c,38,none⟩)) rfl I ?_;refine wA9 13 ?_;refine sta 29 (.tmp 28) (.tmp 24) c 38 [.slice na ln nc] qc (by rw[List.size_toArray,gL (t:=⟨t.rv,t.u,.slice ta tn tc,t.vl,t.vv,t.vl⟩) u.out (show _ from(gT r.cor.lst:(eF t).length=70))];simp) (by kernel_rfl) (one9) ?_;intro wy qf qd;rw[Lp _ _ _ u.out _ _ _ _ _ l] at qd;have ql:=Q.out _ ((H _ I).trans qf);have j:Hid (aA (fun i=>i=c) wv wy):=O (qe.trans qf);have qg:=O qd;refine wpList_nil ?_;refine⟨ql,?_⟩;refine wpAnyH_done (by kernel_rfl) ?_ _;clear E I ql qe qf qc qd H Q qi;have qj:=O (fun i (d:(Value.slice na ln nc).ownBlock=some i)=>show i≠c from fun e=>by have C:=Y.out i d;have h2:=X.1;omega)
  have qh:Hid (kN wy ⟨t.rv,t.u,t.vv,t.vl,.slice na ln nc,l⟩):=O (by
   have L:=r.cor.lst;have hc:=f.2.2;refine⟨L.ub.keep j.out fun i d=>(hc i (.inl d)).2.1,L.live.keep j.out fun i d=>(hc i (.inr (.inr d))).2.1,?_,L.lads,qx.out,fun i d=>?_,L.few.1,L.few.2.2,by have C:=W.out;show l.length≤65536;omega⟩
   ·rw[G.out];exact(Rd.of_owns qa.out).keep j.out qj.out
   ·rcases d with d|d|d
    ·obtain⟨cs,T,C⟩:=L.isc i (.inl d)
     exact⟨cs,T,j.blk C (hc i (.inl d)).2.1⟩
    ·obtain⟨cs,T,C⟩:=L.isc i (.inr (.inr d))
     exact⟨cs,T,j.blk C (hc i (.inr (.inr d))).2.1⟩
    ·obtain⟨cur,C⟩:=aH qa.out d
     exact⟨cur,_,j.blk C (qj i d)⟩)
  have qk:Hid (∀i,(⟨t.rv,t.u,t.vv,t.vl,.slice na ln nc,l⟩:Lst).Own i->¬B i/\i≠c/\i≠m/\i≠lb):=O (fun i d=>by
   rcases d with d|d|d
   ·exact f.2.2 i (.inl d)
   ·exact f.2.2 i (.inr (.inr d))
   ·have C:=Y.out i d;have h2:=X.out
    exact⟨fun e=>by have h3:=h2.2.2.2.1 i e;omega,by omega,by omega,by omega⟩)
  have o:Hid (eJ wy c a m lb yv pid cp gv ⟨t.rv,t.u,t.vv,t.vl,.slice na ln nc,l⟩ B D Z Mm nw):=O (by
   refine⟨⟨by rw[qp.out];exact qg.out,u.out,qh.out⟩,r.arr.keep j.out fun i e=>e▸f.1.1,j.blk r.mir f.2.1.1,r.liv.keep j.out f.2.1.2,r.cpb,r.lab⟩)
  have N:Hid (wy.heap[b2]?=some (.cells #[.pointer c] 26 (0,0))):=O (j.blk (F.b 0) M.out);have V:Hid (aA (fun i=>i=c) w wy):=O (F.keep.any.trans j.out);clear r F j qg qa qh;have c1:wy.cell? ⟨b2,0,none⟩=some (.pointer c):=cell_of_one N.out;go_wp2_with fail;clear c1;refine(vM o.cor (fun i d=>(qk i d).2.1) o.arr f.1.1 qt.out (by have C:=W.out;show t.vl.length+l.length≤65536;omega)).mono ?_;rintro e wz ⟨rfl,g,b3,lc,qm,R,K,J⟩
  have HP:Hid (yD w c a m lb yv pid cp t B D Z Mm nw l (.returned (.int .i64 0)) wz):=O (by
   have qv:=V.size;have L:=X.out;refine⟨rfl,g,b3,lc,_,⟨⟨qm,o.arr.keep J fun i e=>e▸f.1.1,J.blk o.mir f.2.1.1,o.liv.keep J f.2.1.2,o.cpb,o.lab⟩,R,fun k z=>?_,⟨f.1.1,f.1.2.1,f.1.2.2,qk.out⟩,?_⟩,Y.out,fun k z=>Nat.le_trans qv (K k z),V.trans J⟩
   ·have C:=K k z
    refine⟨fun e=>by have h3:=L.2.2.2.1 k e;omega,by omega,by omega,by omega,fun e=>?_⟩;have h3:=o.cor.lst.lt e;omega
   ·have C:=oZ (cX (t.vl++l)) D Z
    have h2:D*Z≤8*4096:=Nat.mul_le_mul qo.2.1 qo.2.2.2;have h3:=qy.out;have h4:=qz.out;show nw+jD (bN (cX (t.vl++l)) D Z)≤40000+8*t.u.txg.toNat;omega)
  clear qm R K J o V N;go_wp2;go_ret;exact HP.out
 ·go_wp2_with fail
  refine((by have U:=A.out;rw[←G.out] at U ⊢;exact jU w4 _ l U (by have C:=W.out;omega):Ka w4 (qJ w4 l))).mono ?_;rintro e wv ⟨v2,rfl,ho,z⟩;obtain⟨na,nc,rfl,-,-⟩:=(Rd.of_owns ho).form;rw[G.out] at ho ⊢;have qa:=O ho;have Y:=O (fun i (d:(Value.slice na ln nc).ownBlock=some i)=>show w.heap.size≤i from Nat.le_trans F.keep.size (bG ho d));have E:=Q.out _ ((H _ hS).trans z.any);replace F:=kL F z;replace r:=O (r.keep0 z);clear hS z ho A;go_wp2_with fail;refine⟨E,?_⟩;refine wA9 5 ?_;have c1:World.cell? wv ⟨c,38,none⟩=some (.slice ta tn tc):=by rw[←qp.out];exact aT.live_ r.cor
  go_wp2_with fail;clear c1;refine⟨E,?_⟩;refine tnb 8 (.pointer c) rfl E ?_;refine tnb 9 (.pointer (some ⟨c,37,none⟩)) rfl E ?_;refine wA9 10 ?_;refine sta 29 (.tmp 26) (.tmp 22) c 37 [.slice ta tn tc] r.cor.top (by rw[List.size_toArray,gL u.out (gT r.cor.lst)];simp) (by kernel_rfl) (one9) ?_;intro wx qe qc;rw[Lo _ _ _ u.out _ _ _ _ _ t.vl] at qc;have I:=Q.out _ ((H _ E).trans qe);refine wpList_nil ?_;refine⟨I,?_⟩;refine tnb 11 (.pointer c) rfl I ?_;refine tnb 12 (.pointer (some ⟨c,38,none⟩)) rfl I ?_;refine wA9 13 ?_;refine sta 29 (.tmp 28) (.tmp 24) c 38 [.slice na ln nc] qc (by rw[List.size_toArray,gL (t:=⟨t.rv,t.u,.slice ta tn tc,t.vl,t.vv,t.vl⟩) u.out (show _ from(gT r.cor.lst:(eF t).length=70))];simp) (by kernel_rfl) (one9) ?_;intro wy qf qd;rw[Lp _ _ _ u.out _ _ _ _ _ l] at qd;have ql:=Q.out _ ((H _ I).trans qf);have j:Hid (aA (fun i=>i=c) wv wy):=O (qe.trans qf);have qg:=O qd;refine wpList_nil ?_;refine⟨ql,?_⟩;refine wpAnyH_done (by kernel_rfl) ?_ _;clear E I ql qe qf qc qd H Q qi;have qj:=O (fun i (d:(Value.slice na ln nc).ownBlock=some i)=>show i≠c from fun e=>by have C:=Y.out i d;have h2:=X.1;omega)
  have qh:Hid (kN wy ⟨t.rv,t.u,t.vv,t.vl,.slice na ln nc,l⟩):=O (by
   have L:=r.cor.lst;have hc:=f.2.2;refine⟨L.ub.keep j.out fun i d=>(hc i (.inl d)).2.1,L.live.keep j.out fun i d=>(hc i (.inr (.inr d))).2.1,?_,L.lads,qx.out,fun i d=>?_,L.few.1,L.few.2.2,by have C:=W.out;show l.length≤65536;omega⟩
   ·rw[G.out];exact(Rd.of_owns qa.out).keep j.out qj.out
   ·rcases d with d|d|d
    ·obtain⟨cs,T,C⟩:=L.isc i (.inl d)
     exact⟨cs,T,j.blk C (hc i (.inl d)).2.1⟩
    ·obtain⟨cs,T,C⟩:=L.isc i (.inr (.inr d))
     exact⟨cs,T,j.blk C (hc i (.inr (.inr d))).2.1⟩
    ·obtain⟨cur,C⟩:=aH qa.out d
     exact⟨cur,_,j.blk C (qj i d)⟩)
  have qk:Hid (∀i,(⟨t.rv,t.u,t.vv,t.vl,.slice na ln nc,l⟩:Lst).Own i->¬B i/\i≠c/\i≠m/\i≠lb):=O (fun i d=>by
   rcases d with d|d|d
   ·exact f.2.2 i (.inl d)
   ·exact f.2.2 i (.inr (.inr d))
   ·have C:=Y.out i d;have h2:=X.out
    exact⟨fun e=>by have h3:=h2.2.2.2.1 i e;omega,by omega,by omega,by omega⟩)
  have o:Hid (eJ wy c a m lb yv pid cp gv ⟨t.rv,t.u,t.vv,t.vl,.slice na ln nc,l⟩ B D Z Mm nw):=O (by
   refine⟨⟨by rw[qp.out];exact qg.out,u.out,qh.out⟩,r.arr.keep j.out fun i e=>e▸f.1.1,j.blk r.mir f.2.1.1,r.liv.keep j.out f.2.1.2,r.cpb,r.lab⟩)
  have N:Hid (wy.heap[b2]?=some (.cells #[.pointer c] 26 (0,0))):=O (j.blk (F.b 0) M.out);have V:Hid (aA (fun i=>i=c) w wy):=O (F.keep.any.trans j.out);clear r F j qg qa qh;have c1:wy.cell? ⟨b2,0,none⟩=some (.pointer c):=cell_of_one N.out;go_wp2_with fail;clear c1;refine(vM o.cor (fun i d=>(qk i d).2.1) o.arr f.1.1 qt.out (by have C:=W.out;show t.vl.length+l.length≤65536;omega)).mono ?_;rintro e wz ⟨rfl,g,b3,lc,qm,R,K,J⟩
  have HP:Hid (yD w c a m lb yv pid cp t B D Z Mm nw l (.returned (.int .i64 0)) wz):=O (by
   have qv:=V.size;have L:=X.out;refine⟨rfl,g,b3,lc,_,⟨⟨qm,o.arr.keep J fun i e=>e▸f.1.1,J.blk o.mir f.2.1.1,o.liv.keep J f.2.1.2,o.cpb,o.lab⟩,R,fun k z=>?_,⟨f.1.1,f.1.2.1,f.1.2.2,qk.out⟩,?_⟩,Y.out,fun k z=>Nat.le_trans qv (K k z),V.trans J⟩
   ·have C:=K k z
    refine⟨fun e=>by have h3:=L.2.2.2.1 k e;omega,by omega,by omega,by omega,fun e=>?_⟩;have h3:=o.cor.lst.lt e;omega
   ·have C:=oZ (cX (t.vl++l)) D Z
    have h2:D*Z≤8*4096:=Nat.mul_le_mul qo.2.1 qo.2.2.2;have h3:=qy.out;have h4:=qz.out;show nw+jD (bN (cX (t.vl++l)) D Z)≤40000+8*t.u.txg.toNat;omega)
  clear qm R K J o V N;go_wp2;go_ret;exact HP.out
def De(w:World)(c a m lb:Nat)(yv:Value)(pid:List UInt8)(cp:Nat)(t:Lst)(B:Nat->Prop)(D Z:Nat)(Mm:Nat->Nat->List UInt8)(nw:Nat)(e:Ending)(w':World):Prop:=
 e=.returned (.int .i64 0)/\∃g b2 lc,fI w' c a m lb g b2 yv lc pid cp t B D Z Mm nw (cX (t.ol++t.vl))/\(∀k,Own g b2 lc D k->w.heap.size≤k)/\aA (fun i=>i=c) w w'
theorem Lt(h:fI w c a m lb g b2 yv lc pid cp t B D Z Mm nw Ls)(A:m≠c/\lb≠c)(E:∀x∈t.ol++t.vl,bW x D Z)(n:t.ol.length+t.vl.length≤65536)(C:nw≤7000)(F:0≤t.u.txg):Calls prog 14 #[.pointer c] w (De w c a m lb yv pid cp t B D Z Mm nw):=by
 have L:=h.led.bd;have d:=O h;have J:=O E;have G:=O n;have I:=O C;have K:=O F;have y:=O A;have r:=O L;have H:=O (And.intro (lt_of_block h.cor.cor.top) (And.intro (lt_of_block h.cor.mir) (And.intro h.cor.liv.lt (And.intro (fun i (e:B i)=>h.cor.arr.lt e) (fun i (e:t.Own i)=>h.cor.cor.lst.lt e)))));have u:=lN w;clear h E n C F A;go_in;go_wp2_with fail;refine(C7 d.cor.cor d.cor.arr g rfl).mono ?_;rintro e w1 ⟨rfl,o⟩;replace u:=kL u o;replace d:=O (d.keep0 o);clear o;go_wp2_with fail;refine(vM d.cor.cor (fun i X=>(d.top.2.2.2 i X).2.1) d.cor.arr d.top.1 J.out G.out).mono ?_;rintro e Y ⟨rfl,V,U,N,z,l,j,f⟩
 have T:Hid (De w c a m lb yv pid cp t B D Z Mm nw (.returned (.int .i64 0)) Y):=O (by
  have M:=u.keep.size;have R:=H.out;refine⟨rfl,V,U,N,⟨⟨z,d.cor.arr.keep f fun i e=>e▸d.top.1,f.blk d.cor.mir y.1,d.cor.liv.keep f y.2,d.cor.cpb,d.cor.lab⟩,l,fun k o=>?_,d.top,?_⟩,fun k o=>Nat.le_trans M (j k o),u.keep.any.trans f⟩
  ·have W:=j k o
   refine⟨fun e=>by have Q:=R.2.2.2.1 k e;omega,by omega,by omega,by omega,fun e=>?_⟩;have Q:=R.2.2.2.2 k e;omega
  ·have W:=oZ (cX (t.ol++t.vl)) D Z
   have h2:D*Z≤8*4096:=Nat.mul_le_mul r.2.1 r.2.2.2;have Q:=I.out;have h4:=K.out;omega)
 clear z l j f d u;go_wp2;go_ret;exact T.out
end
end Go.Proofs.YtoeinblfcbpcmaaGreatDoor
