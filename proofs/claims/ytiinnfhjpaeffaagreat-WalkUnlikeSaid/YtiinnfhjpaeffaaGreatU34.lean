import Derived.Test.YtiinnfhjpaeffaaGreatU30
import Derived.Test.YtiinnfhjpaeffaaGreatU32
import Derived.Test.YtiinnfhjpaeffaaGreatU33
namespace Go.Proofs.YtiinnfhjpaeffaaGreat
open Tryz
set_option maxHeartbeats 0
set_option maxRecDepth 100000
set_option linter.unusedVariables false
section
open Go.RowKit Go.Maps Go.ChangeMaps
def wrM(Mm:Nat->Nat->List UInt8)(s:Nat)(b:List UInt8):Nat->Nat->Nat->List UInt8
 | 0=>Mm
 | k+1=>gO (wrM Mm s b k) k s b
variable{w w':World}{c a m lb cp D Z nw q q2 q8 q6 s:Nat}{pid b:List UInt8}{gv v:Value}{t:Lst}{B:Nat->Prop}{P:Nat->Nat->Nat->List UInt8}{Mm:Nat->Nat->List UInt8}{fn:Func}{p:Tmp}{S:Kor}
theorem Do(Mm:Nat->Nat->List UInt8)(s:Nat)(b:List UInt8):∀(k d f:Nat),f≠s->wrM Mm s b k d f=Mm d f
 | 0,_,_,_=>rfl
 | k+1,d,f,h=>by
   show gO _ _ _ _ _ _=_;unfold gO;rw[if_neg fun e=>h e.2];exact Do Mm s b k d f h
def rR(w:World)(c a m lb:Nat)(pid:List UInt8)(cp:Nat)(gv:Value)(t:Lst)(B:Nat->Prop)(D Z:Nat)(P:Nat->Nat->Nat->List UInt8)(nw q k:Nat)(w':World):Prop:=
 ∃B' d,iD w' c a m lb pid cp gv t B' D Z (P k) d/\d≤nw+q*k/\(∀i,B' i->B i\/w.heap.size≤i)/\aA B w w'
theorem rR.step{wr G z:World}{r A:Nat->Prop}{j o k:Nat}(y:¬B c/\¬B m/\¬B lb/\∀i,t.Own i->¬B i)(x:c<w.heap.size/\m<w.heap.size/\lb<w.heap.size/\∀i,t.Own i->i<w.heap.size)
 (h:iD wr c a m lb pid cp gv t r D Z (P k) j) (U:j≤nw+q*k) (C:∀i,r i->B i\/w.heap.size≤i) (J:aA B w wr) (I:aA aB wr G) (M:bP z a A D Z (P (k+1)) o) (Q:o≤j+q) (E:∀i,A i->r i\/G.heap.size≤i) (R:aA r G z) (L:∀d,P (k+1) d 0=P k d 0):rR w c a m lb pid cp gv t B D Z P nw q (k+1) z:=by
 have g:aA r wr z:=I.trans' R (fun _ _ h=>h.elim) fun _ _ h=>h
 have f:∀i,i<w.heap.size->¬B i->¬r i:=fun i F K e=>(C i e).elim K fun e=>by omega
 refine⟨A,o,⟨h.cor.keep g (f c x.1 y.1) fun i e H=>f i (x.2.2.2 i H) (y.2.2.2 i H) e,M,g.blk h.mir (f m x.2.1 y.2.1),g.blk h.liv (f lb x.2.2.1 y.2.2.1),h.cpb,fun d N=>by rw[L];exact h.lab d N⟩,by rw[Nat.mul_succ];omega,fun i F=>?_,J.tT g fun i F e=>(C i e).elim id fun e=>by omega⟩;rcases E i F with e|e
 ·exact C i e
 ·have:=I.size;have:=J.size
  exact .inr (by omega)
def iG(w:World)(c a m lb:Nat)(pid:List UInt8)(cp:Nat)(gv:Value)(t:Lst)(B:Nat->Prop)(D Z:Nat)(P:Nat->Nat->Nat->List UInt8)(nw q:Nat)(e:Ending)(w':World):Prop:=
 e=.returned (.tuple #[.int .i64 (D:Int),.int .i64 0])/\rR w c a m lb pid cp gv t B D Z P nw q D w'
theorem iG.from{w0:World}{e:Ending}(h:iG w c a m lb pid cp gv t B D Z P nw q e w')(k:aA aB w0 w):iG w0 c a m lb pid cp gv t B D Z P nw q e w':=by
 obtain⟨f,B',d,g,j,o,r⟩:=h;exact⟨f,B',d,g,j,fun i x=>(o i x).imp id fun h=>Nat.le_trans k.size h,k.trans' r (fun _ _ h=>h.elim) fun _ _ h=>h⟩
structure WrC(w:World)(B:Nat->Prop)(c q2 q8 q6 s:Nat)(v:Value)(b:List UInt8):Prop where
 c2:w.heap[q2]?=some (.cells #[.pointer (some ⟨c,0,none⟩)] 39 (0,0))
 c8:w.heap[q8]?=some (.cells #[.int .i64 (s:Int)] 3 (0,0))
 c6:w.heap[q6]?=some (.cells #[v] 109 (0,0))
 rd:Rd w 1 v 256 (b.map vb)
 off:¬B q2/\¬B q8/\¬B q6/\∀i,v.ownBlock=some i->¬B i
 lt:q2<w.heap.size/\q8<w.heap.size/\q6<w.heap.size/\∀i,v.ownBlock=some i->i<w.heap.size
theorem WrC.keep{B':Nat->Prop}(h:WrC w B c q2 q8 q6 s v b)(k:aA B w w')(f:∀i,B' i->B i\/w.heap.size≤i):WrC w' B' c q2 q8 q6 s v b:=by
 have q:∀i,i<w.heap.size->¬B i->¬B' i:=fun i d h e=>(f i e).elim h fun e=>by omega
 have z:=k.size;exact⟨k.blk h.c2 h.off.1,k.blk h.c8 h.off.2.1,k.blk h.c6 h.off.2.2.1,h.rd.keep k h.off.2.2.2,⟨q _ h.lt.1 h.off.1,q _ h.lt.2.1 h.off.2.1,q _ h.lt.2.2.1 h.off.2.2.1,fun i d=>q i (h.lt.2.2.2 i d) (h.off.2.2.2 i d)⟩,Nat.lt_of_lt_of_le h.lt.1 z,Nat.lt_of_lt_of_le h.lt.2.1 z,Nat.lt_of_lt_of_le h.lt.2.2.1 z,fun i d=>Nat.lt_of_lt_of_le (h.lt.2.2.2 i d) z⟩
theorem WrC.keep0(h:WrC w B c q2 q8 q6 s v b)(k:aA aB w w'):WrC w' B c q2 q8 q6 s v b:=h.keep k.any fun _ e=>.inl e
theorem Gl(h:iD w c a m lb pid cp gv t B D Z Mm nw){d:Nat}(L:WrC w B c q2 q8 q6 s v b)(I:¬B c)(X:d<D)(hs:s<Z)(H:b.length=256)(U:nw<100000000000):Calls prog 102 #[.int .i64 (d:Int),.pointer q2,.pointer q8,.pointer q6] w (kP w a B D Z Mm nw d s b):=by
 have C:=O h;have A:=O L;have J:=O I;have o:=O (And.intro X (And.intro hs (And.intro H U)));obtain⟨N,Q,rfl,-,-⟩:=L.rd.form;have z:=lN w;clear h L I H U;go_in;go_wp2_with fail;refine dwA B (by kernel_rfl) ?_;intro w1 S j F r x;replace z:=kL z x;replace C:=O (C.keep0 x);replace A:=O (A.keep0 x);clear x;have K:=z;have E:=C;have f:=A;refine tnd 0 (.pointer c) rfl (.inl ⟨by rfl,fun w' g=>by have c:World.cell? w' ⟨q2,0,none⟩=some (.pointer c):=(j w' g).cell (cell_of_one f.c2) f.off.1;go_simp⟩) r ?_;refine tnb 1 (.pointer c) rfl r ?_;refine tnb 2 (.pointer c) rfl r ?_;refine tnd 3 (.pointer a) rfl (.inl ⟨by rfl,fun w' g=>by have c:World.cell? w' ⟨c,0,none⟩=some (.pointer a):=(j w' g).cell (bB.c0 E.cor) J.out;go_simp⟩) r ?_;refine tna 4 (.int .i64 (d:Int)) rfl r ?_;refine tnd 5 (.int .i64 (s:Int)) rfl (.inl ⟨by rfl,fun w' g=>by have c:World.cell? w' ⟨q8,0,none⟩=some (.int .i64 (s:Int)):=(j w' g).cell (cell_of_one f.c8) f.off.2.1;go_simp⟩) r ?_;refine tnd 6 (.slice N 256 Q) rfl (.inl ⟨by rfl,fun w' g=>by have c:World.cell? w' ⟨q6,0,none⟩=some (.slice N 256 Q):=(j w' g).cell (cell_of_one f.c6) f.off.2.2.1;go_simp⟩) r ?_;refine wA9 7 ?_;go_wp2_with fail;refine((qK C.arr o.1 o.2.1 b o.2.2.1 (.slice N 256 Q) A.rd A.off.2.2.2 o.2.2.2)).mono ?_;rintro e w2 ⟨rfl,V,R,G,M⟩;have W:Hid (kP w a B D Z Mm nw d s b (.returned (.int .i64 0)) w2):=O ⟨rfl,V,R,fun i Y=>(G i Y).imp id fun h=>Nat.le_trans z.keep.size h,z.keep.trans' M (fun _ _ h=>h.elim) fun _ _ h=>h⟩;have y:=F.out _ ((j _ r).trans M);clear r M R G z C A;go_wp2_with fail;refine⟨y,?_⟩;refine tna 8 (.int .i64 0) rfl y ?_;refine wpAnyH_done (by kernel_rfl) ?_ _;clear y j F K E f;go_wp2;go_ret;exact W.out
theorem Jb(h:iD w c a m lb pid cp gv t B D Z Mm nw)(hT:¬B c/\¬B m/\¬B lb/\∀i,t.Own i->¬B i)(hn:nw≤50000000000):Calls prog 98 #[.pointer c,.func (.func 99) #[.pointer a] #[]] w (iG w c a m lb pid cp gv t B D Z (fun _=>Mm) nw 0):=by
 have qe:=h.arr.bd;have f:=O h;have qb:=O hT;have W:=O hn;have y:=O (show c<w.heap.size/\m<w.heap.size/\lb<w.heap.size/\∀i,t.Own i->i<w.heap.size from⟨lt_of_block h.cor.top,lt_of_block h.mir,lt_of_block h.liv,fun i hi=>h.cor.lst.lt hi⟩);have x:=lN w;clear h hT hn;go_in;go_wp2_with fail;have E:=O (fun i (e:B i)=>f.arr.lt e);refine(sG f.cor f.arr).mono ?_;rintro e A ⟨v0,rfl,M,j⟩;obtain⟨g,o,dc,rfl,-⟩:=oW (Rd.of_owns M) (mH (show 0<D by omega))
 have R:=O (fun(k:Nat) (j:k<D)=>show World.cell? A ⟨g,o+k,none⟩=some (.int .i64 (k:Int)) from by
  obtain⟨g',o',qd,he,hc⟩:=oW (Rd.of_owns M) (mH j);cases he
  exact hc)
 have U:Hid (¬B g):=O (fun e=>by have h1:=aU M (show (Value.slice (some ⟨g,o,none⟩) D dc).ownBlock=some g from rfl);have h2:=E.out g e;omega);clear M;replace x:=kL x j;replace f:=O (f.keep0 j);clear j;go_wp2_with fail;have r:=O x.keep;have qa:=O (show c<A.heap.size/\m<A.heap.size/\lb<A.heap.size/\∀i,t.Own i->i<A.heap.size from⟨Nat.lt_of_lt_of_le y.1 r.size,Nat.lt_of_lt_of_le y.2.1 r.size,Nat.lt_of_lt_of_le y.2.2.1 r.size,fun i hi=>Nat.lt_of_lt_of_le (y.2.2.2 i hi) r.size⟩);have Y:Hid (rR A c a m lb pid cp gv t B D Z (fun _=>Mm) nw 0 0 A):=O ⟨B,nw,f.out,Nat.le_add_right _ _,fun i h=>.inl h,aA.refl _ _⟩;clear x f
 go_loopw [6,8,12] (fun n _ i wr=>∃k:Nat,k≤D/\n=.int .i64 (k:Int)/\i=.int .i64 (k:Int)/\Hid (rR A c a m lb pid cp gv t B D Z (fun _=>Mm) nw 0 k wr)) (fun _ _ i _=>D-(intOf i).toNat)
 case atStart=>exact⟨0,by omega,rfl,rfl,Y⟩
 case round =>
  obtain⟨k,j,rfl,rfl,K⟩:=hrel
  by_cases z:k<D
  ·obtain⟨B1,qh,I,J,G,C⟩:=K.out
   have f:=O I;have F:=O J;have Q:=O G;have V:=O C;have x:=lN wr;have qf:(0:Int)≤(k:Int):=by omega
   have qg:(k:Int)<(D:Int):=by omega
   have L:Hid (World.cell? wr ⟨g,o+k,none⟩=some (.int .i64 (k:Int))):=O (C.cell (R k z) U.out);clear I J G C K;have N:=f;have c1:wr.cell? ⟨g,o+k,none⟩=some (.int .i64 (k:Int)):=L.out;go_wp2_with fail;clear c1;refine(qM f.arr f.cor f.liv z f.cpb (f.lab _ z)).mono ?_;rintro e w2 ⟨rfl,j⟩;replace x:=kL x j;replace f:=O (f.keep0 j);replace L:=O (j.cell L.out id);clear j;go_wp2_with fail;refine((Bg f.arr z (by have h1:=F.out;have h2:=W.out;omega))).mono ?_;rintro e w3 ⟨rfl,B2,qi,ha,qc,H,j⟩;have X:Hid (rR A c a m lb pid cp gv t B D Z (fun _=>Mm) nw 0 (k+1) w3):=O (rR.step (P:=(fun _=>Mm)) qb.out qa.out N.out F.out Q.out V.out x.keep ha (by omega) H j (fun d=>rfl));clear j ha qc H f x;clear L;go_wp2
   go_roundw
   case rel=>exact⟨k+1,by omega,by go_num,by go_num,X⟩
   case measure=>simp[intOf];omega
  ·obtain rfl:k=D:=by omega
   have HP:=O (iG.from (w0:=w) ⟨rfl,K.out⟩ r.out);clear K;go_wp2
   go_ret2
   exact HP.out
theorem Jc(h:iD w c a m lb pid cp gv t B D Z Mm nw)(hT:¬B c/\¬B m/\¬B lb/\∀i,t.Own i->¬B i)(hW:WrC w B c q2 q8 q6 s v b)(hs:1≤s/\s<Z)(M:b.length=256)(hn:nw≤50000000000):Calls prog 98 #[.pointer c,.func (.func 102) #[] #[.pointer q2,.pointer q8,.pointer q6]] w (iG w c a m lb pid cp gv t B D Z (wrM Mm s b) nw 1):=by
 have qh:=h.arr.bd;have f:=O h;have K:=O hT;have qd:=O hn;have HW:=O hW;have HS:=O hs;have Y:=O M;have y:=O (show c<w.heap.size/\m<w.heap.size/\lb<w.heap.size/\∀i,t.Own i->i<w.heap.size from⟨lt_of_block h.cor.top,lt_of_block h.mir,lt_of_block h.liv,fun i hi=>h.cor.lst.lt hi⟩);have x:=lN w;clear h hT hn hW hs M;go_in;go_wp2_with fail;have G:=O (fun i (e:B i)=>f.arr.lt e);refine(sG f.cor f.arr).mono ?_;rintro e F ⟨v0,rfl,V,j⟩;obtain⟨g,o,dc,rfl,-⟩:=oW (Rd.of_owns V) (mH (show 0<D by omega))
 have qa:=O (fun(k:Nat) (j:k<D)=>show World.cell? F ⟨g,o+k,none⟩=some (.int .i64 (k:Int)) from by
  obtain⟨g',o',qg,he,hc⟩:=oW (Rd.of_owns V) (mH j);cases he
  exact hc)
 have qb:Hid (¬B g):=O (fun e=>by have h1:=aU V (show (Value.slice (some ⟨g,o,none⟩) D dc).ownBlock=some g from rfl);have h2:=G.out g e;omega);clear V;replace x:=kL x j;replace f:=O (f.keep0 j);replace HW:=O (HW.keep0 j);clear j;go_wp2_with fail;have r:=O x.keep;have J:=O (show c<F.heap.size/\m<F.heap.size/\lb<F.heap.size/\∀i,t.Own i->i<F.heap.size from⟨Nat.lt_of_lt_of_le y.1 r.size,Nat.lt_of_lt_of_le y.2.1 r.size,Nat.lt_of_lt_of_le y.2.2.1 r.size,fun i hi=>Nat.lt_of_lt_of_le (y.2.2.2 i hi) r.size⟩);have qf:Hid (rR F c a m lb pid cp gv t B D Z (wrM Mm s b) nw 1 0 F):=O ⟨B,nw,f.out,Nat.le_add_right _ _,fun i h=>.inl h,aA.refl _ _⟩;clear x f
 go_loopw [6,8,12] (fun n _ i wr=>∃k:Nat,k≤D/\n=.int .i64 (k:Int)/\i=.int .i64 (k:Int)/\Hid (rR F c a m lb pid cp gv t B D Z (wrM Mm s b) nw 1 k wr)) (fun _ _ i _=>D-(intOf i).toNat)
 case atStart=>exact⟨0,by omega,rfl,rfl,qf⟩
 case round =>
  obtain⟨k,j,rfl,rfl,R⟩:=hrel
  by_cases C:k<D
  ·obtain⟨B1,qk,N,Q,A,E⟩:=R.out
   have f:=O N;have I:=O Q;have X:=O A;have qc:=O E;have x:=lN wr;have qi:(0:Int)≤(k:Int):=by omega
   have qj:(k:Int)<(D:Int):=by omega
   have U:Hid (World.cell? wr ⟨g,o+k,none⟩=some (.int .i64 (k:Int))):=O (E.cell (qa k C) qb.out);have z:=O (HW.keep E A);have H:Hid (¬B1 c):=O (fun e=>(A c e).elim K.1 fun e=>by have h1:=J.1;omega);clear N Q A E R;have W:=f;have c1:wr.cell? ⟨g,o+k,none⟩=some (.int .i64 (k:Int)):=U.out;go_wp2_with fail;clear c1;refine(qM f.arr f.cor f.liv C f.cpb (f.lab _ C)).mono ?_;rintro e w2 ⟨rfl,j⟩;replace x:=kL x j;replace f:=O (f.keep0 j);replace U:=O (j.cell U.out id);replace z:=O (z.keep0 j);clear j;go_wp2_with fail;refine((Gl f.out z.out H.out C HS.2 Y.out (by have h1:=I.out;have h2:=qd.out;omega))).mono ?_;rintro e w3 ⟨rfl,B2,ha,L,j⟩;have qe:Hid (rR F c a m lb pid cp gv t B D Z (wrM Mm s b) nw 1 (k+1) w3):=O (rR.step (P:=(wrM Mm s b)) K.out J.out W.out I.out X.out qc.out x.keep ha (Nat.le_refl _) L j (fun d=>by show gO _ _ _ _ d 0=_;unfold gO;rw[if_neg fun e=>by have h1:=HS.1;omega]));clear j ha L z f x;clear U;go_wp2
   go_roundw
   case rel=>exact⟨k+1,by omega,by go_num,by go_num,qe⟩
   case measure=>simp[intOf];omega
  ·obtain rfl:k=D:=by omega
   have HP:=O (iG.from (w0:=w) ⟨rfl,R.out⟩ r.out);clear R;go_wp2
   go_ret2
   exact HP.out
theorem BK(h:iD w c a m lb pid cp gv t B D Z Mm nw)(x:¬B c/\¬B m/\¬B lb/\∀i,t.Own i->¬B i)(A:nw≤50000000000)(r:Value)(u:Ub)(E:UbV w r u):Calls prog 54 #[.pointer c,.agg (cW r u).toArray] w (iG w c a m lb pid cp gv t B D Z (fun _=>Mm) nw 0):=by
 have d:=O h;have o:=O x;have j:=O A;obtain⟨F,f⟩:=zX9 (cW r u)
 rw[f];have g:=lN w;clear h x A E f;go_in
 go_wp2_with ((with_reducible show WL _ _);refine bxL g 45 (.tmp 1) (F.toArray) ?_)
 intro H G y g;replace d:=O (d.keep0 y);clear y;have c1:G.cell? ⟨c,0,none⟩=some (.pointer a):=(bB.c0 d.cor)
 go_wp2_with fail;clear c1;refine((Jb d.out o.out j.out)).mono ?_;rintro e I z;have C:=O (z.from g.keep);obtain⟨rfl,-⟩:=z;clear g d;go_wp2
 go_ret2
 exact C.out
theorem pB{u:Ub}(h:UbV w v u):∀x∈cW v u,x.oneCell'=true:=by
 intro x d;unfold cW at d;rcases List.mem_cons.1 d with rfl|d
 ·rfl
 ·rcases List.mem_append.1 d with d|d
  ·exact aN h.root x d
  ·rcases List.mem_cons.1 d with rfl|d
   ·rfl
   ·obtain⟨y,-,rfl⟩:=List.mem_map.1 d
    rfl
theorem Jd(h:iD w c a m lb pid cp gv t B D Z Mm nw)(hT:¬B c/\¬B m/\¬B lb/\∀i,t.Own i->¬B i)(hn:nw≤50000000000)(Q:Value)(u:Ub)(M:UbV w Q u)(G:u.may=true):Calls prog 55 #[.pointer c,.agg (cW Q u).toArray] w (iG w c a m lb pid cp gv t B D Z (wrM Mm (jQ u.txg).toNat (jP u)) nw 1):=by
 have y:=O h;have qg:=O hT;have qc:=O hn;have f:=O M;have qb:=O G;have z:=O (fun i (e:B i)=>h.arr.lt e);have HZ:=O h.arr.bd;have L:=Lk M.pool M.root.sum G
 have K:Hid (1≤u.txg/\u.txg≤2147483648):=O (by
  unfold Ub.may at G;simp only[Bool.and_eq_true,decide_eq_true_eq] at G;exact⟨G.1.1.1.1,G.1.1.1.2⟩)
 obtain⟨s,hs,qi,qk⟩:∃s:Nat,jQ u.txg=(s:Int)/\1≤s/\s≤4:=by
  have F:=K.out;have e:nI u.txg=true:=by unfold nI;rw[decide_eq_true F.1,decide_eq_true F.2];rfl
  refine⟨(jQ u.txg).toNat,?_,?_,?_⟩<;>(unfold jQ;rw[if_pos e];omega)
 have qf:=O hs;rw[show (jQ u.txg).toNat=s from by rw[hs];rfl];obtain⟨bs,j⟩:=zX9 (jP u)
 have qd:=O j;rw[j] at L ⊢;have qe:=O L;obtain⟨tx,Y⟩:=zX9 u.txg
 have I:=O Y;have qa:=jJ (v:=Q) M.root.sum M.pool;have A:∀x∈cW Q u,x.oneCell'=true:=pB M;obtain⟨uc,E⟩:=zX9 (cW Q u)
 have V:=O E;rw[E] at qa A ⊢;have qj:=O A;have g:=lN w;clear h hT hn M G hs j A E Y;go_in
 go_wp2_with ((with_reducible show WL _ _);refine bxL g 39 (.tmp 0) (#[.pointer c]) ?_)
 intro b2 w1 d g;replace y:=O (y.keep0 d);replace f:=O (f.keep d fun _ _=>id);clear d
 go_wp2_with ((with_reducible show WL _ _);refine bxL g 45 (.tmp 1) (uc.toArray) ?_)
 intro b3 w2 d g;replace y:=O (y.keep0 d);replace f:=O (f.keep d fun _ _=>id);clear d
 go_wp2_with ((with_reducible show WL _ _);refine wpList_load_mid rfl 45 (.tmp 3) rfl b3 0 rfl uc _ (aC (g.b 0)) iX rfl (by rw[qa];exact iY) ?_)
 have qh:=O g.keep.size;refine((by rw[←V.out];exact Lo w2 Q u f.out:Ka w2 (Dn w2 u))).mono ?_;rintro e w3 ⟨v,rfl,N,d⟩;rw[qb.out];rw[qd.out,L] at N;obtain⟨va,vc,rfl,-,-⟩:=(Rd.of_owns N).form;have o:=O (Rd.of_owns N);have U:Hid (∀i,(Value.slice va 256 vc).ownBlock=some i->w.heap.size≤i/\i<w3.heap.size):=O (fun i J=>⟨Nat.le_trans qh.out (aU N J),by obtain⟨cur,hc⟩:=aL N J;exact lt_of_block hc⟩);clear N;replace g:=kL g d;replace y:=O (y.keep0 d);replace f:=O (f.keep d fun _ _=>id);clear d
 go_wp2_with ((with_reducible show WL _ _);refine al 109 (.slice none 0 0) (#[.slice none 0 0]) Px ?_)
 intro b6 w4 j C r
 go_wp2_with ((with_reducible show WL _ _);refine sta 109 (.tmp 6) (.tmp 13) b6 0 ([.slice va 256 vc]) r (by first|decide|(rw[List.size_toArray,rfl];exact Nat.le_refl _)|simp[]) (by kernel_rfl) (one9) ?_)
 intro w5 d H;replace H:w5.heap[b6]?=some (.cells #[.slice va 256 vc] 109 (0,0)):=H;replace d:=tX C d (fun i J e=>by omega);have R:=O (show w3.heap.size≤b6 from Nat.le_of_eq j);replace g:=lW g j d H;replace y:=O (y.keep0 d);replace f:=O (f.keep d fun _ _=>id);replace o:=O (o.keep d fun _ _=>id);clear j d H C r;have c1:w5.cell? ⟨b3,0,none⟩=some (.int .i64 tx):=(aD (i:=0) (g.b 1) (by rw[←V.out,←I.out];rfl))
 go_wp2_with fail;clear c1;refine((by rw[←I.out];exact Nt w5 u.txg (by have F:=K.out;omega) (by have F:=K.out;omega):Ka w5 (AN w5 u.txg))).mono ?_;rintro e w6 ⟨rfl,d⟩;replace g:=kL g d;replace y:=O (y.keep0 d);replace f:=O (f.keep d fun _ _=>id);replace o:=O (o.keep d fun _ _=>id);clear d;rw[qf.out];obtain⟨sb,X⟩:=zX9 (nI u.txg)
 rw[X];clear X
 go_wp2_with ((with_reducible show WL _ _);refine al 3 (.int .i64 0) (#[.int .i64 0]) Qd ?_)
 intro b8 w7 j C r
 go_wp2_with ((with_reducible show WL _ _);refine sta 3 (.tmp 8) (.tmp 19) b8 0 ([.int .i64 (s:Int)]) r (by first|decide|(rw[List.size_toArray,rfl];exact Nat.le_refl _)|simp[]) (by kernel_rfl) (one9) ?_)
 intro w8 d H;replace H:w8.heap[b8]?=some (.cells #[.int .i64 (s:Int)] 3 (0,0)):=H;replace d:=tX C d (fun i J e=>by omega);replace g:=lW g j d H;replace y:=O (y.keep0 d);replace f:=O (f.keep d fun _ _=>id);replace o:=O (o.keep d fun _ _=>id);clear j d H C r;have c1:w8.cell? ⟨b2,0,none⟩=some (.pointer c):=(aD (i:=0) (g.b 3) rfl)
 go_wp2_with fail;clear c1;have W:Hid (WrC w8 B c b2 b8 b6 s (.slice va 256 vc) bs):=O ⟨g.b 3,g.b 0,g.b 1,o.out,⟨fun e=>by have F:=z.out _ e;have h2:=g.lt 3;omega,fun e=>by have F:=z.out _ e;have h2:=g.lt 0;omega,fun e=>by have F:=z.out _ e;have h2:=g.lt 1;omega,fun i J e=>by have F:=z.out _ e;have h2:=U.out i J;omega⟩,(g.lt 3).2,(g.lt 0).2,(g.lt 1).2,fun i J=>by have F:=(U i J).2;have h2:=R.out;have h3:=(g.lt 1).2;omega⟩;refine((Jc y.out qg.out W.out ⟨qi,by have F:=HZ.out;omega⟩ qe.out qc.out)).mono ?_;rintro e w9 G;have HP:=O (G.from g.keep);obtain⟨rfl,-⟩:=G;clear g y f o W;go_wp2
 go_ret2
 exact HP.out
theorem DH{tp:TypeId}(h:fn.results=#[.cell p tp])(tmps:Array Value)(P:Program)(w:World)(a:Addr)(x:Value)(d:tmps.getD p undef=.pointer (some a))(e:(loadVar tp a).run P w=.ok x w) :
 (results fn tmps).run P w=.ok x w:=by
 simp only[results,h];simp only[Array.getD_eq_getD_getElem?] at d;simp[asAddr,d,e]
theorem Je(w:World)(v:Value)(D:Nat)(h:0<D)(e:Rd w 1 v D (lJ D)):Calls prog 96 #[v,.bool true] w (aK w (.int .i64 0)):=by
 obtain⟨g,o,j,rfl,d⟩:=oW e (show (lJ D)[0]?=some (.bool true) by unfold lJ;rw[List.getElem?_replicate];exact if_pos h);have f:=O d;have r:(0:Int)<(D:Int):=by omega
 clear e d;go_in;go_wp2_with fail
 go_loopw [5,8] (fun _ i wr=>i=.int .i64 0/\wr=w) (fun _ _ _=>0)
 case atStart=>exact⟨rfl,rfl⟩
 case round =>
  obtain⟨rfl,rfl⟩:=hrel;have c1:wr.cell? ⟨g,o,none⟩=some (.bool true):=f.out;go_wp2;go_ret;exact aK.of (aA.refl _ _)
theorem DI(w:World)(v:Value)(D:Nat)(j:0<D)(f:Rd w 1 v D (lJ D)):Calls prog 52 #[v,.bool true] w (aK w (.bool true)):=by
 have g:=O (Je w v D j f);clear f;go_in;go_wp2_with fail;refine g.mono ?_;rintro e o ⟨rfl,d⟩;have h:=O d;clear d;go_wp2;go_ret;exact aK.of h.out
def Jf(w:World)(v:Value):Prop:=∀i,v.ownBlock=some i->∃d T,w.heap[i]?=some (.cells d T (0,0))
theorem Jf.keep{T:Nat->Prop}(h:Jf w v)(k:aA T w w')(g:∀i,v.ownBlock=some i->¬T i):Jf w' v:=fun i d=>by
 obtain⟨f,U,e⟩:=h i d;exact⟨f,U,k.blk e (g i d)⟩
def yJ:List Value:=cW (.slice none 0 0) ⟨0,zPt,0,List.replicate 32 0⟩
theorem oP:yJ.length=69:=rfl
theorem Nu:Hid (∀w,(zeroValue 45).run prog w=.ok (.agg yJ.toArray) w):=O fun w=>by kernel_rfl
theorem Nv(f g:Nat->Value)(x n:Int):prog.built 45 [(0,.int .i64 x),(1,.agg ((List.range 35).map f).toArray),(2,.int .i64 n),(3,.agg ((List.range 32).map g).toArray)]=some (Value.int .i64 x::((List.range 35).map f++(.int .i64 n::(List.range 32).map g))).toArray:=by kernel_rfl
theorem Nw(d:List Value)(h:d.length=35):d=(List.range 35).map fun i=>d.getD i undef:=by
 apply List.ext_getElem?;intro i;rw[List.getElem?_map]
 by_cases e:i<35
 ·rw[List.getElem?_range e,List.getElem?_eq_getElem (by omega)]
  simp[List.getD,List.getElem?_eq_getElem (show i<d.length by omega)]
 ·rw[List.getElem?_eq_none (by omega),List.getElem?_eq_none (by simp;omega)];rfl
theorem Nx(v:Value)(u:Ub)(e:u.root.sum.length=32)(d:u.pool.length=32)(w:World):(Instr.build 45 #[(0,.int .i64 u.txg),(1,.agg (aF v u.root).toArray),(2,.int .i64 u.len),(3,.agg (u.pool.map vb).toArray)]).run prog w=.ok (.agg (cW v u).toArray) w:=by
 refine run_build w 45 _ _ ?_;unfold cW;rw[Nw (aF v u.root) (aJ e),Ce (u.pool.map vb) (by rw[List.length_map,d])];exact Nv _ _ _ _
theorem PZ(a m:Nat)(pid:List UInt8)(g:pid.length=32)(cp:Nat)(lv gv:Value)(t:Lst)(rv:Value)(u:Ub)(d:(cW t.rv t.u).length=69)(e:(cW rv u).length=69):spl (fP a m pid cp lv gv t).toArray 39 (cW rv u)=(fP a m pid cp lv gv ⟨rv,u,t.ov,t.ol,t.vv,t.vl⟩).toArray:=by
 have h:=jA (.pointer a::.pointer m::(pid.map vb++[.int .i64 (cp:Int),lv,gv,t.ov,t.vv])) (cW t.rv t.u) (cW rv u) [.bool false] (by rw[d,e]);have f:(.pointer a::.pointer m::(pid.map vb++[.int .i64 (cp:Int),lv,gv,t.ov,t.vv])).length=39:=by simp[g]
 rw[f] at h;unfold fP hE
 simpa [List.append_assoc] using h
def FA(w:World)(c a m lb:Nat)(pid:List UInt8)(cp:Nat)(gv:Value)(t:Lst)(B:Nat->Prop)(D Z:Nat)(Mm:Nat->Nat->List UInt8)(nw k:Nat)(w':World):Prop:=
 ∃B' e M',iD w' c a m lb pid cp gv t B' D Z M' e/\e≤nw+D*(k / 2)/\(∀d s,5≤s->M' d s=Mm d s)/\(∀i,B' i->B i\/w.heap.size≤i)/\aA B w w'
def zZ(w:World)(c a m lb g j:Nat)(o:Nat->Option Nat)(pid:List UInt8)(cp:Nat)(t:Lst)(B:Nat->Prop)(D Z:Nat)(Mm:Nat->Nat->List UInt8)(h:List Ad)(p:Pt)(n:Int)(e:Ending)(w':World):Prop:=
 e=.returned (.int .i64 0)/\∃B' f rv M',(∀d s,5≤s->M' d s=Mm d s)/\iN w' c a m lb g j o pid cp ⟨rv,⟨t.u.txg+1,p,n,pid⟩,t.ov,t.ol,t.vv,t.vl⟩ B' D Z M' f h/\(∀i,B' i->B i\/w.heap.size≤i)/\dQ w rv/\aA (fun k=>B k\/k=c) w w'
theorem Gm{g b2:Nat}{lc:Nat->Option Nat}{Ls:List Ad}(h:iN w c a m lb g b2 lc pid cp t B D Z Mm nw Ls)(ht:0≤t.u.txg/\t.u.txg+1<2147483648)(pv:Value)(p:Pt)(hp:PtV w pv p)(xq:p.addrs.length≤65536)(n:Int)(hm:Ub.may ⟨t.u.txg+1,p,n,pid⟩=true):Calls prog 21 #[.pointer c,.agg (aF pv p).toArray,.int .i64 n] w (zZ w c a m lb g b2 lc pid cp t B D Z Mm Ls p n):=by
 have xm:=h.led.bd;have F:=O h;have z0:=O h;have W:=O hp;have xb:=O xq;have xx:=O hm;have HT:=O ht;have z5:=O h.many;have L:=O h.cor.cor.idl;have zu:=O hp.ads;have qp:=O hp.sum;have J:=O h.top;have K:=O h.far;have X:=O (fun i (e:B i)=>h.lt (.inl e));have V:=O (show c<w.heap.size/\m<w.heap.size/\lb<w.heap.size/\(∀i,t.Own i->i<w.heap.size)/\∀i,Own g b2 lc D i->i<w.heap.size from⟨lt_of_block h.cor.cor.top,lt_of_block h.cor.mir,lt_of_block h.cor.liv,fun i x=>h.cor.cor.lst.lt x,fun i x=>h.lt (.inr x)⟩);have xp:=aJ (v:=pv) hp.sum;have zf:=aN hp;obtain⟨pc,qk⟩:=zX9 (aF pv p)
 have x9:Hid (∀u∈pc,u.oneCell'=true):=O (by rw[←qk];exact zf);have xz:=O qk;have x0:Hid (∃r,pc=pv::r):=O ⟨_,qk.symm⟩;rw[qk] at xp ⊢;have z:=lN w;clear h hp xq ht hm zf qk
 go_enter_defers func21,ntmps21
 go_wp2_with ((with_reducible show WL _ _);refine bxL z 27 (.tmp 1) (pc.toArray) ?_)
 intro b4 w1 j z;replace F:=O (F.keep0 j);replace W:=O (W.keep j fun _ _=>id);clear j
 go_wp2_with ((with_reducible show WL _ _);refine alL z 49 (.int .i64 0) (#[.int .i64 0]) lH ?_)
 intro b6 w2 j z;replace F:=O (F.keep0 j);replace W:=O (W.keep j fun _ _=>id);clear j;go_wp2_with fail;refine(sE F.cor.cor F.cor.arr).mono ?_;rintro e w3 ⟨rfl,j⟩;replace z:=kL z j;replace F:=O (F.keep0 j);replace W:=O (W.keep j fun _ _=>id);clear j;have c1:w3.cell? ⟨b4,0,none⟩=some (pv):=(by obtain⟨r,e⟩:=x0.out;exact aD (i:=0) (z.b 1) (by rw[e];rfl))
 go_wp2_with fail;clear c1;have x2:=O z.keep.size;refine((lT w3 pv p.addrs W.rd xb.out)).mono ?_;rintro e w4 ⟨Q,rfl,ho,j⟩;obtain⟨va,vc,rfl,-,-⟩:=(Rd.of_owns ho).form;have qu:Hid (PtV w4 (.slice va p.addrs.length vc) p):=O ⟨Rd.of_owns ho,zu.out,qp.out⟩
 have qt:Hid (∀i,(Value.slice va p.addrs.length vc).ownBlock=some i->w.heap.size≤i/\w3.heap.size≤i/\i<w4.heap.size/\∃cs T,w4.heap[i]?=some (.cells cs T (0,0))):=O (fun i x=>by
  obtain⟨cur,hc⟩:=aL ho x;exact⟨Nat.le_trans x2.out (aU ho x),aU ho x,lt_of_block hc,_,_,hc⟩)
 have zd:=O (And.intro (z.lt 0).2 (z.lt 1).2);have C:Hid (Jf w4 (.slice va p.addrs.length vc)):=O fun i x=>(qt i x).2.2.2
 clear ho;replace z:=kL z j;replace F:=O (F.keep0 j);replace W:=O (W.keep j fun _ _=>id);clear j;clear W
 go_wp2_with ((with_reducible show WL _ _);refine sta 23 (.tmp 22) (.tmp 21) b4 0 [.slice va p.addrs.length vc] (z.b 1) (by rw[List.size_toArray,xp];simp) (by kernel_rfl) (one9) ?_)
 intro w5 j M;rw[←xz.out,EX] at M;have hF:∀i,i=b4->i≠c/\i≠m/\i≠lb/\¬B i/\¬Own g b2 lc D i/\¬t.Own i:=z0.fresh (z.lt 1).1;replace F:=O (F.keepT j hF);have zq:∀i,(Value.slice va p.addrs.length vc).ownBlock=some i->i≠b4:=fun i x e=>by have E:=(qt i x).2.1;have G:=zd.out;omega
 replace qu:=O (qu.keep j zq);replace C:=O (C.keep j zq);replace z:=O (z.set 1 j M);obtain⟨Q,zr⟩:=zX9 (Value.slice va p.addrs.length vc)
 rw[zr] at qu qt C;have xr:=aJ (v:=Q) qp.out;obtain⟨qc,qa⟩:=zX9 (aF Q p)
 have vd:Hid (∀u∈qc,u.oneCell'=true):=O (by rw[←qa];exact aN qu.out);have ve:=O qa;rw[zr,qa] at z;rw[qa] at xr;obtain⟨u,hu⟩:∃u:Ub,⟨t.u.txg+1,p,n,pid⟩=u:=⟨_,rfl⟩
 have zo:=O hu;have z6:Hid (u.may=true):=O (by rw[←hu];exact xx.out);have I:=jJ (v:=Q) (u:=u) (by rw[←hu];exact qp.out) (by rw[←hu];exact L.out);have q1:=Nx Q u (by rw[←hu];exact qp.out) (by rw[←hu];exact L.out);have o:=O (UbV.mk (w:=w5) (v:=Q) (u:=u) (by rw[←hu];exact qu.out) (by rw[←hu];exact L.out));have zg:=pB o.out;obtain⟨uc,qr⟩:=zX9 (cW Q u)
 have qv:=O qr;have z9:Hid (∀y∈uc,y.oneCell'=true):=O (by rw[←qr];exact zg);rw[qr] at I q1;rw[←hu] at q1;rw[qa] at q1;have xv:=O q1;have vm:0≤t.u.txg/\t.u.txg+1<2147483648:=HT.out;clear j M hF zq zr qa hu q1 zg qr qu;go_wp2_with fail;refine dwB aB (by kernel_rfl) ?_;intro w6 S ql zn hS q3;replace z:=kL z q3;replace F:=O (F.keep0 q3);replace o:=O (o.keep q3 fun _ _=>id);replace C:=O (C.keep q3 fun _ _=>id);clear q3;have zl:=z;have zk:=F;have xg:=o;have q0:=C;refine tna 0 (.pointer c) rfl hS ?_;refine tnb 1 (.pointer c) rfl hS ?_;refine tnb 2 (.pointer (some ⟨c,39,none⟩)) rfl hS ?_;refine tnb 3 (.pointer (some ⟨c,39,none⟩)) rfl hS ?_;refine tnd 4 (.int .i64 t.u.txg) rfl (.inl ⟨by rfl,fun w' x6=>by have c:World.cell? w' ⟨c,39,none⟩=some (.int .i64 t.u.txg):=(ql w' x6).cell (bB.txg_ zk.cor.cor) id;go_simp⟩) hS ?_;refine tnd 5 (.int .i64 (t.u.txg+1)) rfl (.inl ⟨by rfl,fun _ _=>by go_simp;exact IntWalk.i64_in _ (by omega)⟩) hS ?_;refine tnd 6 (.agg qc.toArray) rfl (yieldsIf_load_mid (by rfl) 27 (.tmp 4) rfl b4 0 rfl qc _ (fun w' h=>aC ((ql w' h).blk (zl.b 1) id)) aG rfl (szP9 xr)) hS ?_;refine tna 7 (.int .i64 n) rfl hS ?_;refine tna 8 (.pointer c) rfl hS ?_;refine tnb 9 (.pointer c) rfl hS ?_;refine tnb 10 (.pointer (some ⟨c,2,none⟩)) rfl hS ?_;refine tnd 11 (.agg (pid.map vb).toArray) rfl (yieldsIf_load_mid (by rfl) 25 (.tmp 33) rfl c 2 rfl (pid.map vb) _ (fun w' h=>(ql w' h).rangeAt (bB.id_ zk.cor.cor)) underlying25 rfl (by rw[List.length_map,L.out];exact xI)) hS ?_;refine tnd 12 (.agg uc.toArray) rfl (fI 45 #[(0,.tmp 28),(1,.tmp 29),(2,.tmp 30),(3,.tmp 34)] [(0,.int .i64 (t.u.txg+1)),(1,.agg qc.toArray),(2,.int .i64 n),(3,.agg (pid.map vb).toArray)] (.agg uc.toArray) xv.out) hS ?_;refine wA9 13 ?_;refine al 45 (.agg yJ.toArray) (yJ.toArray) Nu ?_;intro b8 w7 qm j M;have qn:=O (show w6.heap.size≤b8 from by have:=(ql _ hS).size;omega);have zp:=zn.out _ ((ql _ hS).trans j);clear hS;replace z:=lW z qm j M;replace F:=O (F.keep0 j);replace o:=O (o.keep j fun _ _=>id);replace C:=O (C.keep j fun _ _=>id);clear qm j M;refine wpList_nil ?_;refine⟨zp,?_⟩;refine wA9 14 ?_;refine sta 45 (.tmp 8) (.tmp 35) b8 0 uc (z.b 0) (by first|decide|(rw[I];exact Nat.le_refl _)|simp[I,oP]) (by rw[I];exact iY) z9.out ?_;intro w8 j M;rw[aI _ _ (by first|rfl|simp[I,oP])] at M;have xl:=zn.out _ ((ql _ zp).tT j (fun i x e=>by have:=qn.out;omega));clear zp;replace z:=O (z.set 0 j M);replace F:=O (F.keepT j (z0.fresh (by have E:=qn.out;have G:=zl.keep.size;omega)));replace o:=O (o.keep j fun i x e=>by obtain⟨x4,T_,h_⟩:=q0.out i x;have E:=lt_of_block h_;have G:=qn.out;omega);replace C:=O (C.keep j fun i x e=>by obtain⟨x4,T_,h_⟩:=q0.out i x;have E:=lt_of_block h_;have G:=qn.out;omega);clear j M;refine wpList_nil ?_;refine⟨xl,?_⟩;refine wpAnyH_done (by kernel_rfl) ?_ _;clear xl ql zn zl zk xg q0;refine noP ?_
 go_wp2_with ((with_reducible show WL _ _);refine wpList_load_mid rfl 45 (.tmp 8) rfl b8 0 rfl uc _ (aC (z.b 0)) iX rfl (by rw[I];exact iY) ?_)
 refine((by rw[←qv.out];exact uT w8 Q u o.out:Ka w8 (mY w8 u.may))).mono ?_;rintro e w9 ⟨rfl,j⟩;replace z:=kL z j;replace F:=O (F.keep0 j);replace o:=O (o.keep j fun _ _=>id);replace C:=O (C.keep j fun _ _=>id);clear j;rw[z6.out];go_wp2_with fail;refine(Cc F.cor).mono ?_;rintro e wa ⟨v2,rfl,ho,j⟩;obtain⟨xa,xc,rfl,-,-⟩:=(Rd.of_owns ho).form;have HO:=O (Rd.of_owns ho);clear ho;replace z:=kL z j;replace F:=O (F.keep0 j);replace o:=O (o.keep j fun _ _=>id);replace C:=O (C.keep j fun _ _=>id);clear j;go_wp2_with fail;refine((DI wa (.slice xa D xc) D (by omega) HO.out)).mono ?_;rintro e wb ⟨rfl,j⟩;replace z:=kL z j;replace F:=O (F.keep0 j);replace o:=O (o.keep j fun _ _=>id);replace C:=O (C.keep j fun _ _=>id);replace HO:=O (HO.keep j fun _ _=>id);clear j;clear HO;obtain⟨wc,zt,j,M,-⟩:=aV wb #[.func (.func 54) #[] #[],.func (.func 55) #[] #[],.func (.func 54) #[] #[]] 118;obtain⟨zb,qm⟩:=zX9 wb.heap.size
 rw[qm] at M;replace z:=lW z qm j M;have q5:=O qm;replace F:=O (F.keep0 j);replace o:=O (o.keep j fun _ _=>id);replace C:=O (C.keep j fun _ _=>id);clear j M qm;go_wp2_with fail;clear zt;rw[q5.out];have z2:=O z.keep;have xt:=O (z.b 2);have xu:=O (z.b 1);have zv:=O (z.b 0);have zw:=O (z.lt 2).2;have zy:Hid (m≠c/\lb≠c):=O ⟨fun e=>by (have E:=F.cor.mir;rw[fF,e,F.cor.cor.top] at E;cases E),fun e=>by (have E:=F.cor.liv;rw[e,F.cor.cor.top] at E;have G:=Option.some.inj E;injection G with h3 h4;exact absurd h4 (by decide))⟩;have HG:=O (And.intro (z.lt 2).1 (And.intro (z.lt 1).1 (z.lt 0).1));have xw:=F;have xf:=o;have qd:Hid (∀i,Q.ownBlock=some i->¬B i/\i≠b6/\w.heap.size≤i/\i<wc.heap.size):=O (fun i x=>⟨fun e=>by have E:=X.out i e;have G:=(qt i x).1;omega,fun e=>by have E:=(qt i x).2.1;have G:=zd.out;omega,(qt i x).1,by (obtain⟨cs,T,h⟩:=C.out i x;exact lt_of_block h)⟩);have z7:Hid (nw≤40000000000/\D*2≤16):=O (by have E:=z5.out;have G:=HT.out;omega);have x1:Hid (FA wc c a m lb pid cp (.pointer g) t B D Z Mm nw 0 wc):=O ⟨B,nw,Mm,F.cor,by omega,fun _ _ _=>rfl,fun i h=>.inl h,aA.refl _ _⟩;have Y:Hid (wc.heap.size ≥ w.heap.size):=O z2.size;clear z F o
 go_loopw [9,10,11,12,47] (fun _ _ _ _ i wr=>∃k:Nat,k≤3/\i=.int .i64 (k:Int)/\Hid (FA wc c a m lb pid cp (.pointer g) t B D Z Mm nw k wr)) (fun _ _ _ _ i _=>3-(intOf i).toNat)
 case atStart=>exact⟨0,by omega,rfl,x1⟩
 case round =>
  obtain⟨k,j,rfl,HC⟩:=hrel;obtain⟨B1,H,M1,xn,xo,xi,qw,qx⟩:=HC.out;have hD:2≤D/\D≤8:=⟨xm.1,xm.2.1⟩
  have zm:Hid (H≤50000000000):=O (by
   have E:=z7.out;have G:D*(k / 2)≤8*2:=Nat.mul_le_mul hD.2 (by omega);omega)
  have za:=O xo;have A:=O xn;have q9:=O xi;have R:=O qw;have qb:=O qx;have o:=O (xf.keep qx fun i x=>(qd i x).1);have vj:∀i,w.heap.size≤i->i<wc.heap.size->¬B i:=fun i x _ e=>by have E:=X.out i e;omega
  have xk:wr.heap[b8]?=some (.cells uc.toArray 45 (0,0)):=qx.blk xu.out fun e=>by have E:=X.out _ e;have G:=HG.out;omega
  have zi:wr.heap[zb]?=some (.cells #[.func (.func 54) #[] #[],.func (.func 55) #[] #[],.func (.func 54) #[] #[]] 118 (0,0)):=qx.blk zv.out fun e=>by have E:=X.out _ e;have G:=HG.out;omega
  have xj:wr.heap[b6]?=some (.cells #[.int .i64 0] 49 (0,0)):=qx.blk xt.out fun e=>by have E:=X.out _ e;have G:=HG.out;omega
  have qz:=O xk;have qo:=O zi;have xd:=O xj;have qf:Hid (¬B1 c/\¬B1 m/\¬B1 lb/\∀i,t.Own i->¬B1 i):=O ⟨fun e=>(qw c e).elim J.1 fun e=>by have E:=V.1;have G:=Y.out;omega,fun e=>(qw m e).elim J.2.1 fun e=>by have E:=V.2.1;have G:=Y.out;omega,fun e=>(qw lb e).elim J.2.2.1 fun e=>by have E:=V.2.2.1;have G:=Y.out;omega,fun i x e=>(qw i e).elim (J.2.2.2 i x).1 fun e=>by have E:=V.2.2.2.1 i x;have G:=Y.out;omega⟩;have xh:¬(D:Int)=0:=by omega
  have vf:((D:Int) == 0)=false:=by rw[beq_eq_false_iff_ne];exact xh
  have vg:decide ((D:Int)=0)=false:=decide_eq_false xh;clear xn xo xi qw qx xk zi xj HC;have x5:k=0\/k=1\/k=2\/k=3:=by omega
  rcases x5 with rfl|rfl|rfl|rfl
  ·have z:=lN wr
   have c1:wr.cell? ⟨zb,0,none⟩=some (.func (.func 54) #[] #[]):=(aD (i:=0) qo.out rfl)
   go_wp2_with ((with_reducible show WL _ _);refine wpList_load_mid rfl 45 (.tmp 8) rfl b8 0 rfl uc _ (aC qz.out) iX rfl (by rw[I];exact iY) ?_)
   clear c1;have qe:=O z.keep;refine((by rw[←qv.out];exact BK A.out qf.out zm.out Q u o.out:Ka wr (iG wr c a m lb pid cp (.pointer g) t B1 D Z (fun _=>M1) H 0))).mono ?_;rintro e wd ⟨rfl,B2,N,qh,qj,qg,qi⟩;have qy:Hid (FA wc c a m lb pid cp (.pointer g) t B D Z Mm nw 1 wd):=O ⟨B2,N,_,qh,(by have E:H≤nw+D*0:=za.out;have G:N≤H+0*D:=qj;show N≤nw+D*0;omega),fun d s hs=>q9.out d s hs,fun i x=>(qg i x).elim (R i) (fun e=>.inr (by have E:=qb.size;have G:=qe.size;omega)),qb.tT (qe.trans' qi (fun _ _ h=>h.elim) (fun _ _ h=>h)) (fun i x e=>(R i e).elim id (fun e=>by omega))⟩;clear z A o qh qj qg qi;go_wp2
   go_roundw
   case rel=>exact⟨1,by omega,by go_num,qy⟩
   case measure=>simp[intOf]
  ·have z:=lN wr
   have xe:Hid ((jQ u.txg).toNat≤4):=O (by unfold jQ;split<;>omega);have c1:wr.cell? ⟨zb,1,none⟩=some (.func (.func 55) #[] #[]):=(aD (i:=1) qo.out rfl)
   go_wp2_with ((with_reducible show WL _ _);refine wpList_load_mid rfl 45 (.tmp 8) rfl b8 0 rfl uc _ (aC qz.out) iX rfl (by rw[I];exact iY) ?_)
   clear c1;have qe:=O z.keep;refine((by rw[←qv.out];exact Jd A.out qf.out zm.out Q u o.out z6.out:Ka wr (iG wr c a m lb pid cp (.pointer g) t B1 D Z (wrM M1 (jQ u.txg).toNat (jP u)) H 1))).mono ?_;rintro e wd ⟨rfl,B2,N,qh,qj,qg,qi⟩;have qy:Hid (FA wc c a m lb pid cp (.pointer g) t B D Z Mm nw 2 wd):=O ⟨B2,N,_,qh,(by have E:H≤nw+D*0:=za.out;have G:N≤H+1*D:=qj;show N≤nw+D*1;omega),fun d s hs=>by rw[show _=M1 d s from Do M1 _ _ D d s (fun e=>by have E:=xe.out;omega)];exact q9.out d s hs,fun i x=>(qg i x).elim (R i) (fun e=>.inr (by have E:=qb.size;have G:=qe.size;omega)),qb.tT (qe.trans' qi (fun _ _ h=>h.elim) (fun _ _ h=>h)) (fun i x e=>(R i e).elim id (fun e=>by omega))⟩;clear z A o qh qj qg qi;go_wp2
   go_roundw
   case rel=>exact⟨2,by omega,by go_num,qy⟩
   case measure=>simp[intOf]
  ·have z:=lN wr
   have c1:wr.cell? ⟨zb,2,none⟩=some (.func (.func 54) #[] #[]):=(aD (i:=2) qo.out rfl)
   go_wp2_with ((with_reducible show WL _ _);refine wpList_load_mid rfl 45 (.tmp 8) rfl b8 0 rfl uc _ (aC qz.out) iX rfl (by rw[I];exact iY) ?_)
   clear c1;have qe:=O z.keep;refine((by rw[←qv.out];exact BK A.out qf.out zm.out Q u o.out:Ka wr (iG wr c a m lb pid cp (.pointer g) t B1 D Z (fun _=>M1) H 0))).mono ?_;rintro e wd ⟨rfl,B2,N,qh,qj,qg,qi⟩;have qy:Hid (FA wc c a m lb pid cp (.pointer g) t B D Z Mm nw 3 wd):=O ⟨B2,N,_,qh,(by have E:H≤nw+D*1:=za.out;have G:N≤H+0*D:=qj;show N≤nw+D*1;omega),fun d s hs=>q9.out d s hs,fun i x=>(qg i x).elim (R i) (fun e=>.inr (by have E:=qb.size;have G:=qe.size;omega)),qb.tT (qe.trans' qi (fun _ _ h=>h.elim) (fun _ _ h=>h)) (fun i x e=>(R i e).elim id (fun e=>by omega))⟩;clear z A o qh qj qg qi;go_wp2
   go_roundw
   case rel=>exact⟨3,by omega,by go_num,qy⟩
   case measure=>simp[intOf]
  ·have z:=lN wr
   go_wp2_with ((with_reducible show WL _ _);first
    | refine wpList_load_mid rfl 45 (.tmp 8) rfl b8 0 rfl uc _ (aC qz.out) iX rfl (by rw[I];exact iY) ?_
    | refine sta 45 (.tmp 77) (.tmp 75) c 39 uc A.cor.top (by rw[List.size_toArray,vD L.out (EU A.cor.lst),I];decide) (by rw[I];exact iY) z9.out ?_)
   intro w9 j M;have ze:Hid (dU wr 0 g b2 lc D Z Ls):=O (xw.led.keep qb.out fun i e h=>(K i h).1 e);rw[←qv.out,PZ a m pid L.out cp _ _ t Q u (jJ A.cor.lst.ub.root.sum A.cor.lst.ub.pool) (by rw[qv.out,I])] at M;have zs:∀i,Q.ownBlock=some i->i≠c:=fun i x e=>by have E:=(qd i x).2.2.1;have G:=V.1;omega
   have x3:Hid (∀i,Q.ownBlock=some i->¬B1 i):=O (fun i x e=>(R i e).elim (qd i x).1 fun e=>by have E:=(qd i x).2.2.2;omega);have qq:∀i,(⟨Q,u,t.ov,t.ol,t.vv,t.vl⟩:Lst).Own i->Q.ownBlock=some i\/t.Own i:=fun i h=>h.imp id fun h=>.inr h
   have zj:∀i,Q.ownBlock=some i->∃cs T,wr.heap[i]?=some (.cells cs T (0,0)):=fun i x=>by
    obtain⟨cs,T,h⟩:=C.out i x;exact⟨cs,T,qb.blk h (qd i x).1⟩
   have z3:Hid (nD w9 ⟨Q,u,t.ov,t.ol,t.vv,t.vl⟩):=O ⟨o.keep j zs,A.cor.lst.old.keep j fun i x e=>(J.2.2.2 i (.inr (.inl x))).2.1 e,A.cor.lst.live.keep j fun i x e=>(J.2.2.2 i (.inr (.inr x))).2.1 e,A.cor.lst.oads,A.cor.lst.lads,fun i x=>by
    rcases qq i x with h|h
    ·obtain⟨cs,T,G⟩:=zj i h
     exact⟨cs,T,j.blk G (zs i h)⟩
    ·obtain⟨cs,T,G⟩:=A.cor.lst.isc i h
     exact⟨cs,T,j.blk G (J.2.2.2 i h).2.1⟩,by rw[←zo.out];exact xb.out,A.cor.lst.few.2⟩
   have xy:Hid (∀i,(⟨Q,u,t.ov,t.ol,t.vv,t.vl⟩:Lst).Own i->¬B1 i/\i≠c/\i≠m/\i≠lb):=O (fun i x=>by
    rcases qq i x with h|h
    ·have E:=(qd i h).2.2.1;have G:=V.out
     exact⟨x3 i h,by omega,by omega,by omega⟩
    ·exact⟨qf.2.2.2 i h,(J.2.2.2 i h).2⟩)
   have zz:Hid (iN w9 c a m lb g b2 lc pid cp ⟨Q,u,t.ov,t.ol,t.vv,t.vl⟩ B1 D Z M1 H Ls):=O ⟨⟨⟨M,L.out,z3.out⟩,A.arr.keep j fun i e h=>qf.1 (e▸h),j.blk A.mir zy.1,j.blk A.liv zy.2,A.cpb,A.lab⟩,ze.keep j fun i e h=>(K i h).2.1 e,fun i h=>⟨fun e=>(R i e).elim (K i h).1 fun e=>by have E:=V.2.2.2.2 i h;have G:=Y.out;omega,(K i h).2.1,(K i h).2.2.1,(K i h).2.2.2.1,fun e=>(qq i e).elim (fun e=>by have E:=(qd i e).2.2.1;have G:=V.2.2.2.2 i h;omega) (K i h).2.2.2.2⟩,⟨qf.1,qf.2.1,qf.2.2.1,xy.out⟩,by
    have E:H≤nw+D*1:=za.out;have G:=z5.out;have h3:=HT.out;have h4:=hD;have h5:u.txg=t.u.txg+1:=by rw[←zo.out]
    show H+_≤40000+8*u.txg.toNat;omega⟩
   have z1:Hid (aA (fun k=>B k\/k=c) w w9):=O (z2.trans' (qb.trans' j (U:=fun k=>B k\/k=c) (fun _ _ h=>.inl h) fun _ _ h=>.inr h) (fun _ _ h=>h.elim) fun _ _ h=>h);have zh:Hid (w9.heap[b6]?=some (.cells #[.int .i64 0] 49 (0,0))):=O (j.blk xd.out fun e=>by have E:=HG.out;have G:=V.out;omega);clear j M zs qq zj A o ze z3 z qz qo xd
   go_wp2_with ((with_reducible show WL _ (.store 49 _ _));refine sta 49 (.tmp 6) (.const (.int .i64 0)) b6 0 [.int .i64 0] zh.out (by simp) (by kernel_rfl) (one9) ?_)
   intro wa j M;replace M:wa.heap[b6]?=some (.cells #[.int .i64 0] 49 (0,0)):=M;have zx:=O M
   have HP:Hid (zZ w c a m lb g b2 lc pid cp t B D Z Mm Ls p n (.returned (.int .i64 0)) wa):=O (by
    have vh:=HG.1;have hl:=V.out;have vi:=Y.out;refine⟨rfl,B1,H,Q,M1,q9.out,?_,fun i x=>(R i x).imp id fun h=>by omega,fun i x=>(qd i x).2.2.1,z1.tT j fun i x e=>by omega⟩;rw[zo.out];refine zz.keepT j ?_;rintro i rfl;have h6:=zw.out;refine⟨by omega,by omega,by omega,fun e=>(R _ e).elim (fun e=>by have E:=X.out _ e;omega) (fun e=>by omega),fun e=>by have E:=hl.2.2.2.2 _ e;omega,fun e=>?_⟩;rcases e with e|e
    ·exact(qd _ e).2.1 rfl
    ·have E:=hl.2.2.2.1 _ (.inr e)
     omega)
   clear j M zh zz z1;go_wp2_with fail;refine leaves_cons (f:=48) (args:=#[.pointer c,.pointer b6]) (by simp) (by simp[go_sem]) ?_;refine(oX wa c b6 0 _ zx.out (by decide)).mono ?_;rintro e u' x8 ⟨rfl,rfl,j⟩;have c7:x8.cell? ⟨b6,0,none⟩=some (.int .i64 0):=aD (i:=0) (j.blk zx.out id) rfl;refine⟨_,DH rfl _ _ _ ⟨b6,0,none⟩ (.int .i64 0) rfl (by go_simp),?_⟩;obtain⟨-,B3,x7,rv,M3,g1,g2,g3,g4,g5⟩:=HP.out;exact⟨rfl,B3,x7,rv,M3,g1,g2.keep0 j,g3,g4,g5.trans j.any⟩
def vZ(w:World)(c:Nat)(S:Kor)(B:Nat->Prop)(e:Ending)(w':World):Prop:=
 e=.returned (.int .i64 0)/\∃M' B',(∀d s,5≤s->M' d s=S.M d s)/\KI w' c ⟨S.D,S.Z,S.cp,S.L,M',S.txg+1⟩ B'/\(∀k,B' k->B k\/w.heap.size≤k)/\Cl w w' B B'/\aA B w w'
theorem KI.commit(J:KI w c S B)(C:S.txg+1<2147483648)(pv:Value)(p:Pt)(L:PtV w pv p)(o:p.addrs.length≤65536)(n:Int)(A:0≤n/\n≤16384)(M:p.hole=true\/(p.may=true/\p.level=3/\p.birth≤S.txg+1)):Calls prog 21 #[.pointer c,.agg (aF pv p).toArray,.int .i64 n] w (vZ w c S B):=by
 obtain⟨d,a,m,lb,g,y,E,pid,N,nw,t,j,z,rfl⟩:=J
 have K:Ub.may ⟨t.u.txg+1,p,n,pid⟩=true:=by
  have h0:=d.t0;unfold Ub.may;rw[j];simp only[Bool.and_eq_true,Bool.or_eq_true,decide_eq_true_eq,beq_iff_eq];refine⟨⟨⟨⟨by omega,by omega⟩,A.1⟩,A.2⟩,M.imp id fun h=>⟨⟨h.1,h.2.1⟩,h.2.2⟩⟩
 refine(Gm z (by rw[j];exact⟨d.t0,C⟩) pv p L o n K).mono ?_;rintro e w' ⟨rfl,B',x,rv,M',F,f,G,H,I⟩;have r:∀i,rv.ownBlock=some i->w.heap.size≤i:=H;refine⟨rfl,M',fun k=>k=c\/k=m\/k=lb\/B' k\/Own g y E S.D k\/(⟨rv,⟨t.u.txg+1,p,n,pid⟩,t.ov,t.ol,t.vv,t.vl⟩:Lst).Own k,F,⟨⟨d.d2,d.d8,d.z8,d.z4,d.c1,d.c3,d.cD,by show 0≤S.txg+1;have:=d.t0;omega,C⟩,a,m,lb,g,y,E,pid,B',x,_,by show t.u.txg+1=S.txg+1;rw[j],f,rfl⟩,?_,?_,I.mono fun k _ e=>?_⟩
 ·rintro k (e|e|e|e|e|e)
  ·exact .inl (.inl e)
  ·exact .inl (.inr (.inl e))
  ·exact .inl (.inr (.inr (.inl e)))
  ·exact(G k e).imp (fun h=>.inr (.inr (.inr (.inl h)))) id
  ·exact .inl (.inr (.inr (.inr (.inr (.inl e)))))
  ·rcases e with e|e
   ·exact .inr (r k e)
   ·exact .inl (.inr (.inr (.inr (.inr (.inr (.inr e))))))
 ·rintro k (rfl|rfl|rfl|e|e|e)
  ·exact .inl ⟨_,_,f.cor.cor.top⟩
  ·exact .inl ⟨_,_,f.cor.mir⟩
  ·exact .inl ⟨_,_,f.cor.liv⟩
  ·exact .inl (f.cor.arr.isC e)
  ·exact(z.led.isC f.led e).imp id fun h=>⟨.inr (.inr (.inr (.inr (.inl e)))),h⟩
  ·exact .inl (f.cor.cor.lst.isc k e)
 ·rcases e with e|rfl
  ·exact .inr (.inr (.inr (.inl e)))
  ·exact .inl rfl
theorem O4(v d:Value)(u:Ub):spl (cW v u).toArray 1 [d]=(cW d u).toArray:=by
 have h:=jA [.int .i64 u.txg] [v] [d] (.int .i64 u.root.birth::.int .i64 u.root.level::(u.root.sum.map vb++(.int .i64 u.len::u.pool.map vb))) rfl
 simpa [cW,aF] using h
theorem FB{P:Program}{f:TypeId}(h:fn.results=#[.cell p f])(tmps:Array Value)(w:World)(g:Nat)(t:TypeId)(e:Array Value)(fr:Nat×Nat)(d:TypeDesc)
 (j:tmps.getD p undef=.pointer g) (r:w.heap[g]?=some (.cells e t fr)) (y:P.underlying f=some d) (o:(match d with|.struct _|.array _ _=>true|_=>false)=true) (x:(P.info? f).map (·.size)=some e.size):(results fn tmps).run P w=.ok (.agg e) w:=by
 simp only[Array.getD_eq_getD_getElem?] at j;simp[results,h,j,asAddr,run_loadVar_row w g t f e fr d r y o x]
def G6(w:World)(S:Kor)(e:Ending)(w':World):Prop:=∃v u,e=.returned (.agg (cW v u).toArray)/\u.txg=S.txg/\aA aB w w'
theorem KI.uber(hK:KI w c S B):Calls prog 22 #[.pointer c] w (G6 w S):=by
 obtain⟨r,a,m,lb,g,X,lc,pid,BA,nw,t,qa,C,rfl⟩:=hK;have V:=O qa;have z:=O C.cor.cor;have Q:=O (show t.u.root.addrs.length≤65536 from C.cor.cor.lst.few.1);have h:=jJ (v:=t.rv) C.cor.cor.lst.ub.root.sum C.cor.cor.lst.ub.pool;have E:=pB C.cor.cor.lst.ub;obtain⟨uc,o⟩:=zX9 (cW t.rv t.u)
 have G:=O o;have U:Hid (∀y∈uc,y.oneCell'=true):=O (by rw[←o];exact E);rw[o] at h;have A:Hid (t.u.root.sum.length=32/\t.u.pool.length=32):=O ⟨C.cor.cor.lst.ub.root.sum,C.cor.cor.lst.ub.pool⟩;have H:=O C.cor.cor.lst.ub.root.ads;have f:=lN w;clear C E o r;go_in
 go_wp2_with ((with_reducible show WL _ _);refine alL f 45 (.agg yJ.toArray) (yJ.toArray) Nu ?_)
 intro X w1 d f;replace z:=O (z.keep0 d);clear d;go_wp2_with fail;refine(sD z.out).mono ?_;rintro e w2 ⟨rfl,d⟩;replace f:=kL f d;replace z:=O (z.keep0 d);clear d
 go_wp2_with ((with_reducible show WL _ _);first
  | refine wpList_load_mid rfl 45 (.tmp 9) rfl c 39 rfl uc _ (by rw[←G.out];exact z.ub_) iX rfl (by rw[h];exact iY) ?_
  | refine al 45 (.agg yJ.toArray) (yJ.toArray) Nu ?_)
 intro M w3 J K F
 go_wp2_with ((with_reducible show WL _ _);refine sta 45 (.tmp 3) (.tmp 10) M 0 uc F (by first|decide|(rw[List.size_toArray,h];exact Nat.le_refl _)|simp[h,oP]) (by rw[h];exact iY) U.out ?_)
 intro w4 d r;rw[aI _ _ (by first|rfl|(rw[List.size_toArray,h];rfl)|simp[h,oP])] at r;replace d:=tX K d (fun i hi e=>by omega);replace f:=lW f J d r;replace z:=O (z.keep0 d);clear J d r K F;have c1:w4.cell? ⟨M,1,none⟩=some (t.rv):=(aD (i:=1) (f.b 0) (by rw[←G.out];rfl))
 go_wp2_with fail;clear c1;refine((lT w4 t.rv t.u.root.addrs z.lst.ub.root.rd Q.out)).mono ?_;rintro e w5 ⟨v1,rfl,Y,d⟩;obtain⟨va,vc,rfl,-,-⟩:=(Rd.of_owns Y).form;have I:Hid (∀y∈cW (.slice va t.u.root.addrs.length vc) t.u,y.oneCell'=true):=O (pB ⟨⟨Rd.of_owns Y,H.out,A.1⟩,A.2⟩);clear Y;replace f:=kL f d;replace z:=O (z.keep0 d);clear d
 go_wp2_with ((with_reducible show WL _ _);refine sta 23 (.tmp 16) (.tmp 14) M 1 [.slice va t.u.root.addrs.length vc] (f.b 0) (by rw[List.size_toArray,h];simp) (by kernel_rfl) (one9) ?_)
 intro wx d r;rw[←G.out,O4] at r;replace f:=O (f.set 0 d r);obtain⟨L,j⟩:=zX9 (cW (.slice va t.u.root.addrs.length vc) t.u)
 have W:=O j;have x:L.length=69:=by rw[←j];exact jJ A.1 A.2
 have R:Hid (∀y∈L,y.oneCell'=true):=O (by rw[←j];exact I.out);rw[j] at f;clear d r j z
 go_wp2_with ((with_reducible show WL _ _);first
  | refine wpList_load_mid rfl 45 (.tmp 3) rfl M 0 rfl L _ (aC (f.b 0)) iX rfl (by rw[x];exact iY) ?_
  | refine sta 45 (.tmp 2) (.tmp 17) X 0 L (f.b 1) (by first|decide|(rw[x];exact Nat.le_refl _)|simp[x,oP]) (by rw[x];exact iY) R.out ?_)
 intro wv d r;rw[aI _ _ (by first|rfl|simp[x,oP])] at r;replace f:=O (f.set 1 d r);clear d r;have N:=O (f.b 1);have HP:Hid (G6 w S (.returned (.agg L.toArray)) wv):=O ⟨_,_,by rw[←W.out],V.out,f.keep⟩;clear f;go_wp2_with fail;refine bodyPost_ret (FB rfl _ _ X _ _ _ _ rfl N.out iX rfl (by rw[List.size_toArray,x];exact iY)) rfl ?_;exact HP.out
section
variable {B0:Nat->Prop}{w0 w w':World}{c:Nat}{S T:Kor}{B B':Nat->Prop}{rs:List (Value×Pt)}{l:List (Nat×Array Value×TypeId)}
theorem Cs.turned(h:Cs B0 w0 c S B rs w l)(j:KI w' c T B')(d:∀k,B' k->B k\/w.heap.size≤k)(k:aA B w w'):Cs B0 w0 c T B' rs w' l:=by
 refine⟨h.loc.turn2 k (fun _ e=>.inl e) (fun i g e=>(h.bb i e).elim id fun e=>by omega) ?_,j,fun r f=>(h.pv r f).keep k d,fun i e=>(d i e).elim (h.bb i) fun e=>.inr (Nat.le_trans h.keep.size e)⟩;rintro i g (e|⟨r,f,e⟩)
 ·exact(d i e).elim .inl fun e=>by omega
 ·exact .inr ⟨r,f,e⟩
theorem Cs.begin(h:Loc aB aB w0 w l)(j:KI w' c S B)(g:∀k,B k->w.heap.size≤k)(k:aA aB w w'):Cs aB w0 c S B [] w' l:=by
 refine⟨⟨h.keep.trans k,h.ge,h.nd,fun x f=>k.blk (h.at_ x f) id,fun x f e=>?_⟩,j,(fun r d=>by cases d),fun i e=>.inr (Nat.le_trans h.keep.size (g i e))⟩;rcases e with e|⟨r,d,-⟩
 ·have o:=g _ e;have y:=lt_of_block (h.at_ x f);omega
 ·cases d
end
variable{M':Nat->Nat->List UInt8}{t u s:Tr}{P:Program}{p:Pt}{v:Value}{k i n b c base:Nat}{w:World}{tc:Nat->Bool}{bl':Nat->UInt8}{B:Nat->Prop}{m:List Int}{qs:List (Value×Pt)}
theorem Kor.com_ext{S:Kor}(h:∀d s,5≤s->M' d s=S.M d s):Ext S ⟨S.D,S.Z,S.cp,S.L,M',S.txg+1⟩:=
 ⟨rfl,rfl,rfl,by show S.txg≤S.txg+1;omega,fun _ h=>h,fun a _ e=>by
  obtain⟨-,-,f,-⟩:=e;exact h _ _ (by omega)⟩
theorem Kor.com_room{S:Kor}{N:Nat}(h:S.room N)(x:Int):Kor.room ⟨S.D,S.Z,S.cp,S.L,M',x⟩ N:=h
theorem Tr.Ok.comm{S:Kor}(h:Tr.Ok S 3 t):t.ptr.hole=true\/(t.ptr.may=true/\t.ptr.level=3/\t.ptr.birth≤S.txg+1):=by
 cases d:t.isHole with
 | true=>left;rw[h.hole_eq];exact d
 | false=>right;have:=h.top d;exact⟨h.may3,this.1,this.2.2⟩
theorem FC{fn:Func}{p q u v:Tmp}{o r:TypeId}(h:fn.results=#[.tmp u,.cell p o,.cell q r,.tmp v])(tmps:Array Value)(w:World)(g x:Nat)(t G:TypeId)(j e:Array Value)(fr f:Nat×Nat)(d d2:TypeDesc)
 (E:tmps.getD p undef=.pointer g) (F:tmps.getD q undef=.pointer x) (I:w.heap[g]?=some (.cells j t fr)) (z:w.heap[x]?=some (.cells e G f)) (K:P.underlying o=some d) (H:(match d with|.struct _|.array _ _=>true|_=>false)=true) (J:(P.info? o).map (·.size)=some j.size)
 (C:P.underlying r=some d2) (y:(match d2 with|.struct _|.array _ _=>true|_=>false)=true) (A:(P.info? r).map (·.size)=some e.size):(results fn tmps).run P w=.ok (.tuple #[tmps.getD u undef,.agg j,.agg e,tmps.getD v undef]) w:=by
 simp only[Array.getD_eq_getD_getElem?] at E F ⊢;simp[results,h,E,F,asAddr,Sem.run_bind,Result.andThen,run_loadVar_row w g t o j fr d I K H J,run_loadVar_row w x G r e f d2 z C y A]
def G7(w:World)(e:Ending)(w':World):Prop:=∃c g h d f S B,e=.returned (.tuple #[.pointer (some ⟨c,0,none⟩),.agg (aF g d.ptr).toArray,.agg (aF h f.ptr).toArray,.bool true])/\KI w' c S B/\Tr.Ok S 3 d/\Tr.Ok S 3 f/\(eT 3 d).Nodup/\aX w' B g d.ptr/\aX w' B h f.ptr/\Nq d f/\(∀k,B k->w.heap.size≤k)/\aA aB w w'
theorem Lp(w:World):Calls prog 28 #[] w (G7 w):=by
 have ql:(aF (.slice none 0 0) zPt).length=35:=rfl;have q5:=kT;obtain⟨zp,qm⟩:=zX9 (aF (.slice none 0 0) zPt)
 have zd:Hid (∀u∈zp,u.oneCell'=true):=O (by rw[←qm];exact cK zPt);have qo:=O qm;rw[qm] at ql q5;have zh:=O q5;clear qm q5;have d:=lN w;go_in
 go_wp2_with ((with_reducible show WL _ _);refine alL d 27 (.agg aH.toArray) (aH.toArray) bA ?_)
 intro b1 w1 j d;clear j
 go_wp2_with ((with_reducible show WL _ _);refine alL d 27 (.agg aH.toArray) (aH.toArray) bA ?_)
 intro b2 w2 j d;clear j
 go_wp2_with ((with_reducible show WL _ _);first
  | refine bld 27 #[] [] (.agg zp.toArray) zh.out ?_
  | refine al 27 (.agg aH.toArray) (aH.toArray) bA ?_)
 intro b4 w3 zk zl qx
 go_wp2_with ((with_reducible show WL _ _);first
  | refine bld 27 #[] [] (.agg zp.toArray) zh.out ?_
  | refine sta 27 (.tmp 4) (.tmp 11) b4 0 zp qx (by first|decide|(rw[List.size_toArray,ql];exact Nat.le_refl _)|simp[ql,aE]) (szP9 ql) zd.out ?_)
 intro w4 j hb;rw[aI _ _ (by first|rfl|(rw[List.size_toArray,ql];rfl)|simp[ql,aE])] at hb;replace j:=tX zl j (fun i hi e=>by omega);replace d:=lW d zk j hb;clear zk j hb zl qx;go_wp2_with fail;refine((Bw w4 40 (by omega))).mono ?_;rintro e w5 ⟨c,M,B,rfl,o,hB,j⟩;replace d:=O (Cs.begin d.out o hB j);clear o hB j;obtain⟨G,S1,qt,zm,zv⟩:=Bq (t:=.hole) (n:=5) (b:=sec 1) (N:=31) (Kor.room_new 40 M 0) (pT (b:=0) (by decide)) (by rw[Tr.blk_hole];exact pT (a:=0) (by decide));have q0:=d.ki.bd;have qw:=Cm q0 (Tr.ok_hole _ 3) (by omega) (gW 1) qt;have zo:=(qw.2 G rfl).1;have zn:=nG.set nG.hole (qw.2 G rfl).2;have qz:=O zo;have qg:=O qt;have zf:=O zn;have q9:=O q0;have ze:=O qw.1;have zr:=O zm;clear qt zm zv qw zo zn q0;go_wp2_with fail;apply xY (R:=fun(b6:Nat) (qc:Option Addr) (qd:Nat) (F:List Value) w'=>Hid (∃r B1,aF r G.ptr=F/\Cs aB w c S1 B1 [(r,G.ptr)] w' ((b6,F.toArray,27)::[(b4,zp.toArray,27),(b2,aH.toArray,27),(b1,aH.toArray,27)])))
 case h =>
  refine sJ B d (by kernel_rfl) ?_;intro w6 SW qj f qr d;clear qr;have K:=d;refine tna 0 (.pointer c) rfl (sD9 f d) ?_;refine tnd 1 (.agg zp.toArray) rfl (ldD 27 (.tmp 4) b4 0 zp _ (fun w' h=>aC (K.own (qj w' h) 0)) aG (szP9 ql)) (sD9 f d) ?_;refine fY (k:=2) (l:=7) rfl rfl (by kernel_rfl) ?_ ?_
  ·go_wp2_with fail
   refine(rL w6 1).mono ?_;rintro e w7 ⟨v_,rfl,ho,j⟩;obtain⟨qc,qd,rfl,-,-⟩:=(Rd.of_owns ho).form;have Y:=O ho;have z:=O (tY ho (fun i e=>d.ki.lt e));replace d:=O (d.keeps j);clear ho j;go_wp2_with fail;refine⟨f _ d.dr,?_⟩;refine fY (k:=3) (l:=7) rfl rfl (by kernel_rfl) ?_ ?_
   ·go_wp2_with fail
    have U:=d.keep.size;refine((by rw[←qo.out];have h:=mJ d.ki (.slice none 0 0) .hole (Tr.ok_hole _ 3) (aX.hole _ _) 5 (by omega) (.slice qc 256 qd) (sec 1) (gW 1) (Rd.of_owns Y.out) z.out;rw[qg.out] at h;exact h:Ka w7 (bI w7 c B (.slice none 0 0) (some G) S1))).mono ?_;rintro e w8 ⟨r,B1,rfl,g,o,x,-,y,j⟩;replace g:aX w8 B1 r G.ptr:=g;rw[show eS (some G)=G.ptr from rfl,show fG (some G)=0 from rfl];replace d:=O (d.laid (fun _ _ e=>e) g o x (oZ y) j);obtain⟨F,E,C,L⟩:=nmP g;rw[E.out];clear U g o x y j Y z;go_wp2_with fail;refine⟨f _ d.dr,?_⟩;refine tna 4 (.tuple #[.agg F.toArray,.int .i64 0]) rfl (sD9 f d) ?_;refine tnb 5 (.agg F.toArray) rfl (sD9 f d) ?_;refine tnb 6 (.int .i64 0) rfl (sD9 f d) ?_;refine wA9 7 ?_;refine alD d f 27 (.agg aH.toArray) (aH.toArray) bA ?_;intro b6 w9 qp j d;clear j;refine wA9 8 ?_;refine stD d f 0 rfl 27 (.tmp 6) (.tmp 22) F (.inl qp) (by first|rfl|simp[C,aE]) (szP9 C) L.out ?_;intro wa d;refine tna 9 (.int .i64 0) rfl (sD9 f d) ?_;refine wpAnyH_done (by kernel_rfl) ?_ _;refine noP ?_;exact⟨rfl,b6,qc,qd,F,rfl,O ⟨r,B1,E.out,d.toCs⟩⟩
   ·refine alD d f 27 (.agg aH.toArray) (aH.toArray) bA ?_
    intro b6 w8 qp j d;replace Y:=O (j.owns Y.out fun _ _=>id);replace z:=O (fun i hi=>And.intro (z i hi).1 (Nat.lt_of_lt_of_le (z i hi).2 (j).size));clear j;refine wA9 3 ?_;go_wp2_with fail;have U:=d.keep.size;refine((by rw[←qo.out];have h:=mJ d.ki (.slice none 0 0) .hole (Tr.ok_hole _ 3) (aX.hole _ _) 5 (by omega) (.slice qc 256 qd) (sec 1) (gW 1) (Rd.of_owns Y.out) z.out;rw[qg.out] at h;exact h:Ka w8 (bI w8 c B (.slice none 0 0) (some G) S1))).mono ?_;rintro e w9 ⟨r,B1,rfl,g,o,x,-,y,j⟩;replace g:aX w9 B1 r G.ptr:=g;rw[show eS (some G)=G.ptr from rfl,show fG (some G)=0 from rfl];replace d:=O (d.laid (fun _ _ e=>e) g o x (oZ y) j);obtain⟨F,E,C,L⟩:=nmP g;rw[E.out];clear U g o x y j Y z;go_wp2_with fail;refine⟨f _ d.dr,?_⟩;refine tna 4 (.tuple #[.agg F.toArray,.int .i64 0]) rfl (sD9 f d) ?_;refine tnb 5 (.agg F.toArray) rfl (sD9 f d) ?_;refine tnb 6 (.int .i64 0) rfl (sD9 f d) ?_;refine wA9 8 ?_;refine stD d f 0 rfl 27 (.tmp 6) (.tmp 22) F (.inl qp) (by first|rfl|simp[C,aE]) (szP9 C) L.out ?_;intro wa d;refine tna 9 (.int .i64 0) rfl (sD9 f d) ?_;refine wpAnyH_done (by kernel_rfl) ?_ _;refine noP ?_;exact⟨rfl,b6,qc,qd,F,rfl,O ⟨r,B1,E.out,d.toCs⟩⟩
  ·refine alD d f 27 (.agg aH.toArray) (aH.toArray) bA ?_
   intro b6 w7 qp j d;clear j;refine wA9 2 ?_;go_wp2_with fail;refine(rL w7 1).mono ?_;rintro e w8 ⟨v_,rfl,ho,j⟩;obtain⟨qc,qd,rfl,-,-⟩:=(Rd.of_owns ho).form;have Y:=O ho;have z:=O (tY ho (fun i e=>d.ki.lt e));replace d:=O (d.keeps j);clear ho j;go_wp2_with fail;refine⟨f _ d.dr,?_⟩;refine wA9 3 ?_;go_wp2_with fail;have U:=d.keep.size;refine((by rw[←qo.out];have h:=mJ d.ki (.slice none 0 0) .hole (Tr.ok_hole _ 3) (aX.hole _ _) 5 (by omega) (.slice qc 256 qd) (sec 1) (gW 1) (Rd.of_owns Y.out) z.out;rw[qg.out] at h;exact h:Ka w8 (bI w8 c B (.slice none 0 0) (some G) S1))).mono ?_;rintro e w9 ⟨r,B1,rfl,g,o,x,-,y,j⟩;replace g:aX w9 B1 r G.ptr:=g;rw[show eS (some G)=G.ptr from rfl,show fG (some G)=0 from rfl];replace d:=O (d.laid (fun _ _ e=>e) g o x (oZ y) j);obtain⟨F,E,C,L⟩:=nmP g;rw[E.out];clear U g o x y j Y z;go_wp2_with fail;refine⟨f _ d.dr,?_⟩;refine tna 4 (.tuple #[.agg F.toArray,.int .i64 0]) rfl (sD9 f d) ?_;refine tnb 5 (.agg F.toArray) rfl (sD9 f d) ?_;refine tnb 6 (.int .i64 0) rfl (sD9 f d) ?_;refine wA9 8 ?_;refine stD d f 0 rfl 27 (.tmp 6) (.tmp 22) F (.inl qp) (by first|rfl|simp[C,aE]) (szP9 C) L.out ?_;intro wa d;refine tna 9 (.int .i64 0) rfl (sD9 f d) ?_;refine wpAnyH_done (by kernel_rfl) ?_ _;refine noP ?_;exact⟨rfl,b6,qc,qd,F,rfl,O ⟨r,B1,E.out,d.toCs⟩⟩
 case hR =>
  rintro b6 qc qd F wb HF;obtain⟨r,B1,qb,hl⟩:=HF.out;have d:=O hl;have E:=O qb;have C:F.length=35:=by rw[←qb];exact aJ (d.pv0 0).pt.sum
  have L:Hid (∀u∈F,u.oneCell'=true):=O (by rw[←qb];exact aN (d.pv0 0).pt);clear qb hl HF
  go_wp2_with ((with_reducible show WL _ _);refine wpList_load_mid rfl 27 (.tmp 6) rfl b6 0 rfl F _ (aC (d.b 0)) aG rfl (szP9 C) ?_)
  refine((by rw[←E.out];exact KI.commit d.ki (by rw[ze.txg];show (0:Int)+1<2147483648;decide) r G.ptr (d.pv0 0).pt qz.few 0 (by decide) qz.comm:Ka wb (vZ wb c S1 B1))).mono ?_;rintro e wc ⟨rfl,M2,B2,zi,qh,qy,-,j⟩;have q3:=Kor.com_ext zi;have q1:=Kor.com_room (M':=M2) zr.out (S1.txg+1);have qv:(⟨S1.D,S1.Z,S1.cp,S1.L,M2,S1.txg+1⟩:Kor).txg=1:=by show S1.txg+1=1;rw[ze.txg];rfl
  obtain⟨S2,zj⟩:=zX9 ((⟨S1.D,S1.Z,S1.cp,S1.L,M2,S1.txg+1⟩:Kor))
  rw[zj] at qh q3 q1 qv;replace d:=O (d.turned qh qy j);have qi:=qz.ext q3;obtain⟨W,S3,qk,zu,zw⟩:=Bq (t:=G) (n:=6) (b:=sec 1) (N:=27) q1 (pT (b:=0) (by decide)) (by rw[zf.out 6 (by omega)];exact pT (a:=0) (by decide));have qu:=Cm qh.bd qi (by omega) (gW 1) qk;have qn:=O qi;have X:=O qk;have zt:=O (qu.2 W rfl).1;have zg:=O (qi.ext qu.1.ext)
  have zs:Hid (Nq G W):=O (by
   have h1:=qg.out;have h2:=X.out;unfold oJ at h1 h2;rw[if_neg (by rw[Tr.blk_hole];exact pT (a:=0) (by decide))] at h1;rw[if_neg (by rw[zf.out 6 (by omega)];exact pT (a:=0) (by decide))] at h2;exact QG q9.out qh.bd rfl qv rfl (gW 1) (pT (b:=0) (by decide)) h1 qi h2)
  have zq:Hid ((eT 3 G).Nodup):=O (by
   have h1:=qg.out;unfold oJ at h1;rw[if_neg (by rw[Tr.blk_hole];exact pT (a:=0) (by decide))] at h1;exact(yC (gW 1) 5 (by omega) q9.out (eZ.hole _ 3) h1).1.apart)
  clear q3 q1 qv zj qi qk zu zw qu qh qy zi j;go_wp2_with fail;apply xY (R:=fun(b9:Nat) (qe:Option Addr) (qf:Nat) (J:List Value) w'=>Hid (∃I B3,aF I W.ptr=J/\Cs aB w c S3 B3 [(I,W.ptr),(r,G.ptr)] w' ((b9,J.toArray,27)::[(b6,F.toArray,27),(b4,zp.toArray,27),(b2,aH.toArray,27),(b1,aH.toArray,27)])))
  case h =>
   refine sJ B2 d (by kernel_rfl) ?_;intro wd SW qj f qr d;clear qr;have K:=d;refine tna 0 (.pointer c) rfl (sD9 f d) ?_;refine tnd 1 (.agg F.toArray) rfl (ldD 27 (.tmp 6) b6 0 F _ (fun w' h=>aC (K.own (qj w' h) 0)) aG (szP9 C)) (sD9 f d) ?_;refine fY (k:=2) (l:=7) rfl rfl (by kernel_rfl) ?_ ?_
   ·go_wp2_with fail
    refine(rL wd 1).mono ?_;rintro e we ⟨v_,rfl,ho,j⟩;obtain⟨qe,qf,rfl,-,-⟩:=(Rd.of_owns ho).form;have qa:=O ho;have A:=O (tY ho (fun i e=>d.ki.lt e));replace d:=O (d.keeps j);clear ho j;go_wp2_with fail;refine⟨f _ d.dr,?_⟩;refine fY (k:=3) (l:=7) rfl rfl (by kernel_rfl) ?_ ?_
    ·go_wp2_with fail
     have U:=d.keep.size;refine((by rw[←E.out];have h:=mJ d.ki r G qn.out (d.pv0 0) 6 (by omega) (.slice qe 256 qf) (sec 1) (gW 1) (Rd.of_owns qa.out) A.out;rw[X.out] at h;exact h:Ka we (bI we c B2 (.slice none 0 0) (some W) S3))).mono ?_;rintro e wf ⟨I,B3,rfl,g,o,x,-,y,j⟩;replace g:aX wf B3 I W.ptr:=g;rw[show eS (some W)=W.ptr from rfl,show fG (some W)=0 from rfl];replace d:=O (d.laid (fun _ _ e=>e) g o x (oZ y) j);obtain⟨J,V,H,Q⟩:=nmP g;rw[V.out];clear U g o x y j qa A;go_wp2_with fail;refine⟨f _ d.dr,?_⟩;refine tna 4 (.tuple #[.agg J.toArray,.int .i64 0]) rfl (sD9 f d) ?_;refine tnb 5 (.agg J.toArray) rfl (sD9 f d) ?_;refine tnb 6 (.int .i64 0) rfl (sD9 f d) ?_;refine wA9 7 ?_;refine alD d f 27 (.agg aH.toArray) (aH.toArray) bA ?_;intro b9 wg qq j d;clear j;refine wA9 8 ?_;refine stD d f 0 rfl 27 (.tmp 9) (.tmp 32) J (.inl qq) (by first|rfl|simp[H,aE]) (szP9 H) Q.out ?_;intro wh d;refine tna 9 (.int .i64 0) rfl (sD9 f d) ?_;refine wpAnyH_done (by kernel_rfl) ?_ _;refine noP ?_;exact⟨rfl,b9,qe,qf,J,rfl,O ⟨I,B3,V.out,d.toCs⟩⟩
    ·refine alD d f 27 (.agg aH.toArray) (aH.toArray) bA ?_
     intro b9 wf qq j d;replace qa:=O (j.owns qa.out fun _ _=>id);replace A:=O (fun i hi=>And.intro (A i hi).1 (Nat.lt_of_lt_of_le (A i hi).2 (j).size));clear j;refine wA9 3 ?_;go_wp2_with fail;have U:=d.keep.size;refine((by rw[←E.out];have h:=mJ d.ki r G qn.out (d.pv0 0) 6 (by omega) (.slice qe 256 qf) (sec 1) (gW 1) (Rd.of_owns qa.out) A.out;rw[X.out] at h;exact h:Ka wf (bI wf c B2 (.slice none 0 0) (some W) S3))).mono ?_;rintro e wg ⟨I,B3,rfl,g,o,x,-,y,j⟩;replace g:aX wg B3 I W.ptr:=g;rw[show eS (some W)=W.ptr from rfl,show fG (some W)=0 from rfl];replace d:=O (d.laid (fun _ _ e=>e) g o x (oZ y) j);obtain⟨J,V,H,Q⟩:=nmP g;rw[V.out];clear U g o x y j qa A;go_wp2_with fail;refine⟨f _ d.dr,?_⟩;refine tna 4 (.tuple #[.agg J.toArray,.int .i64 0]) rfl (sD9 f d) ?_;refine tnb 5 (.agg J.toArray) rfl (sD9 f d) ?_;refine tnb 6 (.int .i64 0) rfl (sD9 f d) ?_;refine wA9 8 ?_;refine stD d f 0 rfl 27 (.tmp 9) (.tmp 32) J (.inl qq) (by first|rfl|simp[H,aE]) (szP9 H) Q.out ?_;intro wh d;refine tna 9 (.int .i64 0) rfl (sD9 f d) ?_;refine wpAnyH_done (by kernel_rfl) ?_ _;refine noP ?_;exact⟨rfl,b9,qe,qf,J,rfl,O ⟨I,B3,V.out,d.toCs⟩⟩
   ·refine alD d f 27 (.agg aH.toArray) (aH.toArray) bA ?_
    intro b9 we qq j d;clear j;refine wA9 2 ?_;go_wp2_with fail;refine(rL we 1).mono ?_;rintro e wf ⟨v_,rfl,ho,j⟩;obtain⟨qe,qf,rfl,-,-⟩:=(Rd.of_owns ho).form;have qa:=O ho;have A:=O (tY ho (fun i e=>d.ki.lt e));replace d:=O (d.keeps j);clear ho j;go_wp2_with fail;refine⟨f _ d.dr,?_⟩;refine wA9 3 ?_;go_wp2_with fail;have U:=d.keep.size;refine((by rw[←E.out];have h:=mJ d.ki r G qn.out (d.pv0 0) 6 (by omega) (.slice qe 256 qf) (sec 1) (gW 1) (Rd.of_owns qa.out) A.out;rw[X.out] at h;exact h:Ka wf (bI wf c B2 (.slice none 0 0) (some W) S3))).mono ?_;rintro e wg ⟨I,B3,rfl,g,o,x,-,y,j⟩;replace g:aX wg B3 I W.ptr:=g;rw[show eS (some W)=W.ptr from rfl,show fG (some W)=0 from rfl];replace d:=O (d.laid (fun _ _ e=>e) g o x (oZ y) j);obtain⟨J,V,H,Q⟩:=nmP g;rw[V.out];clear U g o x y j qa A;go_wp2_with fail;refine⟨f _ d.dr,?_⟩;refine tna 4 (.tuple #[.agg J.toArray,.int .i64 0]) rfl (sD9 f d) ?_;refine tnb 5 (.agg J.toArray) rfl (sD9 f d) ?_;refine tnb 6 (.int .i64 0) rfl (sD9 f d) ?_;refine wA9 8 ?_;refine stD d f 0 rfl 27 (.tmp 9) (.tmp 32) J (.inl qq) (by first|rfl|simp[H,aE]) (szP9 H) Q.out ?_;intro wh d;refine tna 9 (.int .i64 0) rfl (sD9 f d) ?_;refine wpAnyH_done (by kernel_rfl) ?_ _;refine noP ?_;exact⟨rfl,b9,qe,qf,J,rfl,O ⟨I,B3,V.out,d.toCs⟩⟩
  case hR =>
   rintro b9 qe qf J wi HF;obtain⟨I,B3,qb,hl⟩:=HF.out;have d:=O hl;have V:=O qb;have H:J.length=35:=by rw[←qb];exact aJ (d.pv0 0).pt.sum
   have Q:Hid (∀u∈J,u.oneCell'=true):=O (by rw[←qb];exact aN (d.pv0 0).pt);clear qb hl HF;go_wp2_with fail;refine sJ (fun k=>k=b1\/k=b2) d (by kernel_rfl) ?_;intro wj SW qj f qr d;clear qr;have K:=d;refine tna 0 (.pointer c) rfl (sD9 f d) ?_;refine tnd 1 (.agg F.toArray) rfl (ldD 27 (.tmp 6) b6 0 F _ (fun w' h=>aC ((qj w' h).blk (K.b 1) (by rintro (e|e);exact(K.toCs.ne 4 1) e;exact(K.toCs.ne 3 1) e))) aG (szP9 C)) (sD9 f d) ?_;refine tnd 2 (.agg J.toArray) rfl (ldD 27 (.tmp 9) b9 0 J _ (fun w' h=>aC ((qj w' h).blk (K.b 0) (by rintro (e|e);exact(K.toCs.ne 4 0) e;exact(K.toCs.ne 3 0) e))) aG (szP9 H)) (sD9 f d) ?_;refine tna 3 (.int .i64 0) rfl (sD9 f d) ?_;refine tnb 4 (.bool true) rfl (sD9 f d) ?_;refine tna 5 (.bool true) rfl (sD9 f d) ?_;refine tna 6 (.int .i64 0) rfl (sD9 f d) ?_;refine tnb 7 (.bool true) rfl (sD9 f d) ?_;refine tna 8 (.bool true) rfl (sD9 f d) ?_;refine tna 9 (.bool true) rfl (sD9 f d) ?_;refine tna 10 (.int .i64 0) rfl (sD9 f d) ?_;refine tnb 11 (.bool true) rfl (sD9 f d) ?_;refine tna 12 (.bool true) rfl (sD9 f d) ?_;refine tna 13 (.pointer c) rfl (sD9 f d) ?_;refine wA9 14 ?_;refine stD d f 4 rfl 27 (.tmp 1) (.tmp 35) F (.inr (.inl rfl)) (by first|rfl|simp[C,aE]) (szP9 C) L.out ?_;intro wk d;refine wA9 15 ?_;refine stD d f 3 rfl 27 (.tmp 2) (.tmp 36) J (.inr (.inr rfl)) (by first|rfl|simp[H,aE]) (szP9 H) Q.out ?_;intro wl d;refine tna 16 (.bool true) rfl (sD9 f d) ?_;refine wpAnyH_done (by kernel_rfl) ?_ _;refine noP ?_;have za:=O (d.b 4);have zb:=O (d.b 3);have HP:Hid (G7 w (.returned (.tuple #[.pointer c,.agg F.toArray,.agg J.toArray,.bool true])) wl):=O ⟨c,r,I,G,W,S3,B3,by rw[E.out,V.out],d.ki,zg.out,zt.out,zq.out,d.pv0 1,d.pv0 0,zs.out,fun k e=>(d.bb k e).elim False.elim id,d.keep⟩;clear d K qj f;go_wp2_with fail;refine bodyPost_ret (FC rfl _ _ b1 b2 _ _ _ _ _ _ _ _ rfl rfl za.out zb.out aG rfl (by rw[List.size_toArray,C];exact cC) aG rfl (by rw[List.size_toArray,H];exact cC)) rfl ?_;exact HP.out
structure GrV where
 e:EdV
 com:Bool
def kZ(x:GrV):List Value:=[.int .i64 x.e.n,.int .i64 x.e.many,.bool x.e.cut,.bool x.com,vb x.e.b]
def yY(l:List GrV):List Value:=l.flatMap kZ
def GrV.up(x:GrV):Nat:=if x.e.cut then x.e.up else x.e.fr+1
def GrV.to(x:GrV):UInt8:=if x.e.cut then 0 else x.e.b
def gA(bl:Nat->UInt8)(f g:Nat)(b:UInt8):Nat->UInt8:=fun i=>if f≤i/\i<g then b else bl i
def gB(tc:Nat->Bool)(f g:Nat):Nat->Bool:=fun i=>if f≤i/\i<g then true else tc i
theorem GrV.bl(x:GrV)(bl:Nat->UInt8):gA bl x.e.fr x.up x.to=edB x.e bl:=by
 funext i
 unfold gA edB GrV.up GrV.to;cases x.e.cut with
 | true=>rfl
 | false =>
   show (if x.e.fr≤i/\i<x.e.fr+1 then x.e.b else bl i)=if i=x.e.fr then x.e.b else bl i
   by_cases e:i=x.e.fr
   ·rw[if_pos (by omega),if_pos e]
   ·rw[if_neg (by omega),if_neg e]
theorem GrV.frUp(x:GrV):x.e.fr≤x.up/\x.up≤64:=by
 have d:=x.e.frUp;have e:=x.e.frLt;unfold GrV.up;split<;>omega
theorem Lq(bl:Nat->UInt8)(f:Nat)(b:UInt8):gA bl f f b=bl:=by
 funext i;unfold gA;rw[if_neg (by omega)]
theorem Lr(tc:Nat->Bool)(f:Nat):gB tc f f=tc:=by
 funext i;unfold gB;rw[if_neg (by omega)]
theorem Jg(bl:Nat->UInt8)(f:Nat)(b:UInt8)(d:f≤k):vL (gA bl f k b) k b=gA bl f (k+1) b:=by
 funext i
 unfold vL gA
 by_cases e:i=k
 ·subst e;rw[if_pos rfl,if_pos ⟨d,by omega⟩]
 ·rw[if_neg e]
  by_cases h:f≤i/\i<k
  ·rw[if_pos h,if_pos ⟨h.1,by omega⟩]
  ·rw[if_neg h,if_neg (by omega)]
def sM(tc:Nat->Bool)(n:Nat):Nat->Bool:=fun i=>if i=n then true else tc i
theorem Jh(tc:Nat->Bool)(f:Nat)(d:f≤k):sM (gB tc f k) k=gB tc f (k+1):=by
 funext i
 unfold sM gB
 by_cases e:i=k
 ·subst e;rw[if_pos rfl,if_pos ⟨d,by omega⟩]
 ·rw[if_neg e]
  by_cases h:f≤i/\i<k
  ·rw[if_pos h,if_pos ⟨h.1,by omega⟩]
  ·rw[if_neg h,if_neg (by omega)]
def tcC(tc:Nat->Bool):List Value:=(List.range 64).map fun i=>.bool (tc i)
theorem oQ(tc:Nat->Bool):(tcC tc).length=64:=by unfold tcC;simp
theorem G8(tc:Nat->Bool)(h:i<64):(tcC tc)[i]?=some (.bool (tc i)):=by
 unfold tcC;rw[List.getElem?_map,List.getElem?_range h];rfl
theorem Cq(tc:Nat->Bool):∀u∈tcC tc,u.oneCell'=true:=by
 intro u d;unfold tcC at d;obtain⟨i,-,rfl⟩:=List.mem_map.1 d;rfl
theorem G9(tc:Nat->Bool)(j:n<64):(tcC tc).set n (.bool true)=tcC (sM tc n):=by
 refine List.ext_getElem (by rw[List.length_set,oQ,oQ]) fun i d g=>?_
 rw[List.getElem_set];have q:∀f h,(tcC f)[i]'h=Value.bool (f i):=fun f h=>by simp[tcC]
 rw[q,q];unfold sM
 by_cases e:n=i
 ·rw[if_pos e,if_pos e.symm]
 ·rw[if_neg e,if_neg (fun h=>e h.symm)]
theorem O5(bl:Nat->UInt8)(d:n<64)(b:UInt8):(blC bl).set n (vb b)=blC (vL bl n b):=by
 have:=OR bl d b;rw[show spl (blC bl).toArray n [vb b]=(blC bl).toArray.setIfInBounds n (vb b) from rfl,List.setIfInBounds_toArray] at this;exact congrArg Array.toList this
def dN(v:Value)(p:Pt)(bl:Nat->UInt8)(tc:Nat->Bool):List Value:=aF v p++(blC bl++tcC tc)
theorem mM(h:p.sum.length=32)(bl:Nat->UInt8)(tc:Nat->Bool):(dN v p bl tc).length=163:=by
 unfold dN;rw[List.length_append,List.length_append,aJ h,jZ,oQ]
theorem AO(h:PtV w v p)(bl:Nat->UInt8)(tc:Nat->Bool):∀u∈dN v p bl tc,u.oneCell'=true:=by
 intro u d;rcases List.mem_append.1 d with d|d
 ·exact aN h u d
 ·rcases List.mem_append.1 d with d|d
  ·exact OQ bl u d
  ·exact Cq tc u d
theorem Qs(h:p.sum.length=32)(bl:Nat->UInt8)(tc:Nat->Bool)(d:n<64)(b:UInt8):spl (dN v p bl tc).toArray (35+n) [vb b]=(dN v p (vL bl n b) tc).toArray:=by
 show (dN v p bl tc).toArray.setIfInBounds (35+n) (vb b)=_;rw[List.setIfInBounds_toArray]
 congr 1
 unfold dN;rw[List.set_append_right (35+n) _ (by rw[aJ h];omega),aJ h,List.set_append_left (35+n-35) _ (by rw[jZ];omega),show 35+n-35=n by omega,O5 bl d]
theorem Qt(h:p.sum.length=32)(bl:Nat->UInt8)(tc:Nat->Bool)(d:n<64):spl (dN v p bl tc).toArray (99+n) [.bool true]=(dN v p bl (sM tc n)).toArray:=by
 show (dN v p bl tc).toArray.setIfInBounds (99+n) (.bool true)=_;rw[List.setIfInBounds_toArray]
 congr 1
 unfold dN;rw[List.set_append_right (99+n) _ (by rw[aJ h];omega),aJ h,List.set_append_right (99+n-35) _ (by rw[jZ];omega),jZ,show 99+n-35-64=n by omega,G9 tc d]
theorem Qu{e:Value}{d:Pt}(h:p.sum.length=32)(f:d.sum.length=32)(bl:Nat->UInt8)(tc:Nat->Bool):spl (dN v p bl tc).toArray 0 (aF e d)=(dN e d bl tc).toArray:=by
 unfold dN;exact jA [] (aF v p) (aF e d) _ (by rw[aJ h,aJ f])
structure Wel(S:Kor)(t:Tr)(bl:Nat->UInt8):Prop where
 bd:S.Bd
 kept:eZ S 3 t
 blks:nG t bl
 cps:∀p∈eP 3 t,p.addrs.length=S.cp
theorem Wel.ext{S T:Kor}{bl:Nat->UInt8}(h:Wel S t bl)(e:Ext S T)(d:T.Bd):Wel T t bl:=⟨d,h.kept.ext e,h.blks,fun p f=>by rw[e.cp];exact h.cps p f⟩
theorem Wel.hole{S:Kor}(e:S.Bd):Wel S .hole fun _=>0:=⟨e,eZ.hole S 3,nG.hole,fun p d=>by rw[yB] at d;cases d⟩
structure Was(S:Kor)(s:Tr)(T:Kor)(t:Tr)(tc:Nat->Bool):Prop where
 ext:Ext S T
 since:dW S 3 s t
 leaf:∀i,i<64->tc i=false->eD 3 t i=eD 3 s i
theorem Was.refl(S:Kor)(s:Tr):Was S s S s fun _=>false:=⟨Ext.refl S,dW.refl S 3 s,fun _ _ _=>rfl⟩
theorem Was.to{S T U:Kor}(h:Was S s T t tc)(e:Ext T U):Was S s U t tc:=⟨h.ext.trans e,h.since,h.leaf⟩
theorem Lt{S:Kor}{bl:Nat->UInt8}(h:Wel S t bl){x:GrV}{T:Kor}(d:edR S t x.e=(some u,T)):Wel T u (edB x.e bl)/\dW S 3 t u/\∀i,i<64->¬(x.e.fr≤i/\i<x.up)->eD 3 u i=eD 3 t i:=by
 have h0:=Br h.bd h.kept.ok h.blks d;obtain⟨E,A⟩:=h0.2 u rfl
 have key:eZ T 3 u/\dW S 3 t u/\∀i,i<64->¬(x.e.fr≤i/\i<x.up)->eD 3 u i=eD 3 t i:=by
  unfold edR at d;unfold GrV.up;cases y:x.e.cut with
  | true =>
    rw[y] at d;have d:cF 3 S t (x.e.fr:Int) (x.e.up:Int)=(some u,T):=d;obtain⟨o,r⟩:=Di (Nat.le_refl 3) h.bd h.kept d;refine⟨o,r,fun i j f=>BG d ?_⟩;have f:¬(x.e.fr≤i/\i<x.e.up):=f;rw[show (4:Nat) ^ 3=64 from rfl,Nat.mod_eq_of_lt j];omega
  | false =>
    rw[y] at d;have d:oJ S t x.e.fr (sec x.e.b)=(some u,T):=d;unfold oJ at d
    by_cases c:t.blk 3 x.e.fr=sec x.e.b
    ·rw[if_pos c] at d
     injection d with g z
     injection g with g
     subst g z;exact⟨h.kept,dW.refl _ _ _,fun _ _ _=>rfl⟩
    ·rw[if_neg c] at d
     obtain⟨o,r⟩:=yC (gW x.e.b) x.e.fr (Nat.le_refl 3) h.bd h.kept d;refine⟨o,r,fun i j f=>BE d ?_⟩;have f:¬(x.e.fr≤i/\i<x.e.fr+1):=f;have:=x.e.frLt;rw[show (4:Nat) ^ 3=64 from rfl,Nat.mod_eq_of_lt j,Nat.mod_eq_of_lt this];omega
 refine⟨⟨h0.1.bd,key.1,A,fun p C=>?_⟩,key.2⟩;rw[h0.1.ext.cp];exact(key.2.1 p C).elim (h.cps p) fun e=>e.1
theorem Was.ed{f:Kor}{S:Kor}{bl:Nat->UInt8}(e:Was f s S t tc)(h:Wel S t bl){x:GrV}{T:Kor}(g:edR S t x.e=(some u,T)):Was f s T u (gB tc x.e.fr x.up):=by
 obtain⟨y,o,r⟩:=Lt h g;have h0:=Br h.bd h.kept.ok h.blks g;refine⟨e.ext.trans h0.1.ext,e.since.trans e.ext o,fun i j d=>?_⟩;unfold gB at d
 by_cases c:x.e.fr≤i/\i<x.up
 ·rw[if_pos c] at d;cases d
 ·rw[if_neg c] at d
  exact(r i j c).trans (e.leaf i j d)
def Kor.com(S:Kor)(M':Nat->Nat->List UInt8):Kor:=⟨S.D,S.Z,S.cp,S.L,M',S.txg+1⟩
theorem P0{S:Kor}(d:S.Bd)(h:S.txg+1<2147483648)(M':Nat->Nat->List UInt8):(S.com M').Bd:=⟨d.d2,d.d8,d.z8,d.z4,d.c1,d.c3,d.cD,by have:=d.t0;show 0≤S.txg+1;omega,h⟩
structure wA(S:Kor)(t:Tr)(bl:Nat->UInt8)(tc:Nat->Bool)(T:Kor)(u:Tr)(bl':Nat->UInt8)(tc':Nat->Bool):Prop where
 wel:Wel T u bl'
 ext:Ext S T
 txg:T.txg≤S.txg+1
 was:∀S0 s,Was S0 s S t tc->Was S0 s T u tc'
theorem Lu{S:Kor}{bl:Nat->UInt8}(tc:Nat->Bool)(h:Wel S t bl){x:GrV}{T:Kor}(d:edR S t x.e=(none,T)):wA S t bl tc T t bl tc:=by
 have h0:=(Br h.bd h.kept.ok h.blks d).1;exact⟨h.ext h0.ext h0.bd,h0.ext,by rw[h0.txg];omega,fun _ _ e=>e.to h0.ext⟩
theorem O6{S:Kor}{bl:Nat->UInt8}(tc:Nat->Bool)(h:Wel S t bl){x:GrV}{T:Kor}(d:edR S t x.e=(some u,T)):wA S t bl tc T u (edB x.e bl) (gB tc x.e.fr x.up):=by
 have h0:=(Br h.bd h.kept.ok h.blks d).1;exact⟨(Lt h d).1,h0.ext,by rw[h0.txg];omega,fun _ _ e=>e.ed h d⟩
theorem Ny{S:Kor}{bl:Nat->UInt8}{T:Kor}{f:Nat->Bool}(h:wA S t bl tc T u bl' f)(g:T.txg=S.txg)(r:S.txg+1<2147483648)(j:∀d s,5≤s->M' d s=T.M d s):wA S t bl tc (T.com M') u bl' f:=by
 have e:Ext T (T.com M'):=Kor.com_ext j;exact⟨h.wel.ext e (P0 h.wel.bd (by rw[g];exact r) M'),h.ext.trans e,by show T.txg+1≤_;rw[g];omega,fun _ _ o=>(h.was _ _ o).to e⟩
theorem Wel.newer{S:Kor}{bl:Nat->UInt8}(h:Wel S t bl)(x:Int):(thr (aZ x) 3 t 0).map (·.1)=(eP 3 t).filter (aZ x):=by
 rw[yA x h.kept.ok h.kept.aged];unfold eP;rw[List.filter_map];rfl
theorem Was.fresh{S T:Kor}(h:Was S s T t tc)(A:Tr.Ok S 3 s)(z:∀p∈eP 3 s,p.birth≤S.txg){a:Ad}(j:a∈eT 3 s)(g:p∈(thr (aZ S.txg) 3 t 0).map (·.1))(y:Tr.Ok T 3 t)(r:pY 3 t):a ∉ p.addrs:=fun o=>by
 rw[yA S.txg y r] at g;obtain⟨x,e,rfl⟩:=List.mem_map.1 g;obtain⟨e,f⟩:=List.mem_filter.1 e;have f:S.txg<x.1.birth:=of_decide_eq_true f;rcases h.since x.1 (List.mem_map.2 ⟨x,e,rfl⟩) with d|d
 ·have:=z _ d;omega
 ·exact d.2 a o (Cn A a j)
theorem O7{S:Kor}(h:Tr.Ok S 3 s)(j:pY 3 s):∀p∈eP 3 s,p.birth≤S.txg+1:=fun p f=>by
 unfold eP at f;obtain⟨x,d,rfl⟩:=List.mem_map.1 f;have g:=pY.le h j d;cases e:s.isHole with
 | true=>rw[fD e,vQ] at d;cases d
 | false=>exact Int.le_trans g (h.born e).2.1
theorem Was.unl{S T:Kor}(h:Was S s T t tc){x:Nat}(f:x∈unl 3 s t 0):x<64/\tc x=true:=by
 have d:x<4 ^ 3:=BD f;refine⟨d,?_⟩;cases e:tc x with
 | true=>rfl
 | false=>exact absurd (h.leaf x d e).symm (Fj f)
theorem Wel.told{S:Kor}{bl:Nat->UInt8}(h:Wel S s bl)(f:Wel S t bl')(d:i<64)(g:bl i≠bl' i):i∈unl 3 s t 0:=by
 refine Fk h.kept.ok f.kept.ok d fun e=>g ?_
 rw[h.blks i d,f.blks i d] at e;exact GV e
theorem Gn{d:Array Oper}{Q:Exit->Act->World->Prop}{rest:List Oper}{o:Oper}{a:Act}(f:Region.wanted o (yielded d a.tmps)=true)(h:wpList P d Q ({ o with guard:=none }::rest) a w):wpList P d Q (o::rest) a w:=by
 unfold wpList at h ⊢;rw[if_pos f];rw[if_pos (by simp[Region.wanted])] at h;exact h
theorem NJ:prog.underlying 66=some (.struct (prog.fieldsOf 66)):=by kernel_rfl
theorem Lv:(prog.info? 66).map (·.size)=some 5:=by kernel_rfl
theorem lA:prog.underlying 62=some (.struct (prog.fieldsOf 62)):=by kernel_rfl
theorem dY:(prog.info? 62).map (·.size)=some 163:=by kernel_rfl
def zgw:List Value:=dN (.slice none 0 0) zPt (fun _=>0) fun _=>false
theorem kB:zgw.length=163:=mM rfl _ _
theorem AP:Hid (∀w,(zeroValue 62).run prog w=.ok (.agg zgw.toArray) w):=O (by intro w;kernel_rfl)
theorem nJ(h:PtV w v p)(bl:Nat->UInt8)(tc:Nat->Bool):∃l,Hid (dN v p bl tc=l)/\l.length=163/\Hid (∀u∈l,u.oneCell'=true):=⟨_,O rfl,mM h.sum bl tc,O (AO h bl tc)⟩
theorem jB{T:TypeId}{fr:Nat×Nat}{bl:Nat->UInt8}{d:List Value}(f:w.heap[b]?=some (.cells d.toArray T fr))(h:dN v p bl tc=d):w.rangeAt b 0 (aF v p):=fun j u e=>by
 refine aD f ?_;rw[←h,List.getElem?_toArray,Nat.zero_add];unfold dN;rw[List.getElem?_append_left (List.getElem?_eq_some_iff.1 e).1];exact e
def lB(w:World)(c:Nat)(B:Nat->Prop)(S:Kor)(t:Tr)(bl:Nat->UInt8)(tc:Nat->Bool)(f:Value)(e:Ending)(w':World):Prop:=
 ∃v B' T u bl' d,e=.returned (.tuple #[.agg (dN v u.ptr bl' d).toArray,.bool true])/\wA S t bl tc T u bl' d/\aX w' B' v u.ptr/\KI w' c T B'/\(∀k,B' k->B k\/w.heap.size≤k)/\(v=f\/dQ w v)/\aA B w w'
theorem wB{S:Kor}(hK:KI w c S B)(hs:S.txg+1<2147483648)(pv:Value)(t:Tr)(bl:Nat->UInt8)(hw:Wel S t bl)(hp:aX w B pv t.ptr)(tc:Nat->Bool)(x:GrV)(hx:(-9223372036854775808≤x.e.n/\x.e.n≤9223372036854775807)/\(-9223372036854775808≤x.e.many/\x.e.many≤9223372036854775807)):Calls prog 20 #[.pointer c,.agg (dN pv t.ptr bl tc).toArray,.agg (kZ x).toArray] w (lB w c B S t bl tc pv):=by
 have HT:=O hw.kept.ok;have x3:=O hw;have HS:=O hs;have d:=O (Cs.start1 hK hp);obtain⟨gc,qj,qe,zi⟩:=nJ hp.pt bl tc;have q9:=O x.e.frLt;have za:=O x.e.frInt;have qw:=O x.e.upInt;have qr:=O x.e.frUp;have HN:=O hx;have xp:(kZ x).length=5:=rfl;obtain⟨xn,zf⟩:=zX9 x.e.n
 obtain⟨xm,ze⟩:=zX9 x.e.many
 obtain⟨xb,qx⟩:=zX9 x.e.b
 obtain⟨xc,qh⟩:=zX9 x.e.cut
 obtain⟨xo,zs⟩:=zX9 x.com
 obtain⟨f,hf⟩:=zX9 x.e.fr
 obtain⟨g,hg⟩:=zX9 x.e.up
 obtain⟨z,hz⟩:=zX9 x.up
 have h0:(kZ x).toArray[0]?=some (.int .i64 xn):=by rw[←zf];rfl
 have h1:(kZ x).toArray[1]?=some (.int .i64 xm):=by rw[←ze];rfl
 have h2:(kZ x).toArray[2]?=some (.bool xc):=by rw[←qh];rfl
 have h3:(kZ x).toArray[3]?=some (.bool xo):=by rw[←zs];rfl
 have h4:(kZ x).toArray[4]?=some (vb xb):=by rw[←qx];rfl
 obtain⟨rr,qg⟩:=zX9 (edR S t x.e)
 obtain⟨r,T⟩:=rr;have qu:Hid (xc=false->oJ S t f (sec xb)=(r,T)):=O (fun e=>by rw[←qg];unfold edR;rw[qh,e,hf,qx];rfl);have qv:Hid (xc=true->cF 3 S t (f:Int) (g:Int)=(r,T)):=O (fun e=>by rw[←qg];unfold edR;rw[qh,e,hf,hg];rfl);have qk:Hid (xc=false->f+1=z/\x.to=xb):=O (fun e=>by rw[←hz];unfold GrV.up GrV.to;rw[qh,e,hf,qx];exact⟨rfl,rfl⟩);have ql:Hid (xc=true->g=z/\x.to=0):=O (fun e=>by rw[←hz];unfold GrV.up GrV.to;rw[qh,e,hg];exact⟨rfl,rfl⟩);have zk:=O x.frUp;rw[hf,hz] at zk;have xh:Hid (r=none->wA S t bl tc T t bl tc):=O (fun e=>Lu tc hw (by rw[qg,e]));have L:Hid (∀u,r=some u->wA S t bl tc T u (gA bl f z x.to) (gB tc f z)):=O (fun u e=>by rw[←hf,←hz,x.bl];exact O6 tc hw (by rw[qg,e]));have zj:Hid (T.txg=S.txg):=O ((Br hw.bd hw.kept.ok hw.blks qg).1.txg);obtain⟨H,zt⟩:=zX9 x.to
 rw[zt] at qk ql L;have xk:Hid (∀u∈kZ x,u.oneCell'=true):=O (by intro u hu;simp only[kZ,List.mem_cons,List.not_mem_nil,or_false] at hu;rcases hu with rfl|rfl|rfl|rfl|rfl<;>rfl);rw[hf] at q9 za qw qr;rw[hg] at qw qr;rw[zf] at za HN;rw[ze] at qw HN;obtain⟨ec,qn⟩:=zX9 (kZ x)
 rw[qn] at xp h0 h1 h2 h3 h4 xk;rw[qn,qj.out];have H0:=O h0;have H1:=O h1;have H2:=O h2;have H3:=O h3;have H4:=O h4;have x0:((f:Nat):Int)<64:=by have:=q9.out;omega
 have qd:=O hp.pt.sum;clear qn zf ze qx qh zs hf hg hz h0 h1 h2 h3 h4 qg hx hw zt hs;obtain⟨pc,qt,zr,x2⟩:=nmP hp;clear hp hK;go_in
 go_wp2_with ((with_reducible show WL _ _);refine bx 62 (.tmp 1) (gc.toArray) ?_)
 intro V w1 J A E;replace d:=O (d.new (trivial) J A E);clear J A E
 go_wp2_with ((with_reducible show WL _ _);refine bx 66 (.tmp 2) (ec.toArray) ?_)
 intro U w2 J A E;replace d:=O (d.new (trivial) J A E);clear J A E
 go_wp2_with ((with_reducible show WL _ _);refine al 62 (.agg zgw.toArray) (zgw.toArray) AP ?_)
 intro b6 w3 J A E;replace d:=O (d.new (trivial) J A E);clear J A E;have c1:w3.cell? ⟨U,0,none⟩=some (.int .i64 xn):=(aD (i:=0) (d.b 1) H0.out)
 go_wp2_with fail;clear c1;refine(Eu w3 xn 64 (by omega) (by omega) HN.1.1 HN.1.2).mono ?_;rintro e w4 ⟨rfl,rfl⟩;rw[za.out];have c1:w3.cell? ⟨U,4,none⟩=some (vb xb):=(aD (i:=4) (d.b 1) H4.out)
 go_wp2_with ((with_reducible show WL _ _);refine al 27 (.agg aH.toArray) (aH.toArray) bA ?_)
 clear c1;intro Q w5 J A E;replace d:=O (d.new (trivial) J A E);clear J A E;refine wpList_nil ?_;rename_i K4 xl;refine xl _ _ ?_;refine wp_seq_k fun K5 zm=>?_
 have zg:=O zm;clear zm;go_wp2_with fail;refine zg.out _ _ ?_;refine wp_seq_k fun K6 zn=>?_
 have xi:=O zn;clear zn zg;refine E1 [9,10,12,21,22,23,24,25,26,27,28,29,30,31,32,33,34,35,36,37,38,39,40,41,42,43,44,45,46,47] (fun vs w'=>∃q j0 j1 j2 j3 j4 j5 j6 j7 j8 j9 zu zv zw zx zy zz z0 z1 z2 z3 z5 z6 z7 z9 xa xd xe,vs=[.int .i64 q,vb H,.int .i64 (fG r),j0,j1,j2,j3,j4,j5,j6,j7,j8,j9,zu,zv,zw,zx,zy,zz,z0,z1,z2,z3,z5,z6,z7,z9,xa,xd,xe]/\q=(z:Int)/\Hid (∃C Y F,aF C (eS r)=F/\Cs B w c T Y [(C,eS r),(pv,t.ptr)] w' [(Q,F.toArray,27),(b6,zgw.toArray,62),(U,ec.toArray,66),(V,gc.toArray,62)]/\dQ w C)) ?_ ?_
 ·cases xc with
  | false =>
    have HR:=O (qu.out rfl);obtain⟨qq,zd⟩:=qk.out rfl;subst zd;have zb:=O qq;clear qu qv qk ql qq;have c1:w5.cell? ⟨U,2,none⟩=some (.bool false):=(aD (i:=2) (d.b 2) H2.out)
    go_wp2_with fail;clear c1;refine sJ (fun k=>B k\/k=Q) d (by kernel_rfl) ?_;intro w6 SW I j qo d;clear qo;have o:=d;refine tna 0 (.pointer c) rfl (sD9 j d) ?_;refine tnb 1 (.pointer V) rfl (sD9 j d) ?_;refine tnd 2 (.agg pc.toArray) rfl (ldD 27 (.tmp 40) V 0 pc _ (fun w' h=>(qt.out▸jB ((I w' h).blk (o.b 3) (by rintro (e|e);exact (o.loc.aq 3) (.inl e);exact o.ne 0 3 (by decide) rfl rfl e)) qj.out)) aG (szP9 zr)) (sD9 j d) ?_;refine tna 3 (.int .i64 (f:Int)) rfl (sD9 j d) ?_;refine tna 4 (vb H) rfl (sD9 j d) ?_;refine wA9 5 ?_;go_wp2_with fail;refine(rL w6 H).mono ?_;rintro e w7 ⟨v_,rfl,ho,A⟩;obtain⟨xf,xg,rfl,-,-⟩:=(Rd.of_owns ho).form;have zl:=O ho;have qz:=O (tY ho (fun i e=>d.ki.lt e));replace d:=O (d.keeps A);clear ho A;go_wp2_with fail;refine⟨j _ d.dr,?_⟩;refine wA9 6 ?_;go_wp2_with fail;have qp:=d.keep.size;refine((by rw[←qt.out];have h:=mJ d.ki pv t HT.out (d.pv0 0) f q9.out (.slice xf 256 xg) (sec H) (gW H) (Rd.of_owns zl.out) qz.out;rw[HR.out] at h;exact h:Ka w7 (bI w7 c B (.slice none 0 0) r T))).mono ?_;rintro e w8 ⟨C,Y,rfl,X,qf,qm,-,W,A⟩;have K:Hid (dQ w C):=O ((oZ W).from qp);replace d:=O (d.laid (fun _ _ e=>.inl e) X qf qm (oZ W) A);obtain⟨F,N,G,M⟩:=nmP X;rw[N.out];clear qp X qf qm W A zl qz;go_wp2_with fail;refine⟨j _ d.dr,?_⟩;refine tna 7 (.tuple #[.agg F.toArray,.int .i64 (fG r)]) rfl (sD9 j d) ?_;refine tnb 8 (.agg F.toArray) rfl (sD9 j d) ?_;refine tnb 9 (.int .i64 (fG r)) rfl (sD9 j d) ?_;refine wA9 10 ?_;refine stD d j 0 rfl 27 (.tmp 11) (.tmp 46) F (.inr (.inr rfl)) (by first|rfl|simp[G,aE]) (szP9 G) M.out ?_;intro w9 d;refine tna 11 (.int .i64 (fG r)) rfl (sD9 j d) ?_;refine wpAnyH_done (by kernel_rfl) ?_ _;refine noP ?_;replace d:=O d.toCs;clear o I j;exact⟨rfl,[.int .i64 ((f:Int)+1),vb H,.int .i64 (fG r),.pointer (some ⟨U,2,none⟩),.bool false,undef,undef,undef,undef,undef,undef,undef,undef,undef,undef,undef,undef,undef,undef,undef,.tuple #[.agg F.toArray,.int .i64 (fG r)],.pointer c,.pointer V,.agg pc.toArray,.int .i64 (f:Int),vb H,.slice xf 256 xg,.tuple #[.agg F.toArray,.int .i64 (fG r)],.agg F.toArray,.int .i64 (fG r)],(by simp only[nF,Act.put,List.setIfInBounds_toArray,List.set_cons_zero,List.set_cons_succ]),_,_,_,_,_,_,_,_,_,_,_,_,_,_,_,_,_,_,_,_,_,_,_,_,_,_,_,_,rfl,(by have:=zb.out;omega),O ⟨C,Y,F,N.out,d.out,K.out⟩⟩
  | true =>
    have HR:=O (qv.out rfl);obtain⟨qq,zd⟩:=ql.out rfl;subst zd;have zb:=O qq;clear qu qv qk ql qq;have xv:=Int.emod_nonneg xm (show (65:Int)≠0 by omega);have xw:=Int.emod_lt_of_pos xm (show (0:Int)<65 by omega);have xx:=qw.out;have c1:w5.cell? ⟨U,2,none⟩=some (.bool true):=(aD (i:=2) (d.b 2) H2.out)
    have c2:w5.cell? ⟨U,1,none⟩=some (.int .i64 xm):=(aD (i:=1) (d.b 2) H1.out)
    go_wp2_with fail;clear c1 c2;refine(Eu w5 xm 65 (by omega) (by omega) HN.2.1 HN.2.2).mono ?_;rintro e wa ⟨rfl,rfl⟩
    go_wp2_with ((with_reducible show WL _ _);refine wpList_load_mid rfl 27 (.tmp 31) rfl V 0 rfl pc _ (qt.out▸jB (d.b 3) qj.out) aG rfl (szP9 zr) ?_)
    have qp:=d.keep.size;clear xv xw xx;refine((by rw[←qt.out];have h:=Nh d.ki pv t HT.out (d.pv0 0) f g qr.1 qr.2;rw[HR.out] at h;exact h:Ka w5 (bI w5 c B (.slice none 0 0) r T))).mono ?_;rintro e wb ⟨C,Y,rfl,X,qf,qm,-,W,A⟩;have K:Hid (dQ w C):=O ((oZ W).from qp);replace d:=O (d.laid X qf qm (oZ W) A);obtain⟨F,N,G,M⟩:=nmP X;rw[N.out];clear qp X qf qm W A
    go_wp2_with ((with_reducible show WL _ _);refine sta 27 (.tmp 11) (.tmp 36) Q 0 F (d.b 0) (by first|decide|(rw[G];exact Nat.le_refl _)|simp[G,aE]) (szP9 G) M.out ?_)
    intro wc A E;rw[aI _ _ (by first|rfl|simp[G,aE])] at E;replace d:=O (d.set 0 A E);clear A E;go_wp2_with fail;exact⟨rfl,[.int .i64 (g:Int),.int .u8 0,.int .i64 (fG r),.pointer (some ⟨U,2,none⟩),.bool true,.int .i64 (f:Int),.pointer (some ⟨U,1,none⟩),.int .i64 xm,.int .i64 (xm % 65),.int .i64 ((f:Int)+xm % 65),.int .i64 (g:Int),.tuple #[.agg F.toArray,.int .i64 (fG r)],.pointer c,.pointer V,.agg pc.toArray,.int .i64 (f:Int),.int .i64 (g:Int),.tuple #[.agg F.toArray,.int .i64 (fG r)],.agg F.toArray,.int .i64 (fG r),undef,undef,undef,undef,undef,undef,undef,undef,undef,undef],(by simp only[nF,Act.put,List.setIfInBounds_toArray,List.set_cons_zero,List.set_cons_succ]),_,_,_,_,_,_,_,_,_,_,_,_,_,_,_,_,_,_,_,_,_,_,_,_,_,_,_,_,rfl,(by have:=zb.out;omega),O ⟨C,Y,F,N.out,d.out,K.out⟩⟩
 ·rintro _ wd ⟨q,j0,j1,j2,j3,j4,j5,j6,j7,j8,j9,zu,zv,zw,zx,zy,zz,z0,z1,z2,z3,z5,z6,z7,z9,xa,xd,xe,rfl,rfl,HF⟩
  obtain⟨C,Y,F,qc,zq,q3⟩:=HF.out;replace d:=O zq;have N:=O qc;have K:=O q3;have G:F.length=35:=by rw[←qc];exact aJ (d.pv0 0).pt.sum
  have M:Hid (∀u∈F,u.oneCell'=true):=O (by rw[←qc];exact aN (d.pv0 0).pt);clear qc zq q3 HF qu qv qk ql;refine xi.out _ _ ?_;simp only[nF,Act.put,List.setIfInBounds_toArray,List.set_cons_zero,List.set_cons_succ];cases r with
  | none =>
    rw[show fG none=15 from rfl]
    go_wp2_with ((with_reducible show WL _ _);first
     | refine wpList_load_mid rfl 62 (.tmp 4) rfl V 0 rfl gc _ (aC (d.b 3)) lA rfl (by rw[qe];exact dY) ?_
     | refine sta 62 (.tmp 6) (.tmp 50) b6 0 gc (d.b 1) (by first|decide|(rw[qe];exact Nat.le_refl _)|simp[qe,kB]) (by rw[qe];exact dY) zi.out ?_)
    intro we A E;rw[aI _ _ (by first|rfl|simp[qe,kB])] at E;replace d:=O (d.set 1 A E);clear A E;go_wp2_with fail;have qi:=O (d.b 1);have HP:Hid (lB w c B S t bl tc pv (.returned (.tuple #[.agg gc.toArray,.bool true])) we):=O ⟨pv,Y,T,t,bl,tc,by rw[qj.out],xh (by first|rfl|trivial),d.pv0 1,d.ki,d.bb,.inl rfl,d.keep⟩;clear d;refine bodyPost_ret (aT rfl _ _ b6 _ _ _ _ rfl qi.out lA rfl (by rw[List.size_toArray,qe];exact dY)) rfl ?_;exact HP.out
  | some u =>
    rw[show fG (some u)=0 from rfl];replace L:=O (L u (by first|rfl|trivial));replace d:Hid (Cs B w c T Y [(C,eS (some u)),(pv,t.ptr)] wd [(Q,F.toArray,27),(b6,zgw.toArray,62),(U,ec.toArray,66),(V,gc.toArray,62)]):=d;go_wp2_with fail;replace d:=d.out;rw[←qj.out,←Lq bl f H] at d;rw[show dN pv t.ptr (gA bl f f H) tc=dN pv t.ptr (gA bl f f H) (gB tc f f) by rw[Lr]] at d;have xz:=zk.out;obtain⟨xy,x6⟩:=xz
    go_loopw [13] (fun i wr=>∃k:Nat,f≤k/\k≤z/\i=.int .i64 (k:Int)/\Hid (Cs B w c T Y [(C,eS (some u)),(pv,t.ptr)] wr [(Q,F.toArray,27),(b6,zgw.toArray,62),(U,ec.toArray,66),(V,(dN pv t.ptr (gA bl f k H) (gB tc f k)).toArray,62)])) (fun i _=>z-(intOf i).toNat)
    case atStart=>exact⟨f,Nat.le_refl _,xy,rfl,O d⟩
    case round =>
    clear d;obtain⟨k,xq,x5,rfl,d⟩:=hrel;rcases Nat.lt_or_ge k z with xu|xu
    ·have qf:(k:Int)<(z:Int):=by omega
     have x1:(k:Int)<64:=by omega
     have x4:(0:Int)≤(k:Int):=by omega
     have zh:=O xq;have zp:k<64:=by omega
     have qa:=O zp
     go_wp2_with ((with_reducible show WL _ _);refine sta 5 (.tmp 62) (.tmp 60) V (35+k) [vb H] (d.b 3) (by rw[List.size_toArray,mM qd.out];have:=qa.out;show 35+k+1≤163;omega) (by kernel_rfl) (by intro v hv;rw[List.mem_singleton] at hv;rw[hv];rfl) ?_)
     intro wy A E;rw[show spl (dN pv t.ptr (gA bl f k H) (gB tc f k)).toArray (35+k) [vb H]=(dN pv t.ptr (gA bl f (k+1) H) (gB tc f k)).toArray from(Qs qd.out (gA bl f k H) (gB tc f k) qa.out H).trans (by rw[Jg bl f H zh.out])] at E;replace d:=O (d.set 3 A E);clear A E
     go_wp2_with ((with_reducible show WL _ _);refine sta 4 (.tmp 65) (.const (.bool true)) V (99+k) [.bool true] (d.b 3) (by rw[List.size_toArray,mM qd.out];have:=qa.out;show 99+k+1≤163;omega) (by kernel_rfl) (by intro v hv;rw[List.mem_singleton] at hv;rw[hv];rfl) ?_)
     intro wz A E;rw[show spl (dN pv t.ptr (gA bl f (k+1) H) (gB tc f k)).toArray (99+k) [.bool true]=(dN pv t.ptr (gA bl f (k+1) H) (gB tc f (k+1))).toArray from(Qt qd.out (gA bl f (k+1) H) (gB tc f k) qa.out).trans (by rw[Jh tc f zh.out])] at E;replace d:=O (d.set 3 A E);clear A E;go_wp2
     go_roundw
     case rel=>exact⟨k+1,by omega,by omega,by go_num,d⟩
     case measure=>simp[intOf];omega
    ·obtain rfl:z=k:=by omega
     obtain⟨kc,qb⟩:=zX9 (dN pv t.ptr (gA bl f z H) (gB tc f z))
     have xj:=O qb;have xr:kc.length=163:=by rw[←qb];exact mM qd.out _ _
     rw[qb] at d;clear qb
     go_wp2_with ((with_reducible show WL _ _);first
      | refine wpList_load_mid rfl 27 (.tmp 11) rfl Q 0 rfl F _ (aC (d.b 0)) aG rfl (szP9 G) ?_
      | refine sta 27 (.tmp 67) (.tmp 66) V 0 F (d.b 3) (by rw[List.size_toArray,xr,G];omega) (szP9 G) M.out ?_)
     intro we A E;rw[←xj.out,←N.out,Qu qd.out (d.pv0 0).pt.sum] at E;obtain⟨dc,q5,R,qy⟩:=nJ (d.pv0 0).pt (gA bl f z H) (gB tc f z);rw[show (some u:Option Tr)=some u from rfl,q5.out] at E;replace d:=O (d.set 3 A E);clear A E;cases xo with
     | false =>
       go_wp2_with fail;refine sJ (fun k=>Y k\/k=b6) d (by kernel_rfl) ?_;intro wf SW I j qo d;clear qo;have o:=d;refine tnd 0 (.agg dc.toArray) rfl (ldD 62 (.tmp 4) V 0 dc _ (fun w' h=>aC ((I w' h).blk (o.b 3) (by rintro (e|e);exact (o.loc.aq 3) (.inl e);exact o.ne 1 3 (by decide) rfl rfl e))) lA (by rw[R];exact dY)) (sD9 j d) ?_;refine tnb 1 (.pointer (some ⟨U,3,none⟩)) rfl (sD9 j d) ?_;refine tnd 2 (.bool false) rfl (.inl ⟨by rfl,fun w' h=>by have c:World.cell? w' ⟨U,3,none⟩=some (.bool false):=(aD (i:=3) ((I w' h).blk (o.b 2) (by rintro (e|e);exact (o.loc.aq 2) (.inl e);exact o.ne 1 2 (by decide) rfl rfl e)) H3.out);go_simp⟩) (sD9 j d) ?_;refine tnb 3 (.bool true) rfl (sD9 j d) ?_;refine tna 4 (.bool true) rfl (sD9 j d) ?_;refine tnc 5 undef rfl (sD9 j d) ?_;refine tnc 6 undef rfl (sD9 j d) ?_;refine tnc 7 undef rfl (sD9 j d) ?_;refine tnc 8 undef rfl (sD9 j d) ?_;refine tna 9 (.bool true) rfl (sD9 j d) ?_;refine wA9 10 ?_;refine stD d j 1 rfl 62 (.tmp 6) (.tmp 68) dc (.inr (.inr rfl)) (by first|rfl|simp[R,kB]) (by rw[R];exact dY) qy.out ?_;intro wg d;refine tna 11 (.bool true) rfl (sD9 j d) ?_;refine wpAnyH_done (by kernel_rfl) ?_ _;refine noP ?_;have qi:=O (d.b 1);have HP:Hid (lB w c B S t bl tc pv (.returned (.tuple #[.agg dc.toArray,.bool true])) wg):=O ⟨C,Y,T,u,gA bl f z H,gB tc f z,by rw[←q5.out];rfl,L.out,d.pv0 0,d.ki,d.bb,.inr K.out,d.keep⟩;clear d o I j;go_wp2_with fail;refine bodyPost_ret (aT rfl _ _ b6 _ _ _ _ rfl qi.out lA rfl (by rw[List.size_toArray,R];exact dY)) rfl ?_;exact HP.out
     | true =>
       go_wp2_with fail;refine sJ (fun k=>Y k\/k=b6) d (by kernel_rfl) ?_;intro wf SW I j qo d;clear qo;have o:=d;refine tnd 0 (.agg dc.toArray) rfl (ldD 62 (.tmp 4) V 0 dc _ (fun w' h=>aC ((I w' h).blk (o.b 3) (by rintro (e|e);exact (o.loc.aq 3) (.inl e);exact o.ne 1 3 (by decide) rfl rfl e))) lA (by rw[R];exact dY)) (sD9 j d) ?_;refine tnb 1 (.pointer (some ⟨U,3,none⟩)) rfl (sD9 j d) ?_;refine tnd 2 (.bool true) rfl (.inl ⟨by rfl,fun w' h=>by have c:World.cell? w' ⟨U,3,none⟩=some (.bool true):=(aD (i:=3) ((I w' h).blk (o.b 2) (by rintro (e|e);exact (o.loc.aq 2) (.inl e);exact o.ne 1 2 (by decide) rfl rfl e)) H3.out);go_simp⟩) (sD9 j d) ?_;refine tnb 3 (.bool false) rfl (sD9 j d) ?_;refine tna 4 (.bool false) rfl (sD9 j d) ?_;refine tna 5 (.pointer c) rfl (sD9 j d) ?_;refine tnd 6 (.agg F.toArray) rfl (ldD 27 (.tmp 11) Q 0 F _ (fun w' h=>aC ((I w' h).blk (o.b 0) (by rintro (e|e);exact (o.loc.aq 0) (.inl e);exact o.ne 1 0 (by decide) rfl rfl e))) aG (szP9 G)) (sD9 j d) ?_;refine wA9 7 ?_;refine Gn (by rfl) ?_;go_wp2_with fail;refine((by rw[←N.out];exact KI.commit d.ki (by rw[zj.out];exact HS.out) C u.ptr (d.pv0 0).pt L.wel.kept.ok.few 0 (by decide) L.wel.kept.ok.comm:Ka wf (vZ wf c T Y))).mono ?_;rintro e wg ⟨rfl,M2,B3,zo,q1,q0,-,A⟩;replace L:=O (Ny L.out zj.out HS.out zo);replace d:Hid (Ds (fun k=>Y k\/k=b6) wf B w c (T.com M2) B3 [(C,eS (some u)),(pv,t.ptr)] wg [(Q,F.toArray,27),(b6,zgw.toArray,62),(U,ec.toArray,66),(V,dc.toArray,62)]):=O ⟨d.toCs.turned q1 q0 A,d.dr.tT A (fun _ _ e=>.inl e)⟩;clear zo q1 q0 A;go_wp2_with fail;refine⟨j _ d.dr,?_⟩;refine tnb 8 (.bool true) rfl (sD9 j d) ?_;refine tna 9 (.bool true) rfl (sD9 j d) ?_;refine wA9 10 ?_;refine stD d j 1 rfl 62 (.tmp 6) (.tmp 68) dc (.inr (.inr rfl)) (by first|rfl|simp[R,kB]) (by rw[R];exact dY) qy.out ?_;intro wh d;refine tna 11 (.bool true) rfl (sD9 j d) ?_;refine wpAnyH_done (by kernel_rfl) ?_ _;refine noP ?_;have qi:=O (d.b 1);have HP:Hid (lB w c B S t bl tc pv (.returned (.tuple #[.agg dc.toArray,.bool true])) wh):=O ⟨C,B3,(T.com M2),u,gA bl f z H,gB tc f z,by rw[←q5.out];rfl,L.out,d.pv0 0,d.ki,d.bb,.inr K.out,d.keep⟩;clear d o I j;go_wp2_with fail;refine bodyPost_ret (aT rfl _ _ b6 _ _ _ _ rfl qi.out lA rfl (by rw[List.size_toArray,R];exact dY)) rfl ?_;exact HP.out
theorem O8{d:List Nat}(h:w.ownsRow base 3 1 v d.length (jN d))(e:d.map (fun(i:Nat)=>(i:Int))=m):Rd w 1 v m.length (m.map fun x=>.int .i64 x):=by
 subst e;rw[List.length_map,List.map_map];exact Rd.of_owns h
theorem O9(h:w.ownsRow base 3 1 v qs.length (yH qs))(d:qs.map (fun x=>x.2.level)=m):Rd w 1 v m.length (m.map fun x=>.int .i64 x):=by
 subst d;rw[List.length_map,List.map_map];exact Rd.of_owns h
theorem Ha{T:TypeId}{d:List Value}(h:w.heap[b]?=some (.cells d.toArray T (0,0)))(e:d=m.map fun x=>.int .i64 x)(f:m.length=n)(g:n≤100):Rd w 1 (.slice b n n) m.length (m.map fun x=>.int .i64 x):=by
 rw[f,←e];exact eQ (n:=n) (size:=1) h (by rw[e,List.length_map,f,Nat.mul_one]) (by unfold maxLen;omega)
theorem fW.row{w':World}{d:List Pt}(h:qs.map (·.2)=d)(g:w'.ownsRow w.heap.size 27 35 v d.length (qs.flatMap fun x=>aF x.1 x.2))(e:∀x∈qs,PtV w' x.1 x.2/\∀i,x.1.ownBlock=some i->w.heap.size≤i/\v.ownBlock≠some i/\IsC w' i):yG w' v qs/\qs.length=d.length:=by
 have f:qs.length=d.length:=by rw[←h,List.length_map]
 exact⟨⟨by rw[f];exact Rd.of_owns g,fun x j=>(e x j).1⟩,f⟩
theorem Cs.start2{S:Kor}(h:KI w c S B){u:Value}{q:Pt}(f:aX w B v p)(g:aX w B u q):Cs B w c S B [(v,p),(u,q)] w []:=⟨Loc.nil _ _ w,h,(fun r d=>by
 simp only[List.mem_cons,List.not_mem_nil,or_false] at d;rcases d with rfl|rfl
 ·exact f
 ·exact g),fun _ e=>.inl e⟩
theorem Gp(w:World):Calls prog 7 #[] w (NI w):=by
 go_in;go_wp2_with fail;refine((Lp w)).mono ?_;rintro e w1 ⟨c,qt,qu,u1,u2,S,B,rfl,qe,qh,qi,qf,Q,R,qg,hB,d⟩;have qn:=O hB;have qo:=O d;have qq:=O qh;have qr:=O qi;have qp:=O qf;have H:=O qg;have g:=O (Cs.start2 qe Q R);obtain⟨rc,Y,I,W⟩:=nmP Q;obtain⟨sc,qa,J,X⟩:=nmP R;rw[Y.out,qa.out];clear qe qh qi qf Q R qg hB d
 go_wp2_with ((with_reducible show WL _ _);refine al 27 (.agg aH.toArray) (aH.toArray) bA ?_)
 intro b2 w2 o d A;replace g:=O (g.new (trivial) o d A);clear o d A
 go_wp2_with ((with_reducible show WL _ _);refine al 27 (.agg aH.toArray) (aH.toArray) bA ?_)
 intro b3 w3 o d A;replace g:=O (g.new (trivial) o d A);clear o d A
 go_wp2_with ((with_reducible show WL _ _);refine sta 27 (.tmp 2) (.tmp 12) b2 0 rc (g.b 1) (by first|decide|(rw[I];exact Nat.le_refl _)|simp[I,aE]) (szP9 I) W.out ?_)
 intro w4 d A;rw[aI _ _ (by first|rfl|simp[I,aE])] at A;replace g:=O (g.set 1 d A);clear d A
 go_wp2_with ((with_reducible show WL _ _);refine sta 27 (.tmp 3) (.tmp 13) b3 0 sc (g.b 0) (by first|decide|(rw[J];exact Nat.le_refl _)|simp[J,aE]) (szP9 J) X.out ?_)
 intro w5 d A;rw[aI _ _ (by first|rfl|simp[J,aE])] at A;replace g:=O (g.set 0 d A);clear d A
 go_wp2_with ((with_reducible show WL _ _);refine wpList_load_mid rfl 27 (.tmp 2) rfl b2 0 rfl rc _ (aC (g.b 1)) aG rfl (szP9 I) ?_)
 refine((by rw[←Y.out];exact yE g.ki qt u1 qq.out (g.pv0 0):Ka w5 (fW w5 (eP 3 u1)))).mono ?_;rintro e w6 ⟨tp,G,rfl,hq,F,qd,d⟩;have K:=fW.row hq F qd;have f:=O K.1;have E:=O hq;obtain⟨ql,qm,rfl,-,-⟩:=(Rd.of_owns F).form;have z:Hid (G.length=4):=O (K.2.trans (by have h:=congrArg List.length H.lv1;rw[List.length_map] at h;exact h));rw[←K.2,z.out];rw[←K.2,z.out] at f;clear hq F qd K;replace g:=O (g.keeps d);clear d
 go_wp2_with ((with_reducible show WL _ _);refine wpList_load_mid rfl 27 (.tmp 3) rfl b3 0 rfl sc _ (aC (g.b 0)) aG rfl (szP9 J) ?_)
 refine((by rw[←qa.out];exact I6 g.ki qu u2 qr.out (g.pv0 1) 1:Ka w6 (iB w6 (bks (aZ 1) 3 u2 0)))).mono ?_;rintro e w7 ⟨tb,rfl,F,d⟩;rw[H.b1] at F;obtain⟨qj,qk,rfl,-,-⟩:=(Rd.of_owns F).form;have j:Hid (Rd w7 1 (.slice qj 1 qk) ([6]:List Int).length (([6]:List Int).map fun x=>.int .i64 x)):=O (O8 F rfl);clear F;replace g:=O (g.keeps d);replace f:=O (f.keep0 d);clear d;go_wp2_with fail;refine((I9 w7 (.slice ql 4 qm) G f.out (by rw[z.out];decide))).mono ?_;rintro e w8 ⟨lv,rfl,F,d⟩;rw[z.out] at F;obtain⟨la,lc,rfl,-,-⟩:=(Rd.of_owns F).form;have r:Hid (Rd w8 1 (.slice la 4 lc) ([3,2,1,0]:List Int).length (([3,2,1,0]:List Int).map fun x=>.int .i64 x)):=O (O9 (qs:=G) (by rw[z.out];exact F) (by have h:=H.lv1;rw[←E.out,List.map_map] at h;exact h));clear F;replace g:=O (g.keeps d);replace f:=O (f.keep0 d);replace j:=O (j.keep d fun _ _=>id);clear d;obtain⟨w9,U,d,A,-⟩:=aV w8 #[.int .i64 3,.int .i64 2,.int .i64 1,.int .i64 0] 3;obtain⟨qb,o⟩:=zX9 w8.heap.size
 rw[o] at A;have C:Hid (Rd w9 1 (.slice qb 4 4) ([3,2,1,0]:List Int).length (([3,2,1,0]:List Int).map fun x=>.int .i64 x)):=O (Ha A rfl rfl (by decide));replace g:=O (g.keeps d);have L:=O o;replace f:=O (f.keep0 d);replace j:=O (j.keep d fun _ _=>id);replace r:=O (r.keep d fun _ _=>id);clear d A o;go_wp2_with fail;clear U;rw[L.out];go_wp2_with fail;refine((by have h:=rS w9 (.slice la 4 lc) (.slice qb 4 4) [3,2,1,0] [3,2,1,0] r.out C.out;rw[decide_eq_true rfl] at h;exact h:Ka w9 (aY w9 true))).mono ?_;rintro e wa ⟨rfl,d⟩;replace g:=O (g.keeps d);replace f:=O (f.keep0 d);replace j:=O (j.keep d fun _ _=>id);replace r:=O (r.keep d fun _ _=>id);replace C:=O (C.keep d fun _ _=>id);clear d;go_wp2_with fail;refine((vY wa (.slice ql 4 qm) G f.out (by rw[z.out];decide) (fun y hy=>by have h1:=H.len1 y.2 (by rw[←E.out];exact List.mem_map.2 ⟨y,hy,rfl⟩);omega))).mono ?_;rintro e wb ⟨xv,rfl,F,d⟩
 have h8:(dO (eW G)).length=8:=by
  rw[AL E.out,Gk qp.out,←AL E.out];unfold eW;rw[show (G.flatMap fun x=>x.2.addrs)=(G.map (·.2)).flatMap fun p=>p.addrs by rw[List.flatMap_map],Fy (by rw[E.out];exact H.len1),List.length_map,z.out]
 rw[h8] at F;obtain⟨xa,xc,rfl,-,-⟩:=(Rd.of_owns F).form;clear F h8;replace g:=O (g.keeps d);replace f:=O (f.keep0 d);replace j:=O (j.keep d fun _ _=>id);replace r:=O (r.keep d fun _ _=>id);replace C:=O (C.keep d fun _ _=>id);clear d;obtain⟨wc,V,d,A,-⟩:=aV wb #[.int .i64 6] 3;obtain⟨qc,o⟩:=zX9 wb.heap.size
 rw[o] at A;have N:Hid (Rd wc 1 (.slice qc 1 1) ([6]:List Int).length (([6]:List Int).map fun x=>.int .i64 x)):=O (Ha A rfl rfl (by decide));replace g:=O (g.keeps d);have M:=O o;replace f:=O (f.keep0 d);replace j:=O (j.keep d fun _ _=>id);replace r:=O (r.keep d fun _ _=>id);replace C:=O (C.keep d fun _ _=>id);clear d A o;go_wp2_with fail;clear V;rw[M.out];go_wp2_with fail;refine((by have h:=rS wc (.slice qj 1 qk) (.slice qc 1 1) [6] [6] j.out N.out;rw[decide_eq_true rfl] at h;exact h:Ka wc (aY wc true))).mono ?_;rintro e wd ⟨rfl,d⟩;replace g:=O (g.keeps d);replace f:=O (f.keep0 d);replace j:=O (j.keep d fun _ _=>id);replace r:=O (r.keep d fun _ _=>id);replace C:=O (C.keep d fun _ _=>id);replace N:=O (N.keep d fun _ _=>id);clear d;have HP:=O (g.fin qn.out qo.out);clear g;go_wp2;go_ret;exact⟨rfl,HP.out⟩
end
end Go.Proofs.YtiinnfhjpaeffaaGreat
