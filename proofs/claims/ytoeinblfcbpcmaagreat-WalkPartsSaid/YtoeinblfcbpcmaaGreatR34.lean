import Derived.Test.YtoeinblfcbpcmaaGreatR32
import Derived.Test.YtoeinblfcbpcmaaGreatR33
namespace Go.Proofs.YtoeinblfcbpcmaaGreat
open Tryz
set_option maxHeartbeats 0
set_option maxRecDepth 100000
set_option linter.unusedVariables false
section
open Go.RowKit Go.Maps Go.ChangeMaps
def wrM(Mm:Nat->Nat->List UInt8)(s:Nat)(b:List UInt8):Nat->Nat->Nat->List UInt8
 | 0=>Mm
 | k+1=>gM (wrM Mm s b k) k s b
variable{w w':World}{c a m lb cp D Z nw q q2 q8 q6 s:Nat}{pid b:List UInt8}{gv v:Value}{t:Lst}{B:Nat->Prop}{P:Nat->Nat->Nat->List UInt8}{Mm:Nat->Nat->List UInt8}
theorem Dm(Mm:Nat->Nat->List UInt8)(s:Nat)(b:List UInt8):∀(k d f:Nat),f≠s->wrM Mm s b k d f=Mm d f
 | 0,_,_,_=>rfl
 | k+1,d,f,h=>by
   show gM _ _ _ _ _ _=_;unfold gM;rw[if_neg fun e=>h e.2];exact Dm Mm s b k d f h
def rM(w:World)(c a m lb:Nat)(pid:List UInt8)(cp:Nat)(gv:Value)(t:Lst)(B:Nat->Prop)(D Z:Nat)(P:Nat->Nat->Nat->List UInt8)(nw q k:Nat)(w':World):Prop:=
 ∃B' d,gZ w' c a m lb pid cp gv t B' D Z (P k) d/\d≤nw+q*k/\(∀i,B' i->B i\/w.heap.size≤i)/\aA B w w'
theorem rM.step{wr H A:World}{r C:Nat->Prop}{j o k:Nat}(z:¬B c/\¬B m/\¬B lb/\∀i,t.Own i->¬B i)(x:c<w.heap.size/\m<w.heap.size/\lb<w.heap.size/\∀i,t.Own i->i<w.heap.size)
 (h:gZ wr c a m lb pid cp gv t r D Z (P k) j) (V:j≤nw+q*k) (E:∀i,r i->B i\/w.heap.size≤i) (K:aA B w wr) (J:aA aB wr H) (N:bQ A a C D Z (P (k+1)) o) (R:o≤j+q) (F:∀i,C i->r i\/H.heap.size≤i) (U:aA r H A) (M:∀d,P (k+1) d 0=P k d 0):rM w c a m lb pid cp gv t B D Z P nw q (k+1) A:=by
 have g:aA r wr A:=J.trans' U (fun _ _ h=>h.elim) fun _ _ h=>h
 have f:∀i,i<w.heap.size->¬B i->¬r i:=fun i G L e=>(E i e).elim L fun e=>by omega
 refine⟨C,o,⟨h.cor.keep g (f c x.1 z.1) fun i e I=>f i (x.2.2.2 i I) (z.2.2.2 i I) e,N,g.blk h.mir (f m x.2.1 z.2.1),g.blk h.liv (f lb x.2.2.1 z.2.2.1),h.cpb,fun d Q=>by rw[M];exact h.lab d Q⟩,by rw[Nat.mul_succ];omega,fun i G=>?_,K.tT g fun i G e=>(E i e).elim id fun e=>by omega⟩;rcases F i G with e|e
 ·exact E i e
 ·have:=J.size;have:=K.size
  exact .inr (by omega)
def iA(w:World)(c a m lb:Nat)(pid:List UInt8)(cp:Nat)(gv:Value)(t:Lst)(B:Nat->Prop)(D Z:Nat)(P:Nat->Nat->Nat->List UInt8)(nw q:Nat)(e:Ending)(w':World):Prop:=
 e=.returned (.tuple #[.int .i64 (D:Int),.int .i64 0])/\rM w c a m lb pid cp gv t B D Z P nw q D w'
theorem iA.from{w0:World}{e:Ending}(h:iA w c a m lb pid cp gv t B D Z P nw q e w')(k:aA aB w0 w):iA w0 c a m lb pid cp gv t B D Z P nw q e w':=by
 obtain⟨f,B',d,g,j,o,r⟩:=h;exact⟨f,B',d,g,j,fun i x=>(o i x).imp id fun h=>Nat.le_trans k.size h,k.trans' r (fun _ _ h=>h.elim) fun _ _ h=>h⟩
structure WrC(w:World)(B:Nat->Prop)(c q2 q8 q6 s:Nat)(v:Value)(b:List UInt8):Prop where
 c2:w.heap[q2]?=some (.cells #[.pointer (some ⟨c,0,none⟩)] 24 (0,0))
 c8:w.heap[q8]?=some (.cells #[.int .i64 (s:Int)] 3 (0,0))
 c6:w.heap[q6]?=some (.cells #[v] 68 (0,0))
 rd:Rd w 1 v 256 (b.map vb)
 off:¬B q2/\¬B q8/\¬B q6/\∀i,v.ownBlock=some i->¬B i
 lt:q2<w.heap.size/\q8<w.heap.size/\q6<w.heap.size/\∀i,v.ownBlock=some i->i<w.heap.size
theorem WrC.keep{B':Nat->Prop}(h:WrC w B c q2 q8 q6 s v b)(k:aA B w w')(f:∀i,B' i->B i\/w.heap.size≤i):WrC w' B' c q2 q8 q6 s v b:=by
 have q:∀i,i<w.heap.size->¬B i->¬B' i:=fun i d h e=>(f i e).elim h fun e=>by omega
 have z:=k.size;exact⟨k.blk h.c2 h.off.1,k.blk h.c8 h.off.2.1,k.blk h.c6 h.off.2.2.1,h.rd.keep k h.off.2.2.2,⟨q _ h.lt.1 h.off.1,q _ h.lt.2.1 h.off.2.1,q _ h.lt.2.2.1 h.off.2.2.1,fun i d=>q i (h.lt.2.2.2 i d) (h.off.2.2.2 i d)⟩,Nat.lt_of_lt_of_le h.lt.1 z,Nat.lt_of_lt_of_le h.lt.2.1 z,Nat.lt_of_lt_of_le h.lt.2.2.1 z,fun i d=>Nat.lt_of_lt_of_le (h.lt.2.2.2 i d) z⟩
theorem WrC.keep0(h:WrC w B c q2 q8 q6 s v b)(k:aA aB w w'):WrC w' B c q2 q8 q6 s v b:=h.keep k.any fun _ e=>.inl e
theorem Gt(h:gZ w c a m lb pid cp gv t B D Z Mm nw){d:Nat}(M:WrC w B c q2 q8 q6 s v b)(J:¬B c)(Y:d<D)(hs:s<Z)(I:b.length=256)(V:nw<100000000000):Calls prog 105 #[.int .i64 (d:Int),.pointer q2,.pointer q8,.pointer q6] w (kB w a B D Z Mm nw d s b):=by
 have E:=O h;have C:=O M;have K:=O J;have o:=O (And.intro Y (And.intro hs (And.intro I V)));obtain⟨Q,R,rfl,-,-⟩:=M.rd.form;have A:=lN w;clear h M J I V;go_in;go_wp2_with fail;refine dwA B (by kernel_rfl) ?_;intro w1 S j G r x;replace A:=kL A x;replace E:=O (E.keep0 x);replace C:=O (C.keep0 x);clear x;have L:=A;have F:=E;have f:=C;refine tnd 0 (.pointer c) rfl (.inl ⟨by rfl,fun w' g=>by have c:World.cell? w' ⟨q2,0,none⟩=some (.pointer c):=(j w' g).cell (cell_of_one f.c2) f.off.1;go_simp⟩) r ?_;refine tnb 1 (.pointer c) rfl r ?_;refine tnb 2 (.pointer c) rfl r ?_;refine tnd 3 (.pointer a) rfl (.inl ⟨by rfl,fun w' g=>by have c:World.cell? w' ⟨c,0,none⟩=some (.pointer a):=(j w' g).cell (bD.c0 F.cor) K.out;go_simp⟩) r ?_;refine tna 4 (.int .i64 (d:Int)) rfl r ?_;refine tnd 5 (.int .i64 (s:Int)) rfl (.inl ⟨by rfl,fun w' g=>by have c:World.cell? w' ⟨q8,0,none⟩=some (.int .i64 (s:Int)):=(j w' g).cell (cell_of_one f.c8) f.off.2.1;go_simp⟩) r ?_;refine tnd 6 (.slice Q 256 R) rfl (.inl ⟨by rfl,fun w' g=>by have c:World.cell? w' ⟨q6,0,none⟩=some (.slice Q 256 R):=(j w' g).cell (cell_of_one f.c6) f.off.2.2.1;go_simp⟩) r ?_;refine wA9 7 ?_;go_wp2_with fail;refine((qA E.arr o.1 o.2.1 b o.2.2.1 (.slice Q 256 R) C.rd C.off.2.2.2 o.2.2.2)).mono ?_;rintro e w2 ⟨rfl,W,U,H,N⟩;have X:Hid (kB w a B D Z Mm nw d s b (.returned (.int .i64 0)) w2):=O ⟨rfl,W,U,fun i hi=>(H i hi).imp id fun h=>Nat.le_trans A.keep.size h,A.keep.trans' N (fun _ _ h=>h.elim) fun _ _ h=>h⟩;have z:=G.out _ ((j _ r).trans N);clear r N U H A E C;go_wp2_with fail;refine⟨z,?_⟩;refine tna 8 (.int .i64 0) rfl z ?_;refine wpAnyH_done (by kernel_rfl) ?_ _;clear z j G L F f;go_wp2;go_ret;exact X.out
theorem Jp(h:gZ w c a m lb pid cp gv t B D Z Mm nw)(hT:¬B c/\¬B m/\¬B lb/\∀i,t.Own i->¬B i)(hn:nw≤50000000000):Calls prog 102 #[.pointer c,.func (.func 90) #[.pointer a] #[]] w (iA w c a m lb pid cp gv t B D Z (fun _=>Mm) nw 0):=by
 have qf:=h.arr.bd;have f:=O h;have qc:=O hT;have X:=O hn;have z:=O (show c<w.heap.size/\m<w.heap.size/\lb<w.heap.size/\∀i,t.Own i->i<w.heap.size from⟨lt_of_block h.cor.top,lt_of_block h.mir,lt_of_block h.liv,fun i hi=>h.cor.lst.lt hi⟩);have x:=lN w;clear h hT hn;go_in;go_wp2_with fail;have F:=O (fun i (e:B i)=>f.arr.lt e);refine(rZ f.cor f.arr).mono ?_;rintro e C ⟨v0,rfl,N,j⟩;obtain⟨g,o,dc,rfl,-⟩:=oM (Rd.of_owns N) (lX (show 0<D by omega))
 have U:=O (fun(k:Nat) (j:k<D)=>show World.cell? C ⟨g,o+k,none⟩=some (.int .i64 (k:Int)) from by
  obtain⟨g',o',qe,he,hc⟩:=oM (Rd.of_owns N) (lX j);cases he
  exact hc)
 have V:Hid (¬B g):=O (fun e=>by have h1:=aW N (show (Value.slice (some ⟨g,o,none⟩) D dc).ownBlock=some g from rfl);have h2:=F.out g e;omega);clear N;replace x:=kL x j;replace f:=O (f.keep0 j);clear j;go_wp2_with fail;have r:=O x.keep;have qb:=O (show c<C.heap.size/\m<C.heap.size/\lb<C.heap.size/\∀i,t.Own i->i<C.heap.size from⟨Nat.lt_of_lt_of_le z.1 r.size,Nat.lt_of_lt_of_le z.2.1 r.size,Nat.lt_of_lt_of_le z.2.2.1 r.size,fun i hi=>Nat.lt_of_lt_of_le (z.2.2.2 i hi) r.size⟩);have qa:Hid (rM C c a m lb pid cp gv t B D Z (fun _=>Mm) nw 0 0 C):=O ⟨B,nw,f.out,Nat.le_add_right _ _,fun i h=>.inl h,aA.refl _ _⟩;clear x f
 go_loopw [6,8,12] (fun n _ i wr=>∃k:Nat,k≤D/\n=.int .i64 (k:Int)/\i=.int .i64 (k:Int)/\Hid (rM C c a m lb pid cp gv t B D Z (fun _=>Mm) nw 0 k wr)) (fun _ _ i _=>D-(intOf i).toNat)
 case atStart=>exact⟨0,by omega,rfl,rfl,qa⟩
 case round =>
  obtain⟨k,j,rfl,rfl,L⟩:=hrel
  by_cases A:k<D
  ·obtain⟨B1,qi,J,K,H,E⟩:=L.out
   have f:=O J;have G:=O K;have R:=O H;have W:=O E;have x:=lN wr;have qg:(0:Int)≤(k:Int):=by omega
   have qh:(k:Int)<(D:Int):=by omega
   have M:Hid (World.cell? wr ⟨g,o+k,none⟩=some (.int .i64 (k:Int))):=O (E.cell (U k A) V.out);clear J K H E L;have Q:=f;have c1:wr.cell? ⟨g,o+k,none⟩=some (.int .i64 (k:Int)):=M.out;go_wp2_with fail;clear c1;refine(qC f.arr f.cor f.liv A f.cpb (f.lab _ A)).mono ?_;rintro e w2 ⟨rfl,j⟩;replace x:=kL x j;replace f:=O (f.keep0 j);replace M:=O (j.cell M.out id);clear j;go_wp2_with fail;refine((A5 f.arr A (by have h1:=G.out;have h2:=X.out;omega))).mono ?_;rintro e w3 ⟨rfl,B2,qj,ha,qd,I,j⟩;have Y:Hid (rM C c a m lb pid cp gv t B D Z (fun _=>Mm) nw 0 (k+1) w3):=O (rM.step (P:=(fun _=>Mm)) qc.out qb.out Q.out G.out R.out W.out x.keep ha (by omega) I j (fun d=>rfl));clear j ha qd I f x;clear M;go_wp2
   go_roundw
   case rel=>exact⟨k+1,by omega,by go_num,by go_num,Y⟩
   case measure=>simp[intOf];omega
  ·obtain rfl:k=D:=by omega
   have HP:=O (iA.from (w0:=w) ⟨rfl,L.out⟩ r.out);clear L;go_wp2
   go_ret2
   exact HP.out
theorem Jq(h:gZ w c a m lb pid cp gv t B D Z Mm nw)(hT:¬B c/\¬B m/\¬B lb/\∀i,t.Own i->¬B i)(hW:WrC w B c q2 q8 q6 s v b)(hs:1≤s/\s<Z)(N:b.length=256)(hn:nw≤50000000000):Calls prog 102 #[.pointer c,.func (.func 105) #[] #[.pointer q2,.pointer q8,.pointer q6]] w (iA w c a m lb pid cp gv t B D Z (wrM Mm s b) nw 1):=by
 have qi:=h.arr.bd;have f:=O h;have L:=O hT;have qe:=O hn;have HW:=O hW;have HS:=O hs;have qa:=O N;have z:=O (show c<w.heap.size/\m<w.heap.size/\lb<w.heap.size/\∀i,t.Own i->i<w.heap.size from⟨lt_of_block h.cor.top,lt_of_block h.mir,lt_of_block h.liv,fun i hi=>h.cor.lst.lt hi⟩);have x:=lN w;clear h hT hn hW hs N;go_in;go_wp2_with fail;have H:=O (fun i (e:B i)=>f.arr.lt e);refine(rZ f.cor f.arr).mono ?_;rintro e G ⟨v0,rfl,W,j⟩;obtain⟨g,o,dc,rfl,-⟩:=oM (Rd.of_owns W) (lX (show 0<D by omega))
 have qb:=O (fun(k:Nat) (j:k<D)=>show World.cell? G ⟨g,o+k,none⟩=some (.int .i64 (k:Int)) from by
  obtain⟨g',o',qh,he,hc⟩:=oM (Rd.of_owns W) (lX j);cases he
  exact hc)
 have qc:Hid (¬B g):=O (fun e=>by have h1:=aW W (show (Value.slice (some ⟨g,o,none⟩) D dc).ownBlock=some g from rfl);have h2:=H.out g e;omega);clear W;replace x:=kL x j;replace f:=O (f.keep0 j);replace HW:=O (HW.keep0 j);clear j;go_wp2_with fail;have r:=O x.keep;have K:=O (show c<G.heap.size/\m<G.heap.size/\lb<G.heap.size/\∀i,t.Own i->i<G.heap.size from⟨Nat.lt_of_lt_of_le z.1 r.size,Nat.lt_of_lt_of_le z.2.1 r.size,Nat.lt_of_lt_of_le z.2.2.1 r.size,fun i hi=>Nat.lt_of_lt_of_le (z.2.2.2 i hi) r.size⟩);have qg:Hid (rM G c a m lb pid cp gv t B D Z (wrM Mm s b) nw 1 0 G):=O ⟨B,nw,f.out,Nat.le_add_right _ _,fun i h=>.inl h,aA.refl _ _⟩;clear x f
 go_loopw [6,8,12] (fun n _ i wr=>∃k:Nat,k≤D/\n=.int .i64 (k:Int)/\i=.int .i64 (k:Int)/\Hid (rM G c a m lb pid cp gv t B D Z (wrM Mm s b) nw 1 k wr)) (fun _ _ i _=>D-(intOf i).toNat)
 case atStart=>exact⟨0,by omega,rfl,rfl,qg⟩
 case round =>
  obtain⟨k,j,rfl,rfl,U⟩:=hrel
  by_cases E:k<D
  ·obtain⟨B1,ql,Q,R,C,F⟩:=U.out
   have f:=O Q;have J:=O R;have Y:=O C;have qd:=O F;have x:=lN wr;have qj:(0:Int)≤(k:Int):=by omega
   have qk:(k:Int)<(D:Int):=by omega
   have V:Hid (World.cell? wr ⟨g,o+k,none⟩=some (.int .i64 (k:Int))):=O (F.cell (qb k E) qc.out);have A:=O (HW.keep F C);have I:Hid (¬B1 c):=O (fun e=>(C c e).elim L.1 fun e=>by have h1:=K.1;omega);clear Q R C F U;have X:=f;have c1:wr.cell? ⟨g,o+k,none⟩=some (.int .i64 (k:Int)):=V.out;go_wp2_with fail;clear c1;refine(qC f.arr f.cor f.liv E f.cpb (f.lab _ E)).mono ?_;rintro e w2 ⟨rfl,j⟩;replace x:=kL x j;replace f:=O (f.keep0 j);replace V:=O (j.cell V.out id);replace A:=O (A.keep0 j);clear j;go_wp2_with fail;refine((Gt f.out A.out I.out E HS.2 qa.out (by have h1:=J.out;have h2:=qe.out;omega))).mono ?_;rintro e w3 ⟨rfl,B2,ha,M,j⟩;have qf:Hid (rM G c a m lb pid cp gv t B D Z (wrM Mm s b) nw 1 (k+1) w3):=O (rM.step (P:=(wrM Mm s b)) L.out K.out X.out J.out Y.out qd.out x.keep ha (Nat.le_refl _) M j (fun d=>by show gM _ _ _ _ d 0=_;unfold gM;rw[if_neg fun e=>by have h1:=HS.1;omega]));clear j ha M A f x;clear V;go_wp2
   go_roundw
   case rel=>exact⟨k+1,by omega,by go_num,by go_num,qf⟩
   case measure=>simp[intOf];omega
  ·obtain rfl:k=D:=by omega
   have HP:=O (iA.from (w0:=w) ⟨rfl,U.out⟩ r.out);clear U;go_wp2
   go_ret2
   exact HP.out
theorem BE(h:gZ w c a m lb pid cp gv t B D Z Mm nw)(x:¬B c/\¬B m/\¬B lb/\∀i,t.Own i->¬B i)(C:nw≤50000000000)(r:Value)(u:Ub)(F:UbV w r u):Calls prog 65 #[.pointer c,.agg (dS r u).toArray] w (iA w c a m lb pid cp gv t B D Z (fun _=>Mm) nw 0):=by
 have d:=O h;have o:=O x;have j:=O C;obtain⟨G,f⟩:=zX9 (dS r u)
 rw[f];have g:=lN w;clear h x C F f;go_in
 go_wp2_with refine bxM g (G.toArray) ?_
 intro I H z g;replace d:=O (d.keep0 z);clear z;have c1:H.cell? ⟨c,0,none⟩=some (.pointer a):=(bD.c0 d.cor)
 go_wp2_with fail;clear c1;refine((Jp d.out o.out j.out)).mono ?_;rintro e J A;have E:=O (A.from g.keep);obtain⟨rfl,-⟩:=A;clear g d;go_wp2
 go_ret2
 exact E.out
theorem zP{u:Ub}(h:UbV w v u):∀x∈dS v u,x.oneCell'=true:=by
 intro x d;unfold dS at d;rcases List.mem_cons.1 d with rfl|d
 ·rfl
 ·rcases List.mem_append.1 d with d|d
  ·exact aL h.root x d
  ·rcases List.mem_cons.1 d with rfl|d
   ·rfl
   ·obtain⟨y,-,rfl⟩:=List.mem_map.1 d
    rfl
theorem Jr(h:gZ w c a m lb pid cp gv t B D Z Mm nw)(hT:¬B c/\¬B m/\¬B lb/\∀i,t.Own i->¬B i)(hn:nw≤50000000000)(M:Value)(u:Ub)(J:UbV w M u)(F:u.may=true):Calls prog 66 #[.pointer c,.agg (dS M u).toArray] w (iA w c a m lb pid cp gv t B D Z (wrM Mm (jH u.txg).toNat (jG u)) nw 1):=by
 have r:=O h;have qf:=O hT;have qb:=O hn;have f:=O J;have qa:=O F;have z:=O (fun i (e:B i)=>h.arr.lt e);have HZ:=O h.arr.bd;have I:=LD J.pool J.root.sum F
 have H:Hid (1≤u.txg/\u.txg≤2147483648):=O (by
  unfold Ub.may at F;simp only[Bool.and_eq_true,decide_eq_true_eq] at F;exact⟨F.1.1.1.1,F.1.1.1.2⟩)
 obtain⟨s,hs,qh,qj⟩:∃s:Nat,jH u.txg=(s:Int)/\1≤s/\s≤4:=by
  have E:=H.out;have e:mT u.txg=true:=by unfold mT;rw[decide_eq_true E.1,decide_eq_true E.2];rfl
  refine⟨(jH u.txg).toNat,?_,?_,?_⟩<;>(unfold jH;rw[if_pos e];omega)
 have qe:=O hs;rw[show (jH u.txg).toNat=s from by rw[hs];rfl];obtain⟨bs,j⟩:=zX9 (jG u)
 have qc:=O j;rw[j] at I ⊢;have qd:=O I;obtain⟨tx,X⟩:=zX9 u.txg
 have G:=O X;have Y:=lQ (v:=M) J.root.sum J.pool;have A:∀x∈dS M u,x.oneCell'=true:=zP J;obtain⟨uc,C⟩:=zX9 (dS M u)
 have R:=O C;rw[C] at Y A ⊢;have qi:=O A;have g:=lN w;clear h hT hn J F hs j A C X;go_in
 go_wp2_with refine bxM g (#[.pointer c]) ?_
 intro b2 w1 d g;replace r:=O (r.keep0 d);replace f:=O (f.keep d fun _ _=>id);clear d
 go_wp2_with refine bxM g (uc.toArray) ?_
 intro b3 w2 d g;replace r:=O (r.keep0 d);replace f:=O (f.keep d fun _ _=>id);clear d
 go_wp2_with ((with_reducible show WL _ _);refine ldR (g.b 0) mC (by rw[Y];exact pC) ?_)
 have qg:=O g.keep.size;refine((by rw[←R.out];exact LH w2 M u f.out:Ka w2 (Dl w2 u))).mono ?_;rintro e w3 ⟨v,rfl,L,d⟩;rw[qa.out];rw[qc.out,I] at L;obtain⟨va,vc,rfl,-,-⟩:=(Rd.of_owns L).form;have o:=O (Rd.of_owns L);have Q:Hid (∀i,(Value.slice va 256 vc).ownBlock=some i->w.heap.size≤i/\i<w3.heap.size):=O (fun i K=>⟨Nat.le_trans qg.out (aW L K),by obtain⟨cur,hc⟩:=aJ L K;exact lt_of_block hc⟩);clear L;replace g:=kL g d;replace r:=O (r.keep0 d);replace f:=O (f.keep d fun _ _=>id);clear d
 go_wp2_with refine alV (.slice va 256 vc) PZ ?_
 intro b6 w5 j d V
 have N:=O (show w3.heap.size≤b6 from Nat.le_of_eq j);replace g:=lW g j d V;replace r:=O (r.keep0 d);replace f:=O (f.keep d fun _ _=>id);replace o:=O (o.keep d fun _ _=>id);clear j d V;have c1:w5.cell? ⟨b3,0,none⟩=some (.int .i64 tx):=(aC (i:=0) (g.b 1) (by rw[←R.out,←G.out];rfl))
 go_wp2_with fail;clear c1;refine((by rw[←G.out];exact NM w5 u.txg (by have E:=H.out;omega) (by have E:=H.out;omega):Ka w5 (AC w5 u.txg))).mono ?_;rintro e w6 ⟨rfl,d⟩;replace g:=kL g d;replace r:=O (r.keep0 d);replace f:=O (f.keep d fun _ _=>id);replace o:=O (o.keep d fun _ _=>id);clear d;rw[qe.out];obtain⟨sb,W⟩:=zX9 (mT u.txg)
 rw[W];clear W
 go_wp2_with refine alV (.int .i64 (s:Int)) N6 ?_
 intro b8 w8 j d V
 replace g:=lW g j d V;replace r:=O (r.keep0 d);replace f:=O (f.keep d fun _ _=>id);replace o:=O (o.keep d fun _ _=>id);clear j d V;have c1:=cD g 3
 go_wp2_with fail;clear c1;have U:Hid (WrC w8 B c b2 b8 b6 s (.slice va 256 vc) bs):=O ⟨g.b 3,g.b 0,g.b 1,o.out,⟨fun e=>by have E:=z.out _ e;have h2:=g.lt 3;omega,fun e=>by have E:=z.out _ e;have h2:=g.lt 0;omega,fun e=>by have E:=z.out _ e;have h2:=g.lt 1;omega,fun i K e=>by have E:=z.out _ e;have h2:=Q.out i K;omega⟩,(g.lt 3).2,(g.lt 0).2,(g.lt 1).2,fun i K=>by have E:=(Q i K).2;have h2:=N.out;have h3:=(g.lt 1).2;omega⟩;refine((Jq r.out qf.out U.out ⟨qh,by have E:=HZ.out;omega⟩ qd.out qb.out)).mono ?_;rintro e w9 F;have HP:=O (F.from g.keep);obtain⟨rfl,-⟩:=F;clear g r f o U;go_wp2
 go_ret2
 exact HP.out
theorem DK{d:Func}{p:Tmp}{tp:TypeId}(h:d.results=#[.cell p tp])(tmps:Array Value)(P:Program)(w:World)(a:Addr)(x:Value)(e:tmps.getD p undef=.pointer (some a))(f:(loadVar tp a).run P w=.ok x w) :
 (results d tmps).run P w=.ok x w:=by
 simp only[results,h];simp only[Array.getD_eq_getD_getElem?] at e;simp[asAddr,e,f]
theorem Js(w:World)(v:Value)(D:Nat)(h:0<D)(e:Rd w 1 v D (kX D)):Calls prog 100 #[v,.bool true] w (aH w (.int .i64 0)):=by
 obtain⟨g,o,j,rfl,d⟩:=oM e (show (kX D)[0]?=some (.bool true) by unfold kX;rw[List.getElem?_replicate];exact if_pos h);have f:=O d;have r:(0:Int)<(D:Int):=by omega
 clear e d;go_in;go_wp2_with fail
 go_loopw [5,8] (fun _ i wr=>i=.int .i64 0/\wr=w) (fun _ _ _=>0)
 case atStart=>exact⟨rfl,rfl⟩
 case round =>
  obtain⟨rfl,rfl⟩:=hrel;have c1:wr.cell? ⟨g,o,none⟩=some (.bool true):=f.out;go_wp2;go_ret;exact aH.of (aA.refl _ _)
theorem DL(w:World)(v:Value)(D:Nat)(j:0<D)(f:Rd w 1 v D (kX D)):Calls prog 63 #[v,.bool true] w (aH w (.bool true)):=by
 have g:=O (Js w v D j f);clear f;go_in;go_wp2_with fail;refine g.mono ?_;rintro e o ⟨rfl,d⟩;have h:=O d;clear d;go_wp2;go_ret;exact aH.of h.out
def Jt(w:World)(v:Value):Prop:=∀i,v.ownBlock=some i->∃d T,w.heap[i]?=some (.cells d T (0,0))
theorem Jt.keep{T:Nat->Prop}(h:Jt w v)(k:aA T w w')(g:∀i,v.ownBlock=some i->¬T i):Jt w' v:=fun i d=>by
 obtain⟨f,U,e⟩:=h i d;exact⟨f,U,k.blk e (g i d)⟩
def Qu:List Value:=dS (.slice none 0 0) ⟨0,zPt,0,List.replicate 32 0⟩
theorem NN:Qu.length=69:=rfl
theorem Re:Hid (∀w,(zeroValue 111).run prog w=.ok (.agg Qu.toArray) w):=O fun w=>by kernel_rfl
theorem NO(f g:Nat->Value)(x n:Int):prog.built 111 [(0,.int .i64 x),(1,.agg ((List.range 35).map f).toArray),(2,.int .i64 n),(3,.agg ((List.range 32).map g).toArray)]=some (Value.int .i64 x::((List.range 35).map f++(.int .i64 n::(List.range 32).map g))).toArray:=by kernel_rfl
theorem NP(d:List Value)(h:d.length=35):d=(List.range 35).map fun i=>d.getD i undef:=by
 apply List.ext_getElem?;intro i;rw[List.getElem?_map]
 by_cases e:i<35
 ·rw[List.getElem?_range e,List.getElem?_eq_getElem (by omega)]
  simp[List.getD,List.getElem?_eq_getElem (show i<d.length by omega)]
 ·rw[List.getElem?_eq_none (by omega),List.getElem?_eq_none (by simp;omega)];rfl
theorem NQ(v:Value)(u:Ub)(e:u.root.sum.length=32)(d:u.pool.length=32)(w:World):(Instr.build 111 #[(0,.int .i64 u.txg),(1,.agg (aE v u.root).toArray),(2,.int .i64 u.len),(3,.agg (u.pool.map vb).toArray)]).run prog w=.ok (.agg (dS v u).toArray) w:=by
 refine run_build w 111 _ _ ?_;unfold dS;rw[NP (aE v u.root) (aF e),B5 (u.pool.map vb) (by rw[List.length_map,d])];exact NO _ _ _ _
theorem Qv(a m:Nat)(pid:List UInt8)(g:pid.length=32)(cp:Nat)(lv gv:Value)(t:Lst)(rv:Value)(u:Ub)(d:(dS t.rv t.u).length=69)(e:(dS rv u).length=69):spl (fL a m pid cp lv gv t).toArray 39 (dS rv u)=(fL a m pid cp lv gv ⟨rv,u,t.ov,t.ol,t.vv,t.vl⟩).toArray:=by
 have h:=kY (.pointer a::.pointer m::(pid.map vb++[.int .i64 (cp:Int),lv,gv,t.ov,t.vv])) (dS t.rv t.u) (dS rv u) [.bool false] (by rw[d,e]);have f:(.pointer a::.pointer m::(pid.map vb++[.int .i64 (cp:Int),lv,gv,t.ov,t.vv])).length=39:=by simp[g]
 rw[f] at h;unfold fL iJ
 simpa [List.append_assoc] using h
def FD(w:World)(c a m lb:Nat)(pid:List UInt8)(cp:Nat)(gv:Value)(t:Lst)(B:Nat->Prop)(D Z:Nat)(Mm:Nat->Nat->List UInt8)(nw k:Nat)(w':World):Prop:=
 ∃B' e M',gZ w' c a m lb pid cp gv t B' D Z M' e/\e≤nw+D*(k / 2)/\(∀d s,5≤s->M' d s=Mm d s)/\(∀i,B' i->B i\/w.heap.size≤i)/\aA B w w'
def zQ(w:World)(c a m lb g j:Nat)(o:Nat->Option Nat)(pid:List UInt8)(cp:Nat)(t:Lst)(B:Nat->Prop)(D Z:Nat)(Mm:Nat->Nat->List UInt8)(h:List Ad)(p:Pt)(n:Int)(e:Ending)(w':World):Prop:=
 e=.returned (.int .i64 0)/\∃B' f rv M',(∀d s,5≤s->M' d s=Mm d s)/\iG w' c a m lb g j o pid cp ⟨rv,⟨t.u.txg+1,p,n,pid⟩,t.ov,t.ol,t.vv,t.vl⟩ B' D Z M' f h/\(∀i,B' i->B i\/w.heap.size≤i)/\dM w rv/\aA (fun k=>B k\/k=c) w w'
theorem Gu{g b2:Nat}{lc:Nat->Option Nat}{Ls:List Ad}(h:iG w c a m lb g b2 lc pid cp t B D Z Mm nw Ls)(ht:0≤t.u.txg/\t.u.txg+1<2147483648)(pv:Value)(p:Pt)(hp:PtV w pv p)(xr:p.addrs.length≤65536)(n:Int)(hm:Ub.may ⟨t.u.txg+1,p,n,pid⟩=true):Calls prog 24 #[.pointer c,.agg (aE pv p).toArray,.int .i64 n] w (zQ w c a m lb g b2 lc pid cp t B D Z Mm Ls p n):=by
 have xn:=h.led.bd;have F:=O h;have z1:=O h;have V:=O hp;have xd:=O xr;have xy:=O hm;have HT:=O ht;have z6:=O h.many;have K:=O h.cor.cor.idl;have zv:=O hp.ads;have qp:=O hp.sum;have I:=O h.top;have J:=O h.far;have W:=O (fun i (e:B i)=>h.lt (.inl e));have R:=O (show c<w.heap.size/\m<w.heap.size/\lb<w.heap.size/\(∀i,t.Own i->i<w.heap.size)/\∀i,Own g b2 lc D i->i<w.heap.size from⟨lt_of_block h.cor.cor.top,lt_of_block h.cor.mir,lt_of_block h.cor.liv,fun i x=>h.cor.cor.lst.lt x,fun i x=>h.lt (.inr x)⟩);have xq:=aF (v:=pv) hp.sum;have zf:=aL hp;obtain⟨pc,qk⟩:=zX9 (aE pv p)
 have vd:Hid (∀u∈pc,u.oneCell'=true):=O (by rw[←qk];exact zf);have x0:=O qk;have x1:Hid (∃r,pc=pv::r):=O ⟨_,qk.symm⟩;rw[qk] at xq ⊢;have z:=lN w;clear h hp xr ht hm zf qk
 go_enter_defers func24,ntmps24
 go_wp2_with refine bxM z (pc.toArray) ?_
 intro b4 w1 j z;replace F:=O (F.keep0 j);replace V:=O (V.keep j fun _ _=>id);clear j
 go_wp2_with refine alS z kV ?_
 intro b6 w2 j z;replace F:=O (F.keep0 j);replace V:=O (V.keep j fun _ _=>id);clear j;go_wp2_with fail;refine(rX F.cor.cor F.cor.arr).mono ?_;rintro e w3 ⟨rfl,j⟩;replace z:=kL z j;replace F:=O (F.keep0 j);replace V:=O (V.keep j fun _ _=>id);clear j;have c1:w3.cell? ⟨b4,0,none⟩=some (pv):=(by obtain⟨r,e⟩:=x1.out;exact aC (i:=0) (z.b 1) (by rw[e];rfl))
 go_wp2_with fail;clear c1;have x3:=O z.keep.size;refine((oN w3 pv p.addrs V.rd xd.out)).mono ?_;rintro e w4 ⟨N,rfl,ho,j⟩;obtain⟨va,vc,rfl,-,-⟩:=(Rd.of_owns ho).form;have qu:Hid (PtV w4 (.slice va p.addrs.length vc) p):=O ⟨Rd.of_owns ho,zv.out,qp.out⟩
 have qt:Hid (∀i,(Value.slice va p.addrs.length vc).ownBlock=some i->w.heap.size≤i/\w3.heap.size≤i/\i<w4.heap.size/\∃cs T,w4.heap[i]?=some (.cells cs T (0,0))):=O (fun i x=>by
  obtain⟨cur,hc⟩:=aJ ho x;exact⟨Nat.le_trans x3.out (aW ho x),aW ho x,lt_of_block hc,_,_,hc⟩)
 have zd:=O (And.intro (z.lt 0).2 (z.lt 1).2);have C:Hid (Jt w4 (.slice va p.addrs.length vc)):=O fun i x=>(qt i x).2.2.2
 clear ho;replace z:=kL z j;replace F:=O (F.keep0 j);replace V:=O (V.keep j fun _ _=>id);clear j;clear V
 go_wp2_with ((with_reducible show WL _ _);refine sta 26 (.tmp 22) (.tmp 21) b4 0 [.slice va p.addrs.length vc] (z.b 1) (by rw[List.size_toArray,xq];simp) (by kernel_rfl) (one9) ?_)
 intro w5 j Y;rw[←x0.out,E2] at Y;have hF:∀i,i=b4->i≠c/\i≠m/\i≠lb/\¬B i/\¬Own g b2 lc D i/\¬t.Own i:=z1.fresh (z.lt 1).1;replace F:=O (F.keepT j hF);have zq:∀i,(Value.slice va p.addrs.length vc).ownBlock=some i->i≠b4:=fun i x e=>by have E:=(qt i x).2.1;have G:=zd.out;omega
 replace qu:=O (qu.keep j zq);replace C:=O (C.keep j zq);replace z:=O (z.set 1 j Y);obtain⟨N,zr⟩:=zX9 (Value.slice va p.addrs.length vc)
 rw[zr] at qu qt C;have xt:=aF (v:=N) qp.out;obtain⟨qc,qa⟩:=zX9 (aE N p)
 have ve:Hid (∀u∈qc,u.oneCell'=true):=O (by rw[←qa];exact aL qu.out);have vf:=O qa;rw[zr,qa] at z;rw[qa] at xt;obtain⟨u,hu⟩:∃u:Ub,⟨t.u.txg+1,p,n,pid⟩=u:=⟨_,rfl⟩
 have zo:=O hu;have z7:Hid (u.may=true):=O (by rw[←hu];exact xy.out);have L:=lQ (v:=N) (u:=u) (by rw[←hu];exact qp.out) (by rw[←hu];exact K.out);have q1:=NQ N u (by rw[←hu];exact qp.out) (by rw[←hu];exact K.out);have o:=O (UbV.mk (w:=w5) (v:=N) (u:=u) (by rw[←hu];exact qu.out) (by rw[←hu];exact K.out));have zg:=zP o.out;obtain⟨uc,qr⟩:=zX9 (dS N u)
 have qv:=O qr;have xb:Hid (∀y∈uc,y.oneCell'=true):=O (by rw[←qr];exact zg);rw[qr] at L q1;rw[←hu] at q1;rw[qa] at q1;have xw:=O q1;have vn:0≤t.u.txg/\t.u.txg+1<2147483648:=HT.out;clear j Y hF zq zr qa hu q1 zg qr qu;go_wp2_with fail;refine dwB aB (by kernel_rfl) ?_;intro w6 S ql zn hS q3;replace z:=kL z q3;replace F:=O (F.keep0 q3);replace o:=O (o.keep q3 fun _ _=>id);replace C:=O (C.keep q3 fun _ _=>id);clear q3;have zl:=z;have zk:=F;have xh:=o;have q0:=C;refine tna 0 (.pointer c) rfl hS ?_;refine tnb 1 (.pointer c) rfl hS ?_;refine tnb 2 (.pointer (some ⟨c,39,none⟩)) rfl hS ?_;refine tnb 3 (.pointer (some ⟨c,39,none⟩)) rfl hS ?_;refine tnd 4 (.int .i64 t.u.txg) rfl (.inl ⟨by rfl,fun w' x7=>by have c:World.cell? w' ⟨c,39,none⟩=some (.int .i64 t.u.txg):=(ql w' x7).cell (bD.txg_ zk.cor.cor) id;go_simp⟩) hS ?_;refine tnd 5 (.int .i64 (t.u.txg+1)) rfl (.inl ⟨by rfl,fun _ _=>by go_simp;exact IntWalk.i64_in _ (by omega)⟩) hS ?_;refine tnd 6 (.agg qc.toArray) rfl (yieldsIf_load_mid (by rfl) 30 (.tmp 4) rfl b4 0 rfl qc _ (fun w' h=>aD ((ql w' h).blk (zl.b 1) id)) aI rfl (szP9 xt)) hS ?_;refine tna 7 (.int .i64 n) rfl hS ?_;refine tna 8 (.pointer c) rfl hS ?_;refine tnb 9 (.pointer c) rfl hS ?_;refine tnb 10 (.pointer (some ⟨c,2,none⟩)) rfl hS ?_;refine tnd 11 (.agg (pid.map vb).toArray) rfl (yieldsIf_load_mid (by rfl) 28 (.tmp 33) rfl c 2 rfl (pid.map vb) _ (fun w' h=>(ql w' h).rangeAt (bD.id_ zk.cor.cor)) underlying28 rfl (by rw[List.length_map,K.out];exact xD)) hS ?_;refine tnd 12 (.agg uc.toArray) rfl (fC 111 #[(0,.tmp 28),(1,.tmp 29),(2,.tmp 30),(3,.tmp 34)] [(0,.int .i64 (t.u.txg+1)),(1,.agg qc.toArray),(2,.int .i64 n),(3,.agg (pid.map vb).toArray)] (.agg uc.toArray) xw.out) hS ?_;refine wA9 13 ?_;refine alA Re ?_;intro b8 w7 qm j Y;have qn:=O (show w6.heap.size≤b8 from by have:=(ql _ hS).size;omega);have zp:=zn.out _ ((ql _ hS).trans j);clear hS;replace z:=lW z qm j Y;replace F:=O (F.keep0 j);replace o:=O (o.keep j fun _ _=>id);replace C:=O (C.keep j fun _ _=>id);clear qm j Y;refine wpList_nil ?_;refine⟨zp,?_⟩;refine wA9 14 ?_;refine stW (z.b 0) L NN (by rw[L];exact pC) xb.out ?_;intro w8 j Y;have xm:=zn.out _ ((ql _ zp).tT j (fun i x e=>by have:=qn.out;omega));clear zp;replace z:=O (z.set 0 j Y);replace F:=O (F.keepT j (z1.fresh (by have E:=qn.out;have G:=zl.keep.size;omega)));replace o:=O (o.keep j fun i x e=>by obtain⟨x5,T_,h_⟩:=q0.out i x;have E:=lt_of_block h_;have G:=qn.out;omega);replace C:=O (C.keep j fun i x e=>by obtain⟨x5,T_,h_⟩:=q0.out i x;have E:=lt_of_block h_;have G:=qn.out;omega);clear j Y;refine wpList_nil ?_;refine⟨xm,?_⟩;refine wpAnyH_done (by kernel_rfl) ?_ _;clear xm ql zn zl zk xh q0;refine noP ?_
 go_wp2_with ((with_reducible show WL _ _);refine ldR (z.b 0) mC (by rw[L];exact pC) ?_)
 refine((by rw[←qv.out];exact uM w8 N u o.out:Ka w8 (lH w8 u.may))).mono ?_;rintro e w9 ⟨rfl,j⟩;replace z:=kL z j;replace F:=O (F.keep0 j);replace o:=O (o.keep j fun _ _=>id);replace C:=O (C.keep j fun _ _=>id);clear j;rw[z7.out];go_wp2_with fail;refine(BZ F.cor).mono ?_;rintro e wa ⟨v2,rfl,ho,j⟩;obtain⟨xa,xc,rfl,-,-⟩:=(Rd.of_owns ho).form;have HO:=O (Rd.of_owns ho);clear ho;replace z:=kL z j;replace F:=O (F.keep0 j);replace o:=O (o.keep j fun _ _=>id);replace C:=O (C.keep j fun _ _=>id);clear j;go_wp2_with fail;refine((DL wa (.slice xa D xc) D (by omega) HO.out)).mono ?_;rintro e wb ⟨rfl,j⟩;replace z:=kL z j;replace F:=O (F.keep0 j);replace o:=O (o.keep j fun _ _=>id);replace C:=O (C.keep j fun _ _=>id);replace HO:=O (HO.keep j fun _ _=>id);clear j;clear HO;obtain⟨wc,zu,j,Y,-⟩:=aP wb #[.func (.func 65) #[] #[],.func (.func 66) #[] #[],.func (.func 65) #[] #[]] 136;obtain⟨zb,qm⟩:=zX9 wb.heap.size
 rw[qm] at Y;replace z:=lW z qm j Y;have q5:=O qm;replace F:=O (F.keep0 j);replace o:=O (o.keep j fun _ _=>id);replace C:=O (C.keep j fun _ _=>id);clear j Y qm;go_wp2_with fail;clear zu;rw[q5.out];have z3:=O z.keep;have xu:=O (z.b 2);have xv:=O (z.b 1);have zw:=O (z.b 0);have zx:=O (z.lt 2).2;have zz:Hid (m≠c/\lb≠c):=O ⟨fun e=>by (have E:=F.cor.mir;rw[eV,e,F.cor.cor.top] at E;cases E),fun e=>by (have E:=F.cor.liv;rw[e,F.cor.cor.top] at E;have G:=Option.some.inj E;injection G with h3 h4;exact absurd h4 (by decide))⟩;have HG:=O (And.intro (z.lt 2).1 (And.intro (z.lt 1).1 (z.lt 0).1));have xx:=F;have xg:=o;have qd:Hid (∀i,N.ownBlock=some i->¬B i/\i≠b6/\w.heap.size≤i/\i<wc.heap.size):=O (fun i x=>⟨fun e=>by have E:=W.out i e;have G:=(qt i x).1;omega,fun e=>by have E:=(qt i x).2.1;have G:=zd.out;omega,(qt i x).1,by (obtain⟨cs,T,h⟩:=C.out i x;exact lt_of_block h)⟩);have z9:Hid (nw≤40000000000/\D*2≤16):=O (by have E:=z6.out;have G:=HT.out;omega);have x2:Hid (FD wc c a m lb pid cp (.pointer g) t B D Z Mm nw 0 wc):=O ⟨B,nw,Mm,F.cor,by omega,fun _ _ _=>rfl,fun i h=>.inl h,aA.refl _ _⟩;have X:Hid (wc.heap.size ≥ w.heap.size):=O z3.size;clear z F o
 go_loopw [9,10,11,12,47] (fun _ _ _ _ i wr=>∃k:Nat,k≤3/\i=.int .i64 (k:Int)/\Hid (FD wc c a m lb pid cp (.pointer g) t B D Z Mm nw k wr)) (fun _ _ _ _ i _=>3-(intOf i).toNat)
 case atStart=>exact⟨0,by omega,rfl,x2⟩
 case round =>
  obtain⟨k,j,rfl,HC⟩:=hrel;obtain⟨B1,H,M1,xo,xp,xj,qw,qx⟩:=HC.out;have hD:2≤D/\D≤8:=⟨xn.1,xn.2.1⟩
  have zm:Hid (H≤50000000000):=O (by
   have E:=z9.out;have G:D*(k / 2)≤8*2:=Nat.mul_le_mul hD.2 (by omega);omega)
  have za:=O xp;have A:=O xo;have q9:=O xj;have Q:=O qw;have qb:=O qx;have o:=O (xg.keep qx fun i x=>(qd i x).1);have vm:∀i,w.heap.size≤i->i<wc.heap.size->¬B i:=fun i x _ e=>by have E:=W.out i e;omega
  have xl:wr.heap[b8]?=some (.cells uc.toArray 111 (0,0)):=qx.blk xv.out fun e=>by have E:=W.out _ e;have G:=HG.out;omega
  have zi:wr.heap[zb]?=some (.cells #[.func (.func 65) #[] #[],.func (.func 66) #[] #[],.func (.func 65) #[] #[]] 136 (0,0)):=qx.blk zw.out fun e=>by have E:=W.out _ e;have G:=HG.out;omega
  have xk:wr.heap[b6]?=some (.cells #[.int .i64 0] 41 (0,0)):=qx.blk xu.out fun e=>by have E:=W.out _ e;have G:=HG.out;omega
  have qz:=O xl;have qo:=O zi;have xe:=O xk;have qf:Hid (¬B1 c/\¬B1 m/\¬B1 lb/\∀i,t.Own i->¬B1 i):=O ⟨fun e=>(qw c e).elim I.1 fun e=>by have E:=R.1;have G:=X.out;omega,fun e=>(qw m e).elim I.2.1 fun e=>by have E:=R.2.1;have G:=X.out;omega,fun e=>(qw lb e).elim I.2.2.1 fun e=>by have E:=R.2.2.1;have G:=X.out;omega,fun i x e=>(qw i e).elim (I.2.2.2 i x).1 fun e=>by have E:=R.2.2.2.1 i x;have G:=X.out;omega⟩;have xi:¬(D:Int)=0:=by omega
  have vg:((D:Int) == 0)=false:=by rw[beq_eq_false_iff_ne];exact xi
  have vh:decide ((D:Int)=0)=false:=decide_eq_false xi;clear xo xp xj qw qx xl zi xk HC;have x6:k=0\/k=1\/k=2\/k=3:=by omega
  rcases x6 with rfl|rfl|rfl|rfl
  ·have z:=lN wr
   have c1:wr.cell? ⟨zb,0,none⟩=some (.func (.func 65) #[] #[]):=(aC (i:=0) qo.out rfl)
   go_wp2_with ((with_reducible show WL _ _);refine ldM b8 0 uc (aD qz.out) mC (by rw[L];exact pC) ?_)
   clear c1;have qe:=O z.keep;refine((by rw[←qv.out];exact BE A.out qf.out zm.out N u o.out:Ka wr (iA wr c a m lb pid cp (.pointer g) t B1 D Z (fun _=>M1) H 0))).mono ?_;rintro e wd ⟨rfl,B2,M,qh,qj,qg,qi⟩;have qy:Hid (FD wc c a m lb pid cp (.pointer g) t B D Z Mm nw 1 wd):=O ⟨B2,M,_,qh,(by have E:H≤nw+D*0:=za.out;have G:M≤H+0*D:=qj;show M≤nw+D*0;omega),fun d s hs=>q9.out d s hs,fun i x=>(qg i x).elim (Q i) (fun e=>.inr (by have E:=qb.size;have G:=qe.size;omega)),qb.tT (qe.trans' qi (fun _ _ h=>h.elim) (fun _ _ h=>h)) (fun i x e=>(Q i e).elim id (fun e=>by omega))⟩;clear z A o qh qj qg qi;go_wp2
   go_roundw
   case rel=>exact⟨1,by omega,by go_num,qy⟩
   case measure=>simp[intOf]
  ·have z:=lN wr
   have xf:Hid ((jH u.txg).toNat≤4):=O (by unfold jH;split<;>omega);have c1:wr.cell? ⟨zb,1,none⟩=some (.func (.func 66) #[] #[]):=(aC (i:=1) qo.out rfl)
   go_wp2_with ((with_reducible show WL _ _);refine ldM b8 0 uc (aD qz.out) mC (by rw[L];exact pC) ?_)
   clear c1;have qe:=O z.keep;refine((by rw[←qv.out];exact Jr A.out qf.out zm.out N u o.out z7.out:Ka wr (iA wr c a m lb pid cp (.pointer g) t B1 D Z (wrM M1 (jH u.txg).toNat (jG u)) H 1))).mono ?_;rintro e wd ⟨rfl,B2,M,qh,qj,qg,qi⟩;have qy:Hid (FD wc c a m lb pid cp (.pointer g) t B D Z Mm nw 2 wd):=O ⟨B2,M,_,qh,(by have E:H≤nw+D*0:=za.out;have G:M≤H+1*D:=qj;show M≤nw+D*1;omega),fun d s hs=>by rw[show _=M1 d s from Dm M1 _ _ D d s (fun e=>by have E:=xf.out;omega)];exact q9.out d s hs,fun i x=>(qg i x).elim (Q i) (fun e=>.inr (by have E:=qb.size;have G:=qe.size;omega)),qb.tT (qe.trans' qi (fun _ _ h=>h.elim) (fun _ _ h=>h)) (fun i x e=>(Q i e).elim id (fun e=>by omega))⟩;clear z A o qh qj qg qi;go_wp2
   go_roundw
   case rel=>exact⟨2,by omega,by go_num,qy⟩
   case measure=>simp[intOf]
  ·have z:=lN wr
   have c1:wr.cell? ⟨zb,2,none⟩=some (.func (.func 65) #[] #[]):=(aC (i:=2) qo.out rfl)
   go_wp2_with ((with_reducible show WL _ _);refine ldM b8 0 uc (aD qz.out) mC (by rw[L];exact pC) ?_)
   clear c1;have qe:=O z.keep;refine((by rw[←qv.out];exact BE A.out qf.out zm.out N u o.out:Ka wr (iA wr c a m lb pid cp (.pointer g) t B1 D Z (fun _=>M1) H 0))).mono ?_;rintro e wd ⟨rfl,B2,M,qh,qj,qg,qi⟩;have qy:Hid (FD wc c a m lb pid cp (.pointer g) t B D Z Mm nw 3 wd):=O ⟨B2,M,_,qh,(by have E:H≤nw+D*1:=za.out;have G:M≤H+0*D:=qj;show M≤nw+D*1;omega),fun d s hs=>q9.out d s hs,fun i x=>(qg i x).elim (Q i) (fun e=>.inr (by have E:=qb.size;have G:=qe.size;omega)),qb.tT (qe.trans' qi (fun _ _ h=>h.elim) (fun _ _ h=>h)) (fun i x e=>(Q i e).elim id (fun e=>by omega))⟩;clear z A o qh qj qg qi;go_wp2
   go_roundw
   case rel=>exact⟨3,by omega,by go_num,qy⟩
   case measure=>simp[intOf]
  ·have z:=lN wr
   go_wp2_with ((with_reducible show WL _ _);first
    | refine ldM b8 0 uc (aD qz.out) mC (by rw[L];exact pC) ?_
    | refine sta 111 (.tmp 77) (.tmp 75) c 39 uc A.cor.top (by rw[List.size_toArray,uZ K.out (EZ A.cor.lst),L];decide) (by rw[L];exact pC) xb.out ?_)
   intro w9 j Y;have ze:Hid (dD wr 0 g b2 lc D Z Ls):=O (xx.led.keep qb.out fun i e h=>(J i h).1 e);rw[←qv.out,Qv a m pid K.out cp _ _ t N u (lQ A.cor.lst.ub.root.sum A.cor.lst.ub.pool) (by rw[qv.out,L])] at Y;have zt:∀i,N.ownBlock=some i->i≠c:=fun i x e=>by have E:=(qd i x).2.2.1;have G:=R.1;omega
   have x4:Hid (∀i,N.ownBlock=some i->¬B1 i):=O (fun i x e=>(Q i e).elim (qd i x).1 fun e=>by have E:=(qd i x).2.2.2;omega);have qq:∀i,(⟨N,u,t.ov,t.ol,t.vv,t.vl⟩:Lst).Own i->N.ownBlock=some i\/t.Own i:=fun i h=>h.imp id fun h=>.inr h
   have zj:∀i,N.ownBlock=some i->∃cs T,wr.heap[i]?=some (.cells cs T (0,0)):=fun i x=>by
    obtain⟨cs,T,h⟩:=C.out i x;exact⟨cs,T,qb.blk h (qd i x).1⟩
   have z5:Hid (mO w9 ⟨N,u,t.ov,t.ol,t.vv,t.vl⟩):=O ⟨o.keep j zt,A.cor.lst.old.keep j fun i x e=>(I.2.2.2 i (.inr (.inl x))).2.1 e,A.cor.lst.live.keep j fun i x e=>(I.2.2.2 i (.inr (.inr x))).2.1 e,A.cor.lst.oads,A.cor.lst.lads,fun i x=>by
    rcases qq i x with h|h
    ·obtain⟨cs,T,G⟩:=zj i h
     exact⟨cs,T,j.blk G (zt i h)⟩
    ·obtain⟨cs,T,G⟩:=A.cor.lst.isc i h
     exact⟨cs,T,j.blk G (I.2.2.2 i h).2.1⟩,by rw[←zo.out];exact xd.out,A.cor.lst.few.2⟩
   have xz:Hid (∀i,(⟨N,u,t.ov,t.ol,t.vv,t.vl⟩:Lst).Own i->¬B1 i/\i≠c/\i≠m/\i≠lb):=O (fun i x=>by
    rcases qq i x with h|h
    ·have E:=(qd i h).2.2.1;have G:=R.out
     exact⟨x4 i h,by omega,by omega,by omega⟩
    ·exact⟨qf.2.2.2 i h,(I.2.2.2 i h).2⟩)
   have z0:Hid (iG w9 c a m lb g b2 lc pid cp ⟨N,u,t.ov,t.ol,t.vv,t.vl⟩ B1 D Z M1 H Ls):=O ⟨⟨⟨Y,K.out,z5.out⟩,A.arr.keep j fun i e h=>qf.1 (e▸h),j.blk A.mir zz.1,j.blk A.liv zz.2,A.cpb,A.lab⟩,ze.keep j fun i e h=>(J i h).2.1 e,fun i h=>⟨fun e=>(Q i e).elim (J i h).1 fun e=>by have E:=R.2.2.2.2 i h;have G:=X.out;omega,(J i h).2.1,(J i h).2.2.1,(J i h).2.2.2.1,fun e=>(qq i e).elim (fun e=>by have E:=(qd i e).2.2.1;have G:=R.2.2.2.2 i h;omega) (J i h).2.2.2.2⟩,⟨qf.1,qf.2.1,qf.2.2.1,xz.out⟩,by
    have E:H≤nw+D*1:=za.out;have G:=z6.out;have h3:=HT.out;have h4:=hD;have h5:u.txg=t.u.txg+1:=by rw[←zo.out]
    show H+_≤40000+8*u.txg.toNat;omega⟩
   have z2:Hid (aA (fun k=>B k\/k=c) w w9):=O (z3.trans' (qb.trans' j (U:=fun k=>B k\/k=c) (fun _ _ h=>.inl h) fun _ _ h=>.inr h) (fun _ _ h=>h.elim) fun _ _ h=>h);have zh:Hid (w9.heap[b6]?=some (.cells #[.int .i64 0] 41 (0,0))):=O (j.blk xe.out fun e=>by have E:=HG.out;have G:=R.out;omega);clear j Y zt qq zj A o ze z5 z qz qo xe
   go_wp2_with ((with_reducible show WL _ (.store 41 _ _));refine stV (.int .i64 0) zh.out ?_)
   intro wa j Y;have zy:=O Y
   have HP:Hid (zQ w c a m lb g b2 lc pid cp t B D Z Mm Ls p n (.returned (.int .i64 0)) wa):=O (by
    have vi:=HG.1;have hl:=R.out;have vj:=X.out;refine⟨rfl,B1,H,N,M1,q9.out,?_,fun i x=>(Q i x).imp id fun h=>by omega,fun i x=>(qd i x).2.2.1,z2.tT j fun i x e=>by omega⟩;rw[zo.out];refine z0.keepT j ?_;rintro i rfl;have h6:=zx.out;refine⟨by omega,by omega,by omega,fun e=>(Q _ e).elim (fun e=>by have E:=W.out _ e;omega) (fun e=>by omega),fun e=>by have E:=hl.2.2.2.2 _ e;omega,fun e=>?_⟩;rcases e with e|e
    ·exact(qd _ e).2.1 rfl
    ·have E:=hl.2.2.2.1 _ (.inr e)
     omega)
   clear j Y zh z0 z2;go_wp2_with fail;refine leaves_cons (f:=59) (args:=#[.pointer c,.pointer b6]) (by simp) (by simp[go_sem]) ?_;refine(oO wa c b6 0 _ zy.out (by decide)).mono ?_;rintro e u' x9 ⟨rfl,rfl,j⟩;have c7:x9.cell? ⟨b6,0,none⟩=some (.int .i64 0):=aC (i:=0) (j.blk zy.out id) rfl;refine⟨_,DK rfl _ _ _ ⟨b6,0,none⟩ (.int .i64 0) rfl (by go_simp),?_⟩;obtain⟨-,B3,x8,rv,M3,g1,g2,g3,g4,g5⟩:=HP.out;exact⟨rfl,B3,x8,rv,M3,g1,g2.keep0 j,g3,g4,g5.trans j.any⟩
def AD(w:World)(c:Nat)(S:Kor)(B:Nat->Prop)(e:Ending)(w':World):Prop:=
 e=.returned (.int .i64 0)/\∃M' B',(∀d s,5≤s->M' d s=S.M d s)/\KI w' c ⟨S.D,S.Z,S.cp,S.L,M',S.txg+1⟩ B'/\(∀k,B' k->B k\/w.heap.size≤k)/\Cl w w' B B'/\aA B w w'
theorem KI.commit{S:Kor}(K:KI w c S B)(E:S.txg+1<2147483648)(pv:Value)(p:Pt)(M:PtV w pv p)(o:p.addrs.length≤65536)(n:Int)(C:0≤n/\n≤16384)(N:p.hole=true\/(p.may=true/\p.level=3/\p.birth≤S.txg+1)):Calls prog 24 #[.pointer c,.agg (aE pv p).toArray,.int .i64 n] w (AD w c S B):=by
 obtain⟨d,a,m,lb,g,z,F,pid,Q,nw,t,j,A,rfl⟩:=K
 have L:Ub.may ⟨t.u.txg+1,p,n,pid⟩=true:=by
  have h0:=d.t0;unfold Ub.may;rw[j];simp only[Bool.and_eq_true,Bool.or_eq_true,decide_eq_true_eq,beq_iff_eq];refine⟨⟨⟨⟨by omega,by omega⟩,C.1⟩,C.2⟩,N.imp id fun h=>⟨⟨h.1,h.2.1⟩,h.2.2⟩⟩
 refine(Gu A (by rw[j];exact⟨d.t0,E⟩) pv p M o n L).mono ?_;rintro e w' ⟨rfl,B',x,rv,M',G,f,H,I,J⟩;have r:∀i,rv.ownBlock=some i->w.heap.size≤i:=I;refine⟨rfl,M',fun k=>k=c\/k=m\/k=lb\/B' k\/Own g z F S.D k\/(⟨rv,⟨t.u.txg+1,p,n,pid⟩,t.ov,t.ol,t.vv,t.vl⟩:Lst).Own k,G,⟨⟨d.d2,d.d8,d.z8,d.z4,d.c1,d.c3,d.cD,by show 0≤S.txg+1;have:=d.t0;omega,E⟩,a,m,lb,g,z,F,pid,B',x,_,by show t.u.txg+1=S.txg+1;rw[j],f,rfl⟩,?_,?_,J.mono fun k _ e=>?_⟩
 ·rintro k (e|e|e|e|e|e)
  ·exact .inl (.inl e)
  ·exact .inl (.inr (.inl e))
  ·exact .inl (.inr (.inr (.inl e)))
  ·exact(H k e).imp (fun h=>.inr (.inr (.inr (.inl h)))) id
  ·exact .inl (.inr (.inr (.inr (.inr (.inl e)))))
  ·rcases e with e|e
   ·exact .inr (r k e)
   ·exact .inl (.inr (.inr (.inr (.inr (.inr (.inr e))))))
 ·rintro k (rfl|rfl|rfl|e|e|e)
  ·exact .inl ⟨_,_,f.cor.cor.top⟩
  ·exact .inl ⟨_,_,f.cor.mir⟩
  ·exact .inl ⟨_,_,f.cor.liv⟩
  ·exact .inl (f.cor.arr.isC e)
  ·exact(A.led.isC f.led e).imp id fun h=>⟨.inr (.inr (.inr (.inr (.inl e)))),h⟩
  ·exact .inl (f.cor.cor.lst.isc k e)
 ·rcases e with e|rfl
  ·exact .inr (.inr (.inr (.inl e)))
  ·exact .inl rfl
section
variable {B0:Nat->Prop}{w0 w w':World}{c:Nat}{S T:Kor}{B B':Nat->Prop}{rs:List (Value×Pt)}{l:List (Nat×Array Value×TypeId)}
theorem Cs.turned(h:Cs B0 w0 c S B rs w l)(j:KI w' c T B')(d:∀k,B' k->B k\/w.heap.size≤k)(k:aA B w w'):Cs B0 w0 c T B' rs w' l:=by
 refine⟨h.loc.turn2 k (fun _ e=>.inl e) (fun i g e=>(h.bb i e).elim id fun e=>by omega) ?_,j,fun r f=>(h.pv r f).keep k d,fun i e=>(d i e).elim (h.bb i) fun e=>.inr (Nat.le_trans h.keep.size e)⟩;rintro i g (e|⟨r,f,e⟩)
 ·exact(d i e).elim .inl fun e=>by omega
 ·exact .inr ⟨r,f,e⟩
theorem Cs.begin(h:Loc aB aB w0 w l)(j:KI w' c S B)(g:∀k,B k->w.heap.size≤k)(k:aA aB w w'):Cs aB w0 c S B [] w' l:=by
 refine⟨⟨h.keep.trans k,h.ge,h.nd,fun x f=>k.blk (h.at_ x f) id,fun x f e=>?_⟩,j,(fun r d=>by cases d),fun i e=>.inr (Nat.le_trans h.keep.size (g i e))⟩;rcases e with e|⟨r,d,-⟩
 ·have o:=g _ e;have z:=lt_of_block (h.at_ x f);omega
 ·cases d
end
variable{M':Nat->Nat->List UInt8}{t u s:Tr}{P:Program}{p:Pt}{v:Value}{k n b c base:Nat}{w:World}{tc:Nat->Bool}{B:Nat->Prop}{m:List Int}{qs:List (Value×Pt)}
theorem Kor.com_ext{S:Kor}(h:∀d s,5≤s->M' d s=S.M d s):Ext S ⟨S.D,S.Z,S.cp,S.L,M',S.txg+1⟩:=
 ⟨rfl,rfl,rfl,by show S.txg≤S.txg+1;omega,fun _ h=>h,fun a _ e=>by
  obtain⟨-,-,f,-⟩:=e;exact h _ _ (by omega)⟩
theorem Kor.com_room{S:Kor}{N:Nat}(h:S.room N)(x:Int):Kor.room ⟨S.D,S.Z,S.cp,S.L,M',x⟩ N:=h
theorem Tr.Ok.comm{S:Kor}(h:Tr.Ok S 3 t):t.ptr.hole=true\/(t.ptr.may=true/\t.ptr.level=3/\t.ptr.birth≤S.txg+1):=by
 cases d:t.isHole with
 | true=>left;rw[h.hole_eq];exact d
 | false=>right;have:=h.top d;exact⟨h.may3,this.1,this.2.2⟩
theorem FE{F:Func}{p q u v:Tmp}{o r:TypeId}(h:F.results=#[.tmp u,.cell p o,.cell q r,.tmp v])(tmps:Array Value)(w:World)(g x:Nat)(t I:TypeId)(j e:Array Value)(fr f:Nat×Nat)(d d2:TypeDesc)
 (G:tmps.getD p undef=.pointer g) (H:tmps.getD q undef=.pointer x) (K:w.heap[g]?=some (.cells j t fr)) (A:w.heap[x]?=some (.cells e I f)) (M:P.underlying o=some d) (J:(match d with|.struct _|.array _ _=>true|_=>false)=true) (L:(P.info? o).map (·.size)=some j.size)
 (E:P.underlying r=some d2) (z:(match d2 with|.struct _|.array _ _=>true|_=>false)=true) (C:(P.info? r).map (·.size)=some e.size):(results F tmps).run P w=.ok (.tuple #[tmps.getD u undef,.agg j,.agg e,tmps.getD v undef]) w:=by
 simp only[Array.getD_eq_getD_getElem?] at G H ⊢;simp[results,h,G,H,asAddr,Sem.run_bind,Result.andThen,run_loadVar_row w g t o j fr d K M J L,run_loadVar_row w x I r e f d2 A E z C]
def Hi(w:World)(e:Ending)(w':World):Prop:=∃c g h d f S B,e=.returned (.tuple #[.pointer (some ⟨c,0,none⟩),.agg (aE g d.ptr).toArray,.agg (aE h f.ptr).toArray,.bool true])/\KI w' c S B/\Tr.Ok S 3 d/\Tr.Ok S 3 f/\(eH 3 d).Nodup/\aU w' B g d.ptr/\aU w' B h f.ptr/\NJ d f/\(∀k,B k->w.heap.size≤k)/\aA aB w w'
theorem Dn(w:World):Calls prog 14 #[] w (Hi w):=by
 have qx:(aE (.slice none 0 0) zPt).length=35:=rfl;have q9:=jD;obtain⟨zp,qm⟩:=zX9 (aE (.slice none 0 0) zPt)
 have ze:Hid (∀u∈zp,u.oneCell'=true):=O (by rw[←qm];exact cE zPt);have qo:=O qm;rw[qm] at qx q9;have zi:=O q9;clear qm q9;have d:=lN w;go_in
 go_wp2_with refine alM d aZ ?_
 intro b1 w1 j d;clear j
 go_wp2_with refine alM d aZ ?_
 intro b2 w2 j d;clear j
 go_wp2_with ((with_reducible show WL _ _);first
  | refine bld 30 #[] [] (.agg zp.toArray) zi.out ?_
  | refine alA aZ ?_)
 intro b4 w3 zl zm qy
 go_wp2_with ((with_reducible show WL _ _);first
  | refine bld 30 #[] [] (.agg zp.toArray) zi.out ?_
  | refine stW qy qx aG (szP9 qx) ze.out ?_)
 intro w4 j hb;replace j:=tX zm j (fun i hi e=>by omega);replace d:=lW d zl j hb;clear zl j hb zm qy;go_wp2_with fail;refine((Bp w4 40 (by omega))).mono ?_;rintro e w5 ⟨c,M,B,rfl,o,hB,j⟩;replace d:=O (Cs.begin d.out o hB j);clear o hB j;obtain⟨G,S1,qt,zn,zx⟩:=Bi (t:=.hole) (n:=5) (b:=sec 1) (N:=31) (Kor.room_new 40 M 0) (pH (b:=0) (by decide)) (by rw[Tr.blk_hole];exact pH (a:=0) (by decide));have q1:=d.ki.bd;have qw:=Cc q1 (Tr.ok_hole _ 3) (by omega) (gR 1) qt;have zq:=(qw.2 G rfl).1;have zo:=jE.set jE.hole (qw.2 G rfl).2;have q0:=O zq;have qh:=O qt;have zg:=O zo;have za:=O q1;have zf:=O qw.1;have zt:=O zn;clear qt zn zx qw zq zo q1;go_wp2_with fail;apply xU (R:=fun(b6:Nat) (qd:Option Addr) (qe:Nat) (I:List Value) w'=>Hid (∃r B1,aE r G.ptr=I/\Cs aB w c S1 B1 [(r,G.ptr)] w' ((b6,I.toArray,30)::[(b4,zp.toArray,30),(b2,aX.toArray,30),(b1,aX.toArray,30)])))
 case h =>
  refine vI B d (by kernel_rfl) ?_;intro w6 SW qk f qr d;clear qr;have L:=d;refine tna 0 (.pointer c) rfl (sD9 f d) ?_;refine tnd 1 (.agg zp.toArray) rfl (ldD 30 (.tmp 4) b4 0 zp _ (fun w' h=>aD (L.own (qk w' h) 0)) aI (szP9 qx)) (sD9 f d) ?_;refine gL (k:=2) (l:=7) rfl rfl (by kernel_rfl) ?_ ?_
  ·go_wp2_with fail
   refine(rF w6 1).mono ?_;rintro e w7 ⟨v_,rfl,ho,j⟩;obtain⟨qd,qe,rfl,-,-⟩:=(Rd.of_owns ho).form;have qa:=O ho;have A:=O (tR ho (fun i e=>d.ki.lt e));replace d:=O (d.keeps j);clear ho j;go_wp2_with fail;refine⟨f _ d.dr,?_⟩;refine gL (k:=3) (l:=7) rfl rfl (by kernel_rfl) ?_ ?_
   ·go_wp2_with fail
    have V:=d.keep.size;refine((by rw[←qo.out];have h:=lZ d.ki (.slice none 0 0) .hole (Tr.ok_hole _ 3) (aU.hole _ _) 5 (by omega) (.slice qd 256 qe) (sec 1) (gR 1) (Rd.of_owns qa.out) A.out;rw[qh.out] at h;exact h:Ka w7 (bE w7 c B (.slice none 0 0) (some G) S1))).mono ?_;rintro e w8 ⟨r,B1,rfl,g,o,x,-,z,j⟩;replace g:aU w8 B1 r G.ptr:=g;rw[show eJ (some G)=G.ptr from rfl,show eY (some G)=0 from rfl];replace d:=O (d.laid (fun _ _ e=>e) g o x (oQ z) j);obtain⟨I,F,E,Q⟩:=nmP g;rw[F.out];clear V g o x z j qa A;go_wp2_with fail;refine⟨f _ d.dr,?_⟩;refine tna 4 (.tuple #[.agg I.toArray,.int .i64 0]) rfl (sD9 f d) ?_;refine tnb 5 (.agg I.toArray) rfl (sD9 f d) ?_;refine tnb 6 (.int .i64 0) rfl (sD9 f d) ?_;refine wA9 7 ?_;refine alD d f 30 (.agg aX.toArray) (aX.toArray) aZ ?_;intro b6 w9 qp j d;clear j;refine wA9 8 ?_;refine stD d f 0 rfl 30 (.tmp 6) (.tmp 22) I (.inl qp) (by first|rfl|simp[E,aG]) (szP9 E) Q.out ?_;intro wa d;refine tna 9 (.int .i64 0) rfl (sD9 f d) ?_;refine wpAnyH_done (by kernel_rfl) ?_ _;refine noP ?_;exact⟨rfl,b6,qd,qe,I,rfl,O ⟨r,B1,F.out,d.toCs⟩⟩
   ·refine alD d f 30 (.agg aX.toArray) (aX.toArray) aZ ?_
    intro b6 w8 qp j d;replace qa:=O (j.owns qa.out fun _ _=>id);replace A:=O (fun i hi=>And.intro (A i hi).1 (Nat.lt_of_lt_of_le (A i hi).2 (j).size));clear j;refine wA9 3 ?_;go_wp2_with fail;have V:=d.keep.size;refine((by rw[←qo.out];have h:=lZ d.ki (.slice none 0 0) .hole (Tr.ok_hole _ 3) (aU.hole _ _) 5 (by omega) (.slice qd 256 qe) (sec 1) (gR 1) (Rd.of_owns qa.out) A.out;rw[qh.out] at h;exact h:Ka w8 (bE w8 c B (.slice none 0 0) (some G) S1))).mono ?_;rintro e w9 ⟨r,B1,rfl,g,o,x,-,z,j⟩;replace g:aU w9 B1 r G.ptr:=g;rw[show eJ (some G)=G.ptr from rfl,show eY (some G)=0 from rfl];replace d:=O (d.laid (fun _ _ e=>e) g o x (oQ z) j);obtain⟨I,F,E,Q⟩:=nmP g;rw[F.out];clear V g o x z j qa A;go_wp2_with fail;refine⟨f _ d.dr,?_⟩;refine tna 4 (.tuple #[.agg I.toArray,.int .i64 0]) rfl (sD9 f d) ?_;refine tnb 5 (.agg I.toArray) rfl (sD9 f d) ?_;refine tnb 6 (.int .i64 0) rfl (sD9 f d) ?_;refine wA9 8 ?_;refine stD d f 0 rfl 30 (.tmp 6) (.tmp 22) I (.inl qp) (by first|rfl|simp[E,aG]) (szP9 E) Q.out ?_;intro wa d;refine tna 9 (.int .i64 0) rfl (sD9 f d) ?_;refine wpAnyH_done (by kernel_rfl) ?_ _;refine noP ?_;exact⟨rfl,b6,qd,qe,I,rfl,O ⟨r,B1,F.out,d.toCs⟩⟩
  ·refine alD d f 30 (.agg aX.toArray) (aX.toArray) aZ ?_
   intro b6 w7 qp j d;clear j;refine wA9 2 ?_;go_wp2_with fail;refine(rF w7 1).mono ?_;rintro e w8 ⟨v_,rfl,ho,j⟩;obtain⟨qd,qe,rfl,-,-⟩:=(Rd.of_owns ho).form;have qa:=O ho;have A:=O (tR ho (fun i e=>d.ki.lt e));replace d:=O (d.keeps j);clear ho j;go_wp2_with fail;refine⟨f _ d.dr,?_⟩;refine wA9 3 ?_;go_wp2_with fail;have V:=d.keep.size;refine((by rw[←qo.out];have h:=lZ d.ki (.slice none 0 0) .hole (Tr.ok_hole _ 3) (aU.hole _ _) 5 (by omega) (.slice qd 256 qe) (sec 1) (gR 1) (Rd.of_owns qa.out) A.out;rw[qh.out] at h;exact h:Ka w8 (bE w8 c B (.slice none 0 0) (some G) S1))).mono ?_;rintro e w9 ⟨r,B1,rfl,g,o,x,-,z,j⟩;replace g:aU w9 B1 r G.ptr:=g;rw[show eJ (some G)=G.ptr from rfl,show eY (some G)=0 from rfl];replace d:=O (d.laid (fun _ _ e=>e) g o x (oQ z) j);obtain⟨I,F,E,Q⟩:=nmP g;rw[F.out];clear V g o x z j qa A;go_wp2_with fail;refine⟨f _ d.dr,?_⟩;refine tna 4 (.tuple #[.agg I.toArray,.int .i64 0]) rfl (sD9 f d) ?_;refine tnb 5 (.agg I.toArray) rfl (sD9 f d) ?_;refine tnb 6 (.int .i64 0) rfl (sD9 f d) ?_;refine wA9 8 ?_;refine stD d f 0 rfl 30 (.tmp 6) (.tmp 22) I (.inl qp) (by first|rfl|simp[E,aG]) (szP9 E) Q.out ?_;intro wa d;refine tna 9 (.int .i64 0) rfl (sD9 f d) ?_;refine wpAnyH_done (by kernel_rfl) ?_ _;refine noP ?_;exact⟨rfl,b6,qd,qe,I,rfl,O ⟨r,B1,F.out,d.toCs⟩⟩
 case hR =>
  rintro b6 qd qe I wb HF;obtain⟨r,B1,qc,hl⟩:=HF.out;have d:=O hl;have F:=O qc;have E:I.length=35:=by rw[←qc];exact aF (d.pv0 0).pt.sum
  have Q:Hid (∀u∈I,u.oneCell'=true):=O (by rw[←qc];exact aL (d.pv0 0).pt);clear qc hl HF
  go_wp2_with refine ldQ (d.b 0) E ?_
  refine((by rw[←F.out];exact KI.commit d.ki (by rw[zf.txg];show (0:Int)+1<2147483648;decide) r G.ptr (d.pv0 0).pt q0.few 0 (by decide) q0.comm:Ka wb (AD wb c S1 B1))).mono ?_;rintro e wc ⟨rfl,M2,B2,zj,qi,qz,-,j⟩;have q5:=Kor.com_ext zj;have q3:=Kor.com_room (M':=M2) zt.out (S1.txg+1);have qv:(⟨S1.D,S1.Z,S1.cp,S1.L,M2,S1.txg+1⟩:Kor).txg=1:=by show S1.txg+1=1;rw[zf.txg];rfl
  obtain⟨S2,zk⟩:=zX9 ((⟨S1.D,S1.Z,S1.cp,S1.L,M2,S1.txg+1⟩:Kor))
  rw[zk] at qi q5 q3 qv;replace d:=O (d.turned qi qz j);have qj:=q0.ext q5;obtain⟨X,S3,ql,zw,zy⟩:=Bi (t:=G) (n:=6) (b:=sec 1) (N:=27) q3 (pH (b:=0) (by decide)) (by rw[zg.out 6 (by omega)];exact pH (a:=0) (by decide));have qu:=Cc qi.bd qj (by omega) (gR 1) ql;have qn:=O qj;have Y:=O ql;have zv:=O (qu.2 X rfl).1;have zh:=O (qj.ext qu.1.ext)
  have zu:Hid (NJ G X):=O (by
   have h1:=qh.out;have h2:=Y.out;unfold nX at h1 h2;rw[if_neg (by rw[Tr.blk_hole];exact pH (a:=0) (by decide))] at h1;rw[if_neg (by rw[zg.out 6 (by omega)];exact pH (a:=0) (by decide))] at h2;exact Rc za.out qi.bd rfl qv rfl (gR 1) (pH (b:=0) (by decide)) h1 qj h2)
  have zr:Hid ((eH 3 G).Nodup):=O (by
   have h1:=qh.out;unfold nX at h1;rw[if_neg (by rw[Tr.blk_hole];exact pH (a:=0) (by decide))] at h1;exact(xW (gR 1) 5 (by omega) za.out (eS.hole _ 3) h1).1.apart)
  clear q5 q3 qv zk qj ql zw zy qu qi qz zj j;go_wp2_with fail;apply xU (R:=fun(b9:Nat) (qf:Option Addr) (qg:Nat) (K:List Value) w'=>Hid (∃J B3,aE J X.ptr=K/\Cs aB w c S3 B3 [(J,X.ptr),(r,G.ptr)] w' ((b9,K.toArray,30)::[(b6,I.toArray,30),(b4,zp.toArray,30),(b2,aX.toArray,30),(b1,aX.toArray,30)])))
  case h =>
   refine vI B2 d (by kernel_rfl) ?_;intro wd SW qk f qr d;clear qr;have L:=d;refine tna 0 (.pointer c) rfl (sD9 f d) ?_;refine tnd 1 (.agg I.toArray) rfl (ldD 30 (.tmp 6) b6 0 I _ (fun w' h=>aD (L.own (qk w' h) 0)) aI (szP9 E)) (sD9 f d) ?_;refine gL (k:=2) (l:=7) rfl rfl (by kernel_rfl) ?_ ?_
   ·go_wp2_with fail
    refine(rF wd 1).mono ?_;rintro e we ⟨v_,rfl,ho,j⟩;obtain⟨qf,qg,rfl,-,-⟩:=(Rd.of_owns ho).form;have qb:=O ho;have C:=O (tR ho (fun i e=>d.ki.lt e));replace d:=O (d.keeps j);clear ho j;go_wp2_with fail;refine⟨f _ d.dr,?_⟩;refine gL (k:=3) (l:=7) rfl rfl (by kernel_rfl) ?_ ?_
    ·go_wp2_with fail
     have V:=d.keep.size;refine((by rw[←F.out];have h:=lZ d.ki r G qn.out (d.pv0 0) 6 (by omega) (.slice qf 256 qg) (sec 1) (gR 1) (Rd.of_owns qb.out) C.out;rw[Y.out] at h;exact h:Ka we (bE we c B2 (.slice none 0 0) (some X) S3))).mono ?_;rintro e wf ⟨J,B3,rfl,g,o,x,-,z,j⟩;replace g:aU wf B3 J X.ptr:=g;rw[show eJ (some X)=X.ptr from rfl,show eY (some X)=0 from rfl];replace d:=O (d.laid (fun _ _ e=>e) g o x (oQ z) j);obtain⟨K,W,H,U⟩:=nmP g;rw[W.out];clear V g o x z j qb C;go_wp2_with fail;refine⟨f _ d.dr,?_⟩;refine tna 4 (.tuple #[.agg K.toArray,.int .i64 0]) rfl (sD9 f d) ?_;refine tnb 5 (.agg K.toArray) rfl (sD9 f d) ?_;refine tnb 6 (.int .i64 0) rfl (sD9 f d) ?_;refine wA9 7 ?_;refine alD d f 30 (.agg aX.toArray) (aX.toArray) aZ ?_;intro b9 wg qq j d;clear j;refine wA9 8 ?_;refine stD d f 0 rfl 30 (.tmp 9) (.tmp 32) K (.inl qq) (by first|rfl|simp[H,aG]) (szP9 H) U.out ?_;intro wh d;refine tna 9 (.int .i64 0) rfl (sD9 f d) ?_;refine wpAnyH_done (by kernel_rfl) ?_ _;refine noP ?_;exact⟨rfl,b9,qf,qg,K,rfl,O ⟨J,B3,W.out,d.toCs⟩⟩
    ·refine alD d f 30 (.agg aX.toArray) (aX.toArray) aZ ?_
     intro b9 wf qq j d;replace qb:=O (j.owns qb.out fun _ _=>id);replace C:=O (fun i hi=>And.intro (C i hi).1 (Nat.lt_of_lt_of_le (C i hi).2 (j).size));clear j;refine wA9 3 ?_;go_wp2_with fail;have V:=d.keep.size;refine((by rw[←F.out];have h:=lZ d.ki r G qn.out (d.pv0 0) 6 (by omega) (.slice qf 256 qg) (sec 1) (gR 1) (Rd.of_owns qb.out) C.out;rw[Y.out] at h;exact h:Ka wf (bE wf c B2 (.slice none 0 0) (some X) S3))).mono ?_;rintro e wg ⟨J,B3,rfl,g,o,x,-,z,j⟩;replace g:aU wg B3 J X.ptr:=g;rw[show eJ (some X)=X.ptr from rfl,show eY (some X)=0 from rfl];replace d:=O (d.laid (fun _ _ e=>e) g o x (oQ z) j);obtain⟨K,W,H,U⟩:=nmP g;rw[W.out];clear V g o x z j qb C;go_wp2_with fail;refine⟨f _ d.dr,?_⟩;refine tna 4 (.tuple #[.agg K.toArray,.int .i64 0]) rfl (sD9 f d) ?_;refine tnb 5 (.agg K.toArray) rfl (sD9 f d) ?_;refine tnb 6 (.int .i64 0) rfl (sD9 f d) ?_;refine wA9 8 ?_;refine stD d f 0 rfl 30 (.tmp 9) (.tmp 32) K (.inl qq) (by first|rfl|simp[H,aG]) (szP9 H) U.out ?_;intro wh d;refine tna 9 (.int .i64 0) rfl (sD9 f d) ?_;refine wpAnyH_done (by kernel_rfl) ?_ _;refine noP ?_;exact⟨rfl,b9,qf,qg,K,rfl,O ⟨J,B3,W.out,d.toCs⟩⟩
   ·refine alD d f 30 (.agg aX.toArray) (aX.toArray) aZ ?_
    intro b9 we qq j d;clear j;refine wA9 2 ?_;go_wp2_with fail;refine(rF we 1).mono ?_;rintro e wf ⟨v_,rfl,ho,j⟩;obtain⟨qf,qg,rfl,-,-⟩:=(Rd.of_owns ho).form;have qb:=O ho;have C:=O (tR ho (fun i e=>d.ki.lt e));replace d:=O (d.keeps j);clear ho j;go_wp2_with fail;refine⟨f _ d.dr,?_⟩;refine wA9 3 ?_;go_wp2_with fail;have V:=d.keep.size;refine((by rw[←F.out];have h:=lZ d.ki r G qn.out (d.pv0 0) 6 (by omega) (.slice qf 256 qg) (sec 1) (gR 1) (Rd.of_owns qb.out) C.out;rw[Y.out] at h;exact h:Ka wf (bE wf c B2 (.slice none 0 0) (some X) S3))).mono ?_;rintro e wg ⟨J,B3,rfl,g,o,x,-,z,j⟩;replace g:aU wg B3 J X.ptr:=g;rw[show eJ (some X)=X.ptr from rfl,show eY (some X)=0 from rfl];replace d:=O (d.laid (fun _ _ e=>e) g o x (oQ z) j);obtain⟨K,W,H,U⟩:=nmP g;rw[W.out];clear V g o x z j qb C;go_wp2_with fail;refine⟨f _ d.dr,?_⟩;refine tna 4 (.tuple #[.agg K.toArray,.int .i64 0]) rfl (sD9 f d) ?_;refine tnb 5 (.agg K.toArray) rfl (sD9 f d) ?_;refine tnb 6 (.int .i64 0) rfl (sD9 f d) ?_;refine wA9 8 ?_;refine stD d f 0 rfl 30 (.tmp 9) (.tmp 32) K (.inl qq) (by first|rfl|simp[H,aG]) (szP9 H) U.out ?_;intro wh d;refine tna 9 (.int .i64 0) rfl (sD9 f d) ?_;refine wpAnyH_done (by kernel_rfl) ?_ _;refine noP ?_;exact⟨rfl,b9,qf,qg,K,rfl,O ⟨J,B3,W.out,d.toCs⟩⟩
  case hR =>
   rintro b9 qf qg K wi HF;obtain⟨J,B3,qc,hl⟩:=HF.out;have d:=O hl;have W:=O qc;have H:K.length=35:=by rw[←qc];exact aF (d.pv0 0).pt.sum
   have U:Hid (∀u∈K,u.oneCell'=true):=O (by rw[←qc];exact aL (d.pv0 0).pt);clear qc hl HF;go_wp2_with fail;refine vI (fun k=>k=b1\/k=b2) d (by kernel_rfl) ?_;intro wj SW qk f qr d;clear qr;have L:=d;refine tna 0 (.pointer c) rfl (sD9 f d) ?_;refine tnd 1 (.agg I.toArray) rfl (ldD 30 (.tmp 6) b6 0 I _ (fun w' h=>aD ((qk w' h).blk (L.b 1) (by rintro (e|e);exact(L.toCs.ne 4 1) e;exact(L.toCs.ne 3 1) e))) aI (szP9 E)) (sD9 f d) ?_;refine tnd 2 (.agg K.toArray) rfl (ldD 30 (.tmp 9) b9 0 K _ (fun w' h=>aD ((qk w' h).blk (L.b 0) (by rintro (e|e);exact(L.toCs.ne 4 0) e;exact(L.toCs.ne 3 0) e))) aI (szP9 H)) (sD9 f d) ?_;refine tna 3 (.int .i64 0) rfl (sD9 f d) ?_;refine tnb 4 (.bool true) rfl (sD9 f d) ?_;refine tna 5 (.bool true) rfl (sD9 f d) ?_;refine tna 6 (.int .i64 0) rfl (sD9 f d) ?_;refine tnb 7 (.bool true) rfl (sD9 f d) ?_;refine tna 8 (.bool true) rfl (sD9 f d) ?_;refine tna 9 (.bool true) rfl (sD9 f d) ?_;refine tna 10 (.int .i64 0) rfl (sD9 f d) ?_;refine tnb 11 (.bool true) rfl (sD9 f d) ?_;refine tna 12 (.bool true) rfl (sD9 f d) ?_;refine tna 13 (.pointer c) rfl (sD9 f d) ?_;refine wA9 14 ?_;refine stD d f 4 rfl 30 (.tmp 1) (.tmp 35) I (.inr (.inl rfl)) (by first|rfl|simp[E,aG]) (szP9 E) Q.out ?_;intro wk d;refine wA9 15 ?_;refine stD d f 3 rfl 30 (.tmp 2) (.tmp 36) K (.inr (.inr rfl)) (by first|rfl|simp[H,aG]) (szP9 H) U.out ?_;intro wl d;refine tna 16 (.bool true) rfl (sD9 f d) ?_;refine wpAnyH_done (by kernel_rfl) ?_ _;refine noP ?_;have zb:=O (d.b 4);have zd:=O (d.b 3);have HP:Hid (Hi w (.returned (.tuple #[.pointer c,.agg I.toArray,.agg K.toArray,.bool true])) wl):=O ⟨c,r,J,G,X,S3,B3,by rw[F.out,W.out],d.ki,zh.out,zv.out,zr.out,d.pv0 1,d.pv0 0,zu.out,fun k e=>(d.bb k e).elim False.elim id,d.keep⟩;clear d L qk f;go_wp2_with fail;refine bodyPost_ret (FE rfl _ _ b1 b2 _ _ _ _ _ _ _ _ rfl rfl zb.out zd.out aI rfl (by rw[List.size_toArray,E];exact bX) aI rfl (by rw[List.size_toArray,H];exact bX)) rfl ?_;exact HP.out
structure GrV where
 e:EdV
 com:Bool
def lG(x:GrV):List Value:=[.int .i64 x.e.n,.int .i64 x.e.many,.bool x.e.cut,.bool x.com,vb x.e.b]
def DY(l:List GrV):List Value:=l.flatMap lG
def GrV.up(x:GrV):Nat:=if x.e.cut then x.e.up else x.e.fr+1
def GrV.to(x:GrV):UInt8:=if x.e.cut then 0 else x.e.b
def fV(bl:Nat->UInt8)(f g:Nat)(b:UInt8):Nat->UInt8:=fun i=>if f≤i/\i<g then b else bl i
def fW(tc:Nat->Bool)(f g:Nat):Nat->Bool:=fun i=>if f≤i/\i<g then true else tc i
theorem GrV.bl(x:GrV)(bl:Nat->UInt8):fV bl x.e.fr x.up x.to=edB x.e bl:=by
 funext i
 unfold fV edB GrV.up GrV.to;cases x.e.cut with
 | true=>rfl
 | false =>
   show (if x.e.fr≤i/\i<x.e.fr+1 then x.e.b else bl i)=if i=x.e.fr then x.e.b else bl i
   by_cases e:i=x.e.fr
   ·rw[if_pos (by omega),if_pos e]
   ·rw[if_neg (by omega),if_neg e]
theorem GrV.frUp(x:GrV):x.e.fr≤x.up/\x.up≤64:=by
 have d:=x.e.frUp;have e:=x.e.frLt;unfold GrV.up;split<;>omega
theorem LI(bl:Nat->UInt8)(f:Nat)(b:UInt8):fV bl f f b=bl:=by
 funext i;unfold fV;rw[if_neg (by omega)]
theorem LJ(tc:Nat->Bool)(f:Nat):fW tc f f=tc:=by
 funext i;unfold fW;rw[if_neg (by omega)]
theorem Ju(bl:Nat->UInt8)(f:Nat)(b:UInt8)(d:f≤k):vG (fV bl f k b) k b=fV bl f (k+1) b:=by
 funext i
 unfold vG fV
 by_cases e:i=k
 ·subst e;rw[if_pos rfl,if_pos ⟨d,by omega⟩]
 ·rw[if_neg e]
  by_cases h:f≤i/\i<k
  ·rw[if_pos h,if_pos ⟨h.1,by omega⟩]
  ·rw[if_neg h,if_neg (by omega)]
def BF(tc:Nat->Bool)(n:Nat):Nat->Bool:=fun i=>if i=n then true else tc i
theorem Jv(tc:Nat->Bool)(f:Nat)(d:f≤k):BF (fW tc f k) k=fW tc f (k+1):=by
 funext i
 unfold BF fW
 by_cases e:i=k
 ·subst e;rw[if_pos rfl,if_pos ⟨d,by omega⟩]
 ·rw[if_neg e]
  by_cases h:f≤i/\i<k
  ·rw[if_pos h,if_pos ⟨h.1,by omega⟩]
  ·rw[if_neg h,if_neg (by omega)]
def tcC(tc:Nat->Bool):List Value:=(List.range 64).map fun i=>.bool (tc i)
theorem Cg(tc:Nat->Bool):(tcC tc).length=64:=by unfold tcC;simp
theorem Pv(tc:Nat->Bool):∀u∈tcC tc,u.oneCell'=true:=by
 intro u d;unfold tcC at d;obtain⟨i,-,rfl⟩:=List.mem_map.1 d;rfl
theorem Pw(tc:Nat->Bool)(j:n<64):(tcC tc).set n (.bool true)=tcC (BF tc n):=by
 refine List.ext_getElem (by rw[List.length_set,Cg,Cg]) fun i d g=>?_
 rw[List.getElem_set];have q:∀f h,(tcC f)[i]'h=Value.bool (f i):=fun f h=>by simp[tcC]
 rw[q,q];unfold BF
 by_cases e:n=i
 ·rw[if_pos e,if_pos e.symm]
 ·rw[if_neg e,if_neg (fun h=>e h.symm)]
theorem Px(bl:Nat->UInt8)(d:n<64)(b:UInt8):(blC bl).set n (vb b)=blC (vG bl n b):=by
 have:=Pf bl d b;rw[show spl (blC bl).toArray n [vb b]=(blC bl).toArray.setIfInBounds n (vb b) from rfl,List.setIfInBounds_toArray] at this;exact congrArg Array.toList this
def eP(v:Value)(p:Pt)(bl:Nat->UInt8)(tc:Nat->Bool):List Value:=aE v p++(blC bl++tcC tc)
theorem oE(h:p.sum.length=32)(bl:Nat->UInt8)(tc:Nat->Bool):(eP v p bl tc).length=163:=by
 unfold eP;rw[List.length_append,List.length_append,aF h,nY,Cg]
theorem FF(h:PtV w v p)(bl:Nat->UInt8)(tc:Nat->Bool):∀u∈eP v p bl tc,u.oneCell'=true:=by
 intro u d;rcases List.mem_append.1 d with d|d
 ·exact aL h u d
 ·rcases List.mem_append.1 d with d|d
  ·exact Pe bl u d
  ·exact Pv tc u d
theorem QW(h:p.sum.length=32)(bl:Nat->UInt8)(tc:Nat->Bool)(d:n<64)(b:UInt8):spl (eP v p bl tc).toArray (35+n) [vb b]=(eP v p (vG bl n b) tc).toArray:=by
 show (eP v p bl tc).toArray.setIfInBounds (35+n) (vb b)=_;rw[List.setIfInBounds_toArray]
 congr 1
 unfold eP;rw[List.set_append_right (35+n) _ (by rw[aF h];omega),aF h,List.set_append_left (35+n-35) _ (by rw[nY];omega),show 35+n-35=n by omega,Px bl d]
theorem QX(h:p.sum.length=32)(bl:Nat->UInt8)(tc:Nat->Bool)(d:n<64):spl (eP v p bl tc).toArray (99+n) [.bool true]=(eP v p bl (BF tc n)).toArray:=by
 show (eP v p bl tc).toArray.setIfInBounds (99+n) (.bool true)=_;rw[List.setIfInBounds_toArray]
 congr 1
 unfold eP;rw[List.set_append_right (99+n) _ (by rw[aF h];omega),aF h,List.set_append_right (99+n-35) _ (by rw[nY];omega),nY,show 99+n-35-64=n by omega,Pw tc d]
theorem QY{e:Value}{d:Pt}(h:p.sum.length=32)(f:d.sum.length=32)(bl:Nat->UInt8)(tc:Nat->Bool):spl (eP v p bl tc).toArray 0 (aE e d)=(eP e d bl tc).toArray:=by
 unfold eP;exact kY [] (aE v p) (aE e d) _ (by rw[aF h,aF f])
structure Wel(S:Kor)(t:Tr)(bl:Nat->UInt8):Prop where
 bd:S.Bd
 kept:eS S 3 t
 blks:jE t bl
 cps:∀p∈cR 3 t,p.addrs.length=S.cp
theorem Wel.ext{S T:Kor}{bl:Nat->UInt8}(h:Wel S t bl)(e:Ext S T)(d:T.Bd):Wel T t bl:=⟨d,h.kept.ext e,h.blks,fun p f=>by rw[e.cp];exact h.cps p f⟩
theorem Wel.hole{S:Kor}(e:S.Bd):Wel S .hole fun _=>0:=⟨e,eS.hole S 3,jE.hole,fun p d=>by rw[sD] at d;cases d⟩
structure Was(S:Kor)(s:Tr)(T:Kor)(t:Tr)(tc:Nat->Bool):Prop where
 ext:Ext S T
 since:dP S 3 s t
 leaf:∀i,i<64->tc i=false->fU 3 t i=fU 3 s i
theorem Was.to{S T U:Kor}(h:Was S s T t tc)(e:Ext T U):Was S s U t tc:=⟨h.ext.trans e,h.since,h.leaf⟩
theorem LK{S:Kor}{bl:Nat->UInt8}(h:Wel S t bl){x:GrV}{T:Kor}(d:edR S t x.e=(some u,T)):Wel T u (edB x.e bl)/\dP S 3 t u/\∀i,i<64->¬(x.e.fr≤i/\i<x.up)->fU 3 u i=fU 3 t i:=by
 have h0:=Bj h.bd h.kept.ok h.blks d;obtain⟨F,C⟩:=h0.2 u rfl
 have key:eS T 3 u/\dP S 3 t u/\∀i,i<64->¬(x.e.fr≤i/\i<x.up)->fU 3 u i=fU 3 t i:=by
  unfold edR at d;unfold GrV.up;cases z:x.e.cut with
  | true =>
    rw[z] at d;have d:bY 3 S t (x.e.fr:Int) (x.e.up:Int)=(some u,T):=d;obtain⟨o,r⟩:=De (Nat.le_refl 3) h.bd h.kept d;refine⟨o,r,fun i j f=>Bx d ?_⟩;have f:¬(x.e.fr≤i/\i<x.e.up):=f;rw[show (4:Nat) ^ 3=64 from rfl,Nat.mod_eq_of_lt j];omega
  | false =>
    rw[z] at d;have d:nX S t x.e.fr (sec x.e.b)=(some u,T):=d;unfold nX at d
    by_cases c:t.blk 3 x.e.fr=sec x.e.b
    ·rw[if_pos c] at d
     injection d with g A
     injection g with g
     subst g A;exact⟨h.kept,dP.refl _ _ _,fun _ _ _=>rfl⟩
    ·rw[if_neg c] at d
     obtain⟨o,r⟩:=xW (gR x.e.b) x.e.fr (Nat.le_refl 3) h.bd h.kept d;refine⟨o,r,fun i j f=>Bv d ?_⟩;have f:¬(x.e.fr≤i/\i<x.e.fr+1):=f;have:=x.e.frLt;rw[show (4:Nat) ^ 3=64 from rfl,Nat.mod_eq_of_lt j,Nat.mod_eq_of_lt this];omega
 refine⟨⟨h0.1.bd,key.1,C,fun p E=>?_⟩,key.2⟩;rw[h0.1.ext.cp];exact(key.2.1 p E).elim (h.cps p) fun e=>e.1
theorem Was.ed{f:Kor}{S:Kor}{bl:Nat->UInt8}(e:Was f s S t tc)(h:Wel S t bl){x:GrV}{T:Kor}(g:edR S t x.e=(some u,T)):Was f s T u (fW tc x.e.fr x.up):=by
 obtain⟨z,o,r⟩:=LK h g;have h0:=Bj h.bd h.kept.ok h.blks g;refine⟨e.ext.trans h0.1.ext,e.since.trans e.ext o,fun i j d=>?_⟩;unfold fW at d
 by_cases c:x.e.fr≤i/\i<x.up
 ·rw[if_pos c] at d;cases d
 ·rw[if_neg c] at d
  exact(r i j c).trans (e.leaf i j d)
def Kor.com(S:Kor)(M':Nat->Nat->List UInt8):Kor:=⟨S.D,S.Z,S.cp,S.L,M',S.txg+1⟩
theorem Qw{S:Kor}(d:S.Bd)(h:S.txg+1<2147483648)(M':Nat->Nat->List UInt8):(S.com M').Bd:=⟨d.d2,d.d8,d.z8,d.z4,d.c1,d.c3,d.cD,by have:=d.t0;show 0≤S.txg+1;omega,h⟩
structure yB(S:Kor)(t:Tr)(bl:Nat->UInt8)(tc:Nat->Bool)(T:Kor)(u:Tr)(bl':Nat->UInt8)(tc':Nat->Bool):Prop where
 wel:Wel T u bl'
 ext:Ext S T
 txg:T.txg≤S.txg+1
 was:∀S0 s,Was S0 s S t tc->Was S0 s T u tc'
theorem LL{S:Kor}{bl:Nat->UInt8}(tc:Nat->Bool)(h:Wel S t bl){x:GrV}{T:Kor}(d:edR S t x.e=(none,T)):yB S t bl tc T t bl tc:=by
 have h0:=(Bj h.bd h.kept.ok h.blks d).1;exact⟨h.ext h0.ext h0.bd,h0.ext,by rw[h0.txg];omega,fun _ _ e=>e.to h0.ext⟩
theorem Py{S:Kor}{bl:Nat->UInt8}(tc:Nat->Bool)(h:Wel S t bl){x:GrV}{T:Kor}(d:edR S t x.e=(some u,T)):yB S t bl tc T u (edB x.e bl) (fW tc x.e.fr x.up):=by
 have h0:=(Bj h.bd h.kept.ok h.blks d).1;exact⟨(LK h d).1,h0.ext,by rw[h0.txg];omega,fun _ _ e=>e.ed h d⟩
theorem NR{S:Kor}{bl:Nat->UInt8}{T:Kor}{f:Nat->UInt8}{g:Nat->Bool}(h:yB S t bl tc T u f g)(j:T.txg=S.txg)(x:S.txg+1<2147483648)(o:∀d s,5≤s->M' d s=T.M d s):yB S t bl tc (T.com M') u f g:=by
 have e:Ext T (T.com M'):=Kor.com_ext o;exact⟨h.wel.ext e (Qw h.wel.bd (by rw[j];exact x) M'),h.ext.trans e,by show T.txg+1≤_;rw[j];omega,fun _ _ r=>(h.was _ _ r).to e⟩
def mV(d:Nat->Int)(p:Pt):Nat->Int:=fun i=>if i=p.level.toNat then p.birth else d i
def iU(d:Nat->Int)(l:List Pt):Nat->Int:=l.foldl mV d
def kN:(Nat->Int)->List Pt->Prop
 | _,[]=>True
 | d,p::l=>p.birth≤d (p.level.toNat+1)/\kN (mV d p) l
theorem FG(d:Nat->Int)(a b:List Pt):iU d (a++b)=iU (iU d a) b:=List.foldl_append
theorem kN.app{b:List Pt}:∀{a:List Pt}{d:Nat->Int},kN d (a++b)↔kN d a/\kN (iU d a) b
 | [],d=>⟨fun h=>⟨trivial,h⟩,fun h=>h.2⟩
 | p::a,d=>by
   show _/\kN (mV d p) (a++b)↔(_/\kN (mV d p) a)/\kN (iU (mV d p) a) b;rw[kN.app,and_assoc]
theorem kN.at{l:List Pt}{d:Nat->Int}(h:kN d l)(f:l[k]?=some p):p.birth≤iU d (l.take k) (p.level.toNat+1):=by
 obtain⟨j,g⟩:=List.getElem?_eq_some_iff.1 f;have e:l=l.take k++p::l.drop (k+1):=by rw[←g,List.getElem_cons_drop,List.take_append_drop]
 rw[e] at h;exact(kN.app.1 h).2.1
theorem Do{l:Nat}(h:∀i,i<4->∀d:Nat->Int,((t.kid i).isHole=true\/(t.kid i).ptr.birth≤d (l+1))->kN d (cR l (t.kid i))/\∀j,l<j->iU d (cR l (t.kid i)) j=d j)(d:Nat->Int)(f:∀i,i<4->((t.kid i).isHole=true\/(t.kid i).ptr.birth≤d (l+1))) :
 ∀n,n≤4->kN d ((List.range n).flatMap fun i=>cR l (t.kid i))/\∀j,l<j->iU d ((List.range n).flatMap fun i=>cR l (t.kid i)) j=d j
 | 0,_=>⟨trivial,fun _ _=>rfl⟩
 | n+1,z=>by
   obtain⟨o,e⟩:=Do h d f n (by omega);obtain⟨r,x⟩:=h n (by omega) (iU d ((List.range n).flatMap fun i=>cR l (t.kid i))) (by rw[e _ (Nat.lt_succ_self l)];exact f n (by omega));rw[List.range_succ,List.flatMap_append,show ([n].flatMap fun i=>cR l (t.kid i))=cR l (t.kid n) from List.append_nil _];exact⟨kN.app.2 ⟨o,r⟩,fun j g=>by rw[FG,x j g,e j g]⟩
theorem Dp{S:Kor}:∀{l:Nat}{t:Tr},Tr.Ok S l t->sW l t->∀d:Nat->Int,(t.isHole=true\/t.ptr.birth≤d (l+1))->kN d (cR l t)/\∀j,l<j->iU d (cR l t) j=d j
 | 0,t,h,x,d,g=>by
   rw[Dc];cases o:t.isHole with
   | true=>exact⟨trivial,fun _ _=>rfl⟩
   | false =>
     have E:=(h.born o).2.2;have f:t.ptr.level.toNat=0:=by omega
     refine⟨⟨by rw[f];exact g.elim (fun e=>by rw[o] at e;cases e) id,trivial⟩,fun j C=>?_⟩;show (if j=t.ptr.level.toNat then _ else _)=_;rw[if_neg (by omega)]
 | l+1,t,h,x,d,g=>by
   rw[xV];cases o:t.isHole with
   | true=>exact⟨trivial,fun _ _=>rfl⟩
   | false =>
     have E:=(h.born o).2.2;have f:t.ptr.level.toNat=l+1:=by omega
     obtain⟨z,A⟩:=Do (t:=t) (fun i r d g=>Dp (h.kid r) (x i r).2 d g) (mV d t.ptr) (fun i r=>by
      show _\/_≤(if l+1=t.ptr.level.toNat then _ else _);rw[if_pos f.symm];exact(x i r).1) 4 (Nat.le_refl 4)
     refine⟨⟨by rw[f];exact g.elim (fun e=>by rw[o] at e;cases e) id,z⟩,fun j C=>?_⟩;show iU (mV d t.ptr) _ j=_;rw[A j (by omega)];show (if j=t.ptr.level.toNat then _ else _)=_;rw[if_neg (by omega)]
def bs0(i:Nat):Int:=if i=3\/i=4 then 2147483649 else 0
theorem Wel.fine{S:Kor}{bl:Nat->UInt8}(h:Wel S t bl):kN bs0 (cR 3 t):=by
 refine(Dp h.kept.ok h.kept.aged bs0 ?_).1;cases d:t.isHole with
 | true=>exact .inl rfl
 | false =>
   have:=(h.kept.ok.born d).2.1;have:=h.bd.t1;right;show _≤(2147483649:Int);omega
theorem Qx{S:Kor}(h:Tr.Ok S 3 t):∀p∈cR 3 t,1≤p.birth/\0≤p.level/\p.level≤3:=fun p d=>by
 unfold cR at d;obtain⟨x,j,rfl⟩:=List.mem_map.1 d;obtain⟨-,e,f,g,-⟩:=Ce h j;exact⟨e,f,g⟩
theorem Hj{S:Kor}:∀{l:Nat}{t:Tr},Tr.Ok S l t->∀a,bks (aV 0) l t a=jQ l t a
 | 0,t,h,a=>by
   rw[vP,Dg h];cases d:t.isHole with
   | true=>rfl
   | false =>
     have:=(h.born d).1;rw[show aV 0 t.ptr=true from decide_eq_true (by omega)];rfl
 | l+1,t,h,a=>by
   rw[vQ,Dh h];cases d:t.isHole with
   | true=>rfl
   | false =>
     have:=(h.born d).1;rw[show aV 0 t.ptr=true from decide_eq_true (by omega)];exact iT fun i e=>Hj (h.kid (List.mem_range.1 e)) _
def rN(l:List Pt):Nat:=(l.filter fun p=>p.level == 0).length
theorem LM(l:List Pt)(p:Pt):rN (l++[p])=rN l+if p.level=0 then 1 else 0:=by
 unfold rN;rw[List.filter_append,List.length_append]
 congr 1
 by_cases h:p.level=0
 ·rw[if_pos h];simp[h]
 ·rw[if_neg h];simp[h]
theorem NS(l:Nat)(t:Tr):rN (cR l t)=(jQ l t 0).length:=by
 unfold rN cR jQ;rw[List.filter_map,List.length_map,List.length_map];rfl
theorem Wel.nums{S:Kor}{bl:Nat->UInt8}(h:Wel S t bl):(jQ 3 t 0).Pairwise (·<·)/\(jQ 3 t 0).length=t.many 3/\∀x∈jQ 3 t 0,x<64/\bl x≠0:=by
 obtain⟨f,g,j⟩:=Fp h.kept.ok 0;refine⟨f,g,fun x o=>?_⟩;obtain⟨i,rfl,d,r⟩:=j x o;rw[Nat.zero_add];refine⟨d,fun e=>r ?_⟩;rw[h.blks i d,e];rfl
theorem Wel.newer{S:Kor}{bl:Nat->UInt8}(h:Wel S t bl)(x:Int):(thr (aV x) 3 t 0).map (·.1)=(cR 3 t).filter (aV x):=by
 rw[C9 x h.kept.ok h.kept.aged];unfold cR;rw[List.filter_map];rfl
theorem Wel.apart{S:Kor}{bl:Nat->UInt8}(h:Wel S t bl)(d:S.cp=2):(iB (eH 3 t)).length=2*(cR 3 t).length:=by
 rw[zO h.kept.apart,←AA (l:=cR 3 t) fun p e=>by rw[h.cps p e,d]];unfold eH cR;rw[List.flatMap_map]
theorem Gv{d:Array Oper}{Q:Exit->Act->World->Prop}{rest:List Oper}{o:Oper}{a:Act}(f:Region.wanted o (yielded d a.tmps)=true)(h:wpList P d Q ({ o with guard:=none }::rest) a w):wpList P d Q (o::rest) a w:=by
 unfold wpList at h ⊢;rw[if_pos f];rw[if_pos (by simp[Region.wanted])] at h;exact h
theorem QZ:prog.underlying 38=some (.struct (prog.fieldsOf 38)):=by kernel_rfl
theorem Qy:(prog.info? 38).map (·.size)=some 5:=by kernel_rfl
theorem pI:prog.underlying 34=some (.struct (prog.fieldsOf 34)):=by kernel_rfl
theorem gE:(prog.info? 34).map (·.size)=some 163:=by kernel_rfl
def zgw:List Value:=eP (.slice none 0 0) zPt (fun _=>0) fun _=>false
theorem tY:zgw.length=163:=oE rfl _ _
theorem Jw:Hid (∀w,(zeroValue 34).run prog w=.ok (.agg zgw.toArray) w):=O (by intro w;kernel_rfl)
theorem yP(h:PtV w v p)(bl:Nat->UInt8)(tc:Nat->Bool):∃l,Hid (eP v p bl tc=l)/\l.length=163/\Hid (∀u∈l,u.oneCell'=true):=⟨_,O rfl,oE h.sum bl tc,O (FF h bl tc)⟩
theorem qM{T:TypeId}{fr:Nat×Nat}{bl:Nat->UInt8}{d:List Value}(f:w.heap[b]?=some (.cells d.toArray T fr))(h:eP v p bl tc=d):w.rangeAt b 0 (aE v p):=fun j u e=>by
 refine aC f ?_;rw[←h,List.getElem?_toArray,Nat.zero_add];unfold eP;rw[List.getElem?_append_left (List.getElem?_eq_some_iff.1 e).1];exact e
def oF(w:World)(c:Nat)(B:Nat->Prop)(S:Kor)(t:Tr)(bl:Nat->UInt8)(tc:Nat->Bool)(g:Value)(e:Ending)(w':World):Prop:=
 ∃v B' T u d f,e=.returned (.tuple #[.agg (eP v u.ptr d f).toArray,.bool true])/\yB S t bl tc T u d f/\aU w' B' v u.ptr/\KI w' c T B'/\(∀k,B' k->B k\/w.heap.size≤k)/\(v=g\/dM w v)/\aA B w w'
theorem FH{S:Kor}(hK:KI w c S B)(hs:S.txg+1<2147483648)(pv:Value)(t:Tr)(bl:Nat->UInt8)(hw:Wel S t bl)(hp:aU w B pv t.ptr)(tc:Nat->Bool)(x:GrV)(hx:(-9223372036854775808≤x.e.n/\x.e.n≤9223372036854775807)/\(-9223372036854775808≤x.e.many/\x.e.many≤9223372036854775807)):Calls prog 6 #[.pointer c,.agg (eP pv t.ptr bl tc).toArray,.agg (lG x).toArray] w (oF w c B S t bl tc pv):=by
 have HT:=O hw.kept.ok;have x4:=O hw;have HS:=O hs;have d:=O (Cs.start1 hK hp);obtain⟨gc,qi,qw,zi⟩:=yP hp.pt bl tc;have q9:=O x.e.frLt;have za:=O x.e.frInt;have qv:=O x.e.upInt;have qq:=O x.e.frUp;have HN:=O hx;have xq:(lG x).length=5:=rfl;obtain⟨xn,zf⟩:=zX9 x.e.n
 obtain⟨xm,ze⟩:=zX9 x.e.many
 obtain⟨xb,qx⟩:=zX9 x.e.b
 obtain⟨xc,qg⟩:=zX9 x.e.cut
 obtain⟨xo,zt⟩:=zX9 x.com
 obtain⟨f,hf⟩:=zX9 x.e.fr
 obtain⟨g,hg⟩:=zX9 x.e.up
 obtain⟨z,hz⟩:=zX9 x.up
 have h0:(lG x).toArray[0]?=some (.int .i64 xn):=by rw[←zf];rfl
 have h1:(lG x).toArray[1]?=some (.int .i64 xm):=by rw[←ze];rfl
 have h2:(lG x).toArray[2]?=some (.bool xc):=by rw[←qg];rfl
 have h3:(lG x).toArray[3]?=some (.bool xo):=by rw[←zt];rfl
 have h4:(lG x).toArray[4]?=some (vb xb):=by rw[←qx];rfl
 obtain⟨rr,qf⟩:=zX9 (edR S t x.e)
 obtain⟨r,T⟩:=rr;have qt:Hid (xc=false->nX S t f (sec xb)=(r,T)):=O (fun e=>by rw[←qf];unfold edR;rw[qg,e,hf,qx];rfl);have qu:Hid (xc=true->bY 3 S t (f:Int) (g:Int)=(r,T)):=O (fun e=>by rw[←qf];unfold edR;rw[qg,e,hf,hg];rfl);have qj:Hid (xc=false->f+1=z/\x.to=xb):=O (fun e=>by rw[←hz];unfold GrV.up GrV.to;rw[qg,e,hf,qx];exact⟨rfl,rfl⟩);have qk:Hid (xc=true->g=z/\x.to=0):=O (fun e=>by rw[←hz];unfold GrV.up GrV.to;rw[qg,e,hg];exact⟨rfl,rfl⟩);have zk:=O x.frUp;rw[hf,hz] at zk;have xi:Hid (r=none->yB S t bl tc T t bl tc):=O (fun e=>LL tc hw (by rw[qf,e]));have L:Hid (∀u,r=some u->yB S t bl tc T u (fV bl f z x.to) (fW tc f z)):=O (fun u e=>by rw[←hf,←hz,x.bl];exact Py tc hw (by rw[qf,e]));have zj:Hid (T.txg=S.txg):=O ((Bj hw.bd hw.kept.ok hw.blks qf).1.txg);obtain⟨F,zu⟩:=zX9 x.to
 rw[zu] at qj qk L;have xl:Hid (∀u∈lG x,u.oneCell'=true):=O (by intro u hu;simp only[lG,List.mem_cons,List.not_mem_nil,or_false] at hu;rcases hu with rfl|rfl|rfl|rfl|rfl<;>rfl);rw[hf] at q9 za qv qq;rw[hg] at qv qq;rw[zf] at za HN;rw[ze] at qv HN;obtain⟨ec,qm⟩:=zX9 (lG x)
 rw[qm] at xq h0 h1 h2 h3 h4 xl;rw[qm,qi.out];have H0:=O h0;have H1:=O h1;have H2:=O h2;have H3:=O h3;have H4:=O h4;have x1:((f:Nat):Int)<64:=by have:=q9.out;omega
 have qc:=O hp.pt.sum;clear qm zf ze qx qg zt hf hg hz h0 h1 h2 h3 h4 qf hx hw zu hs;obtain⟨pc,qr,zr,x3⟩:=nmP hp;clear hp hK;go_in
 go_wp2_with refine bxA (gc.toArray) ?_
 intro Y w1 I A E;replace d:=O (d.new (trivial) I A E);clear I A E
 go_wp2_with refine bxA (ec.toArray) ?_
 intro R w2 I A E;replace d:=O (d.new (trivial) I A E);clear I A E
 go_wp2_with refine alA Jw ?_
 intro b6 w3 I A E;replace d:=O (d.new (trivial) I A E);clear I A E;have c1:w3.cell? ⟨R,0,none⟩=some (.int .i64 xn):=(aC (i:=0) (d.b 1) H0.out)
 go_wp2_with fail;clear c1;refine(Ac w3 xn 64 (by omega) (by omega) HN.1.1 HN.1.2).mono ?_;rintro e w4 ⟨rfl,rfl⟩;rw[za.out];have c1:w3.cell? ⟨R,4,none⟩=some (vb xb):=(aC (i:=4) (d.b 1) H4.out)
 go_wp2_with refine alA aZ ?_
 clear c1;intro qd w5 I A E;replace d:=O (d.new (trivial) I A E);clear I A E;refine wpList_nil ?_;rename_i K4 xp;refine xp _ _ ?_;refine wp_seq_k fun K5 zm=>?_
 have zg:=O zm;clear zm;go_wp2_with fail;refine zg.out _ _ ?_;refine wp_seq_k fun K6 zn=>?_
 have xj:=O zn;clear zn zg;refine E6 [9,10,12,21,22,23,24,25,26,27,28,29,30,31,32,33,34,35,36,37,38,39,40,41,42,43,44,45,46,47] (fun vs w'=>∃q j0 j1 j2 j3 j4 j5 j6 j7 j8 j9 zv zw zx zy zz z0 z1 z2 z3 z5 z6 z7 z9 xa xd xe xf,vs=[.int .i64 q,vb F,.int .i64 (eY r),j0,j1,j2,j3,j4,j5,j6,j7,j8,j9,zv,zw,zx,zy,zz,z0,z1,z2,z3,z5,z6,z7,z9,xa,xd,xe,xf]/\q=(z:Int)/\Hid (∃C W G,aE C (eJ r)=G/\Cs B w c T W [(C,eJ r),(pv,t.ptr)] w' [(qd,G.toArray,30),(b6,zgw.toArray,34),(R,ec.toArray,38),(Y,gc.toArray,34)]/\dM w C)) ?_ ?_
 ·cases xc with
  | false =>
    have HR:=O (qt.out rfl);obtain⟨qp,zd⟩:=qj.out rfl;subst zd;have zb:=O qp;clear qt qu qj qk qp;have c1:w5.cell? ⟨R,2,none⟩=some (.bool false):=(aC (i:=2) (d.b 2) H2.out)
    go_wp2_with fail;clear c1;refine vI (fun k=>B k\/k=qd) d (by kernel_rfl) ?_;intro w6 SW H j qn d;clear qn;have o:=d;refine tna 0 (.pointer c) rfl (sD9 j d) ?_;refine tnb 1 (.pointer Y) rfl (sD9 j d) ?_;refine tnd 2 (.agg pc.toArray) rfl (ldD 30 (.tmp 40) Y 0 pc _ (fun w' h=>(qr.out▸qM ((H w' h).blk (o.b 3) (by rintro (e|e);exact (o.loc.aq 3) (.inl e);exact o.ne 0 3 (by decide) rfl rfl e)) qi.out)) aI (szP9 zr)) (sD9 j d) ?_;refine tna 3 (.int .i64 (f:Int)) rfl (sD9 j d) ?_;refine tna 4 (vb F) rfl (sD9 j d) ?_;refine wA9 5 ?_;go_wp2_with fail;refine(rF w6 F).mono ?_;rintro e w7 ⟨v_,rfl,ho,A⟩;obtain⟨xg,xh,rfl,-,-⟩:=(Rd.of_owns ho).form;have zl:=O ho;have qz:=O (tR ho (fun i e=>d.ki.lt e));replace d:=O (d.keeps A);clear ho A;go_wp2_with fail;refine⟨j _ d.dr,?_⟩;refine wA9 6 ?_;go_wp2_with fail;have qo:=d.keep.size;refine((by rw[←qr.out];have h:=lZ d.ki pv t HT.out (d.pv0 0) f q9.out (.slice xg 256 xh) (sec F) (gR F) (Rd.of_owns zl.out) qz.out;rw[HR.out] at h;exact h:Ka w7 (bE w7 c B (.slice none 0 0) r T))).mono ?_;rintro e w8 ⟨C,W,rfl,V,qe,ql,-,U,A⟩;have K:Hid (dM w C):=O ((oQ U).from qo);replace d:=O (d.laid (fun _ _ e=>.inl e) V qe ql (oQ U) A);obtain⟨G,N,J,M⟩:=nmP V;rw[N.out];clear qo V qe ql U A zl qz;go_wp2_with fail;refine⟨j _ d.dr,?_⟩;refine tna 7 (.tuple #[.agg G.toArray,.int .i64 (eY r)]) rfl (sD9 j d) ?_;refine tnb 8 (.agg G.toArray) rfl (sD9 j d) ?_;refine tnb 9 (.int .i64 (eY r)) rfl (sD9 j d) ?_;refine wA9 10 ?_;refine stD d j 0 rfl 30 (.tmp 11) (.tmp 46) G (.inr (.inr rfl)) (by first|rfl|simp[J,aG]) (szP9 J) M.out ?_;intro w9 d;refine tna 11 (.int .i64 (eY r)) rfl (sD9 j d) ?_;refine wpAnyH_done (by kernel_rfl) ?_ _;refine noP ?_;replace d:=O d.toCs;clear o H j;exact⟨rfl,[.int .i64 ((f:Int)+1),vb F,.int .i64 (eY r),.pointer (some ⟨R,2,none⟩),.bool false,undef,undef,undef,undef,undef,undef,undef,undef,undef,undef,undef,undef,undef,undef,undef,.tuple #[.agg G.toArray,.int .i64 (eY r)],.pointer c,.pointer Y,.agg pc.toArray,.int .i64 (f:Int),vb F,.slice xg 256 xh,.tuple #[.agg G.toArray,.int .i64 (eY r)],.agg G.toArray,.int .i64 (eY r)],(by simp only[mQ,Act.put,List.setIfInBounds_toArray,List.set_cons_zero,List.set_cons_succ]),_,_,_,_,_,_,_,_,_,_,_,_,_,_,_,_,_,_,_,_,_,_,_,_,_,_,_,_,rfl,(by have:=zb.out;omega),O ⟨C,W,G,N.out,d.out,K.out⟩⟩
  | true =>
    have HR:=O (qu.out rfl);obtain⟨qp,zd⟩:=qk.out rfl;subst zd;have zb:=O qp;clear qt qu qj qk qp;have xw:=Int.emod_nonneg xm (show (65:Int)≠0 by omega);have xx:=Int.emod_lt_of_pos xm (show (0:Int)<65 by omega);have xy:=qv.out;have c1:w5.cell? ⟨R,2,none⟩=some (.bool true):=(aC (i:=2) (d.b 2) H2.out)
    have c2:w5.cell? ⟨R,1,none⟩=some (.int .i64 xm):=(aC (i:=1) (d.b 2) H1.out)
    go_wp2_with fail;clear c1 c2;refine(Ac w5 xm 65 (by omega) (by omega) HN.2.1 HN.2.2).mono ?_;rintro e wa ⟨rfl,rfl⟩
    go_wp2_with refine ldP Y 0 pc (qr.out▸qM (d.b 3) qi.out) zr ?_
    have qo:=d.keep.size;clear xw xx xy;refine((by rw[←qr.out];have h:=NA d.ki pv t HT.out (d.pv0 0) f g qq.1 qq.2;rw[HR.out] at h;exact h:Ka w5 (bE w5 c B (.slice none 0 0) r T))).mono ?_;rintro e wb ⟨C,W,rfl,V,qe,ql,-,U,A⟩;have K:Hid (dM w C):=O ((oQ U).from qo);replace d:=O (d.laid V qe ql (oQ U) A);obtain⟨G,N,J,M⟩:=nmP V;rw[N.out];clear qo V qe ql U A
    go_wp2_with refine stW (d.b 0) J aG (szP9 J) M.out ?_
    intro wc A E;replace d:=O (d.set 0 A E);clear A E;go_wp2_with fail;exact⟨rfl,[.int .i64 (g:Int),.int .u8 0,.int .i64 (eY r),.pointer (some ⟨R,2,none⟩),.bool true,.int .i64 (f:Int),.pointer (some ⟨R,1,none⟩),.int .i64 xm,.int .i64 (xm % 65),.int .i64 ((f:Int)+xm % 65),.int .i64 (g:Int),.tuple #[.agg G.toArray,.int .i64 (eY r)],.pointer c,.pointer Y,.agg pc.toArray,.int .i64 (f:Int),.int .i64 (g:Int),.tuple #[.agg G.toArray,.int .i64 (eY r)],.agg G.toArray,.int .i64 (eY r),undef,undef,undef,undef,undef,undef,undef,undef,undef,undef],(by simp only[mQ,Act.put,List.setIfInBounds_toArray,List.set_cons_zero,List.set_cons_succ]),_,_,_,_,_,_,_,_,_,_,_,_,_,_,_,_,_,_,_,_,_,_,_,_,_,_,_,_,rfl,(by have:=zb.out;omega),O ⟨C,W,G,N.out,d.out,K.out⟩⟩
 ·rintro _ wd ⟨q,j0,j1,j2,j3,j4,j5,j6,j7,j8,j9,zv,zw,zx,zy,zz,z0,z1,z2,z3,z5,z6,z7,z9,xa,xd,xe,xf,rfl,rfl,HF⟩
  obtain⟨C,W,G,qb,zq,q3⟩:=HF.out;replace d:=O zq;have N:=O qb;have K:=O q3;have J:G.length=35:=by rw[←qb];exact aF (d.pv0 0).pt.sum
  have M:Hid (∀u∈G,u.oneCell'=true):=O (by rw[←qb];exact aL (d.pv0 0).pt);clear qb zq q3 HF qt qu qj qk;refine xj.out _ _ ?_;simp only[mQ,Act.put,List.setIfInBounds_toArray,List.set_cons_zero,List.set_cons_succ];cases r with
  | none =>
    rw[show eY none=15 from rfl]
    go_wp2_with (first
     | refine ldR (d.b 3) pI (by rw[qw];exact gE) ?_
     | refine stW (d.b 1) qw tY (by rw[qw];exact gE) zi.out ?_)
    intro we A E;replace d:=O (d.set 1 A E);clear A E;go_wp2_with fail;have qh:=O (d.b 1);have HP:Hid (oF w c B S t bl tc pv (.returned (.tuple #[.agg gc.toArray,.bool true])) we):=O ⟨pv,W,T,t,bl,tc,by rw[qi.out],xi (by first|rfl|trivial),d.pv0 1,d.ki,d.bb,.inl rfl,d.keep⟩;clear d;refine bodyPost_ret (aT rfl _ _ b6 _ _ _ _ rfl qh.out pI rfl (by rw[List.size_toArray,qw];exact gE)) rfl ?_;exact HP.out
  | some u =>
    rw[show eY (some u)=0 from rfl];replace L:=O (L u (by first|rfl|trivial));replace d:Hid (Cs B w c T W [(C,eJ (some u)),(pv,t.ptr)] wd [(qd,G.toArray,30),(b6,zgw.toArray,34),(R,ec.toArray,38),(Y,gc.toArray,34)]):=d;go_wp2_with fail;replace d:=d.out;rw[←qi.out,←LI bl f F] at d;rw[show eP pv t.ptr (fV bl f f F) tc=eP pv t.ptr (fV bl f f F) (fW tc f f) by rw[LJ]] at d;have x0:=zk.out;obtain⟨xz,x7⟩:=x0
    go_loopw [13] (fun i wr=>∃k:Nat,f≤k/\k≤z/\i=.int .i64 (k:Int)/\Hid (Cs B w c T W [(C,eJ (some u)),(pv,t.ptr)] wr [(qd,G.toArray,30),(b6,zgw.toArray,34),(R,ec.toArray,38),(Y,(eP pv t.ptr (fV bl f k F) (fW tc f k)).toArray,34)])) (fun i _=>z-(intOf i).toNat)
    case atStart=>exact⟨f,Nat.le_refl _,xz,rfl,O d⟩
    case round =>
    clear d;obtain⟨k,xr,x6,rfl,d⟩:=hrel;rcases Nat.lt_or_ge k z with xv|xv
    ·have qe:(k:Int)<(z:Int):=by omega
     have x2:(k:Int)<64:=by omega
     have x5:(0:Int)≤(k:Int):=by omega
     have zh:=O xr;have zp:k<64:=by omega
     have X:=O zp
     go_wp2_with ((with_reducible show WL _ _);refine sta 5 (.tmp 62) (.tmp 60) Y (35+k) [vb F] (d.b 3) (by rw[List.size_toArray,oE qc.out];have:=X.out;show 35+k+1≤163;omega) (by kernel_rfl) (by intro v hv;rw[List.mem_singleton] at hv;rw[hv];rfl) ?_)
     intro wy A E;rw[show spl (eP pv t.ptr (fV bl f k F) (fW tc f k)).toArray (35+k) [vb F]=(eP pv t.ptr (fV bl f (k+1) F) (fW tc f k)).toArray from(QW qc.out (fV bl f k F) (fW tc f k) X.out F).trans (by rw[Ju bl f F zh.out])] at E;replace d:=O (d.set 3 A E);clear A E
     go_wp2_with ((with_reducible show WL _ _);refine sta 4 (.tmp 65) (.const (.bool true)) Y (99+k) [.bool true] (d.b 3) (by rw[List.size_toArray,oE qc.out];have:=X.out;show 99+k+1≤163;omega) (by kernel_rfl) (by intro v hv;rw[List.mem_singleton] at hv;rw[hv];rfl) ?_)
     intro wz A E;rw[show spl (eP pv t.ptr (fV bl f (k+1) F) (fW tc f k)).toArray (99+k) [.bool true]=(eP pv t.ptr (fV bl f (k+1) F) (fW tc f (k+1))).toArray from(QX qc.out (fV bl f (k+1) F) (fW tc f k) X.out).trans (by rw[Jv tc f zh.out])] at E;replace d:=O (d.set 3 A E);clear A E;go_wp2
     go_roundw
     case rel=>exact⟨k+1,by omega,by omega,by go_num,d⟩
     case measure=>simp[intOf];omega
    ·obtain rfl:z=k:=by omega
     obtain⟨kc,qa⟩:=zX9 (eP pv t.ptr (fV bl f z F) (fW tc f z))
     have xk:=O qa;have xu:kc.length=163:=by rw[←qa];exact oE qc.out _ _
     rw[qa] at d;clear qa
     go_wp2_with ((with_reducible show WL _ _);first
      | refine ldQ (d.b 0) J ?_
      | refine sta 30 (.tmp 67) (.tmp 66) Y 0 G (d.b 3) (by rw[List.size_toArray,xu,J];omega) (szP9 J) M.out ?_)
     intro we A E;rw[←xk.out,←N.out,QY qc.out (d.pv0 0).pt.sum] at E;obtain⟨dc,q5,Q,qy⟩:=yP (d.pv0 0).pt (fV bl f z F) (fW tc f z);rw[show (some u:Option Tr)=some u from rfl,q5.out] at E;replace d:=O (d.set 3 A E);clear A E;cases xo with
     | false =>
       go_wp2_with fail;refine vI (fun k=>W k\/k=b6) d (by kernel_rfl) ?_;intro wf SW H j qn d;clear qn;have o:=d;refine tnd 0 (.agg dc.toArray) rfl (ldD 34 (.tmp 4) Y 0 dc _ (fun w' h=>aD ((H w' h).blk (o.b 3) (by rintro (e|e);exact (o.loc.aq 3) (.inl e);exact o.ne 1 3 (by decide) rfl rfl e))) pI (by rw[Q];exact gE)) (sD9 j d) ?_;refine tnb 1 (.pointer (some ⟨R,3,none⟩)) rfl (sD9 j d) ?_;refine tnd 2 (.bool false) rfl (.inl ⟨by rfl,fun w' h=>by have c:World.cell? w' ⟨R,3,none⟩=some (.bool false):=(aC (i:=3) ((H w' h).blk (o.b 2) (by rintro (e|e);exact (o.loc.aq 2) (.inl e);exact o.ne 1 2 (by decide) rfl rfl e)) H3.out);go_simp⟩) (sD9 j d) ?_;refine tnb 3 (.bool true) rfl (sD9 j d) ?_;refine tna 4 (.bool true) rfl (sD9 j d) ?_;refine tnc 5 undef rfl (sD9 j d) ?_;refine tnc 6 undef rfl (sD9 j d) ?_;refine tnc 7 undef rfl (sD9 j d) ?_;refine tnc 8 undef rfl (sD9 j d) ?_;refine tna 9 (.bool true) rfl (sD9 j d) ?_;refine wA9 10 ?_;refine stD d j 1 rfl 34 (.tmp 6) (.tmp 68) dc (.inr (.inr rfl)) (by first|rfl|simp[Q,tY]) (by rw[Q];exact gE) qy.out ?_;intro wg d;refine tna 11 (.bool true) rfl (sD9 j d) ?_;refine wpAnyH_done (by kernel_rfl) ?_ _;refine noP ?_;have qh:=O (d.b 1);have HP:Hid (oF w c B S t bl tc pv (.returned (.tuple #[.agg dc.toArray,.bool true])) wg):=O ⟨C,W,T,u,fV bl f z F,fW tc f z,by rw[←q5.out];rfl,L.out,d.pv0 0,d.ki,d.bb,.inr K.out,d.keep⟩;clear d o H j;go_wp2_with fail;refine bodyPost_ret (aT rfl _ _ b6 _ _ _ _ rfl qh.out pI rfl (by rw[List.size_toArray,Q];exact gE)) rfl ?_;exact HP.out
     | true =>
       go_wp2_with fail;refine vI (fun k=>W k\/k=b6) d (by kernel_rfl) ?_;intro wf SW H j qn d;clear qn;have o:=d;refine tnd 0 (.agg dc.toArray) rfl (ldD 34 (.tmp 4) Y 0 dc _ (fun w' h=>aD ((H w' h).blk (o.b 3) (by rintro (e|e);exact (o.loc.aq 3) (.inl e);exact o.ne 1 3 (by decide) rfl rfl e))) pI (by rw[Q];exact gE)) (sD9 j d) ?_;refine tnb 1 (.pointer (some ⟨R,3,none⟩)) rfl (sD9 j d) ?_;refine tnd 2 (.bool true) rfl (.inl ⟨by rfl,fun w' h=>by have c:World.cell? w' ⟨R,3,none⟩=some (.bool true):=(aC (i:=3) ((H w' h).blk (o.b 2) (by rintro (e|e);exact (o.loc.aq 2) (.inl e);exact o.ne 1 2 (by decide) rfl rfl e)) H3.out);go_simp⟩) (sD9 j d) ?_;refine tnb 3 (.bool false) rfl (sD9 j d) ?_;refine tna 4 (.bool false) rfl (sD9 j d) ?_;refine tna 5 (.pointer c) rfl (sD9 j d) ?_;refine tnd 6 (.agg G.toArray) rfl (ldD 30 (.tmp 11) qd 0 G _ (fun w' h=>aD ((H w' h).blk (o.b 0) (by rintro (e|e);exact (o.loc.aq 0) (.inl e);exact o.ne 1 0 (by decide) rfl rfl e))) aI (szP9 J)) (sD9 j d) ?_;refine wA9 7 ?_;refine Gv (by rfl) ?_;go_wp2_with fail;refine((by rw[←N.out];exact KI.commit d.ki (by rw[zj.out];exact HS.out) C u.ptr (d.pv0 0).pt L.wel.kept.ok.few 0 (by decide) L.wel.kept.ok.comm:Ka wf (AD wf c T W))).mono ?_;rintro e wg ⟨rfl,M2,B3,zo,q1,q0,-,A⟩;replace L:=O (NR L.out zj.out HS.out zo);replace d:Hid (Ds (fun k=>W k\/k=b6) wf B w c (T.com M2) B3 [(C,eJ (some u)),(pv,t.ptr)] wg [(qd,G.toArray,30),(b6,zgw.toArray,34),(R,ec.toArray,38),(Y,dc.toArray,34)]):=O ⟨d.toCs.turned q1 q0 A,d.dr.tT A (fun _ _ e=>.inl e)⟩;clear zo q1 q0 A;go_wp2_with fail;refine⟨j _ d.dr,?_⟩;refine tnb 8 (.bool true) rfl (sD9 j d) ?_;refine tna 9 (.bool true) rfl (sD9 j d) ?_;refine wA9 10 ?_;refine stD d j 1 rfl 34 (.tmp 6) (.tmp 68) dc (.inr (.inr rfl)) (by first|rfl|simp[Q,tY]) (by rw[Q];exact gE) qy.out ?_;intro wh d;refine tna 11 (.bool true) rfl (sD9 j d) ?_;refine wpAnyH_done (by kernel_rfl) ?_ _;refine noP ?_;have qh:=O (d.b 1);have HP:Hid (oF w c B S t bl tc pv (.returned (.tuple #[.agg dc.toArray,.bool true])) wh):=O ⟨C,B3,(T.com M2),u,fV bl f z F,fW tc f z,by rw[←q5.out];rfl,L.out,d.pv0 0,d.ki,d.bb,.inr K.out,d.keep⟩;clear d o H j;go_wp2_with fail;refine bodyPost_ret (aT rfl _ _ b6 _ _ _ _ rfl qh.out pI rfl (by rw[List.size_toArray,Q];exact gE)) rfl ?_;exact HP.out
theorem yQ{d:List Nat}(h:w.ownsRow base 3 1 v d.length (jR d))(e:d.map (fun(i:Nat)=>(i:Int))=m):Rd w 1 v m.length (m.map fun x=>.int .i64 x):=by
 subst e;rw[List.length_map,List.map_map];exact Rd.of_owns h
theorem Hk(h:w.ownsRow base 3 1 v qs.length (xZ qs))(d:qs.map (fun x=>x.2.level)=m):Rd w 1 v m.length (m.map fun x=>.int .i64 x):=by
 subst d;rw[List.length_map,List.map_map];exact Rd.of_owns h
theorem qN{T:TypeId}{d:List Value}(h:w.heap[b]?=some (.cells d.toArray T (0,0)))(e:d=m.map fun x=>.int .i64 x)(f:m.length=n)(g:n≤100):Rd w 1 (.slice b n n) m.length (m.map fun x=>.int .i64 x):=by
 rw[f,←e];exact dX (n:=n) (size:=1) h (by rw[e,List.length_map,f,Nat.mul_one]) (by unfold maxLen;omega)
theorem dR.row{w':World}{d:List Pt}(h:qs.map (·.2)=d)(g:w'.ownsRow w.heap.size 30 35 v d.length (qs.flatMap fun x=>aE x.1 x.2))(e:∀x∈qs,PtV w' x.1 x.2/\∀i,x.1.ownBlock=some i->w.heap.size≤i/\v.ownBlock≠some i/\IsC w' i):rL w' v qs/\qs.length=d.length:=by
 have f:qs.length=d.length:=by rw[←h,List.length_map]
 exact⟨⟨by rw[f];exact Rd.of_owns g,fun x j=>(e x j).1⟩,f⟩
theorem Cs.start2{S:Kor}(h:KI w c S B){u:Value}{q:Pt}(f:aU w B v p)(g:aU w B u q):Cs B w c S B [(v,p),(u,q)] w []:=⟨Loc.nil _ _ w,h,(fun r d=>by
 simp only[List.mem_cons,List.not_mem_nil,or_false] at d;rcases d with rfl|rfl
 ·exact f
 ·exact g),fun _ e=>.inl e⟩
theorem Gw(w:World):Calls prog 18 #[] w (Ji w):=by
 go_in;go_wp2_with fail;refine((Dn w)).mono ?_;rintro e w1 ⟨c,qt,qu,u1,u2,S,B,rfl,qe,qh,qi,qf,M,N,qg,hB,d⟩;have qn:=O hB;have qo:=O d;have qq:=O qh;have qr:=O qi;have qp:=O qf;have H:=O qg;have g:=O (Cs.start2 qe M N);obtain⟨rc,Y,Q,W⟩:=nmP M;obtain⟨sc,qa,R,X⟩:=nmP N;rw[Y.out,qa.out];clear qe qh qi qf M N qg hB d
 go_wp2_with refine alA aZ ?_
 intro b2 w2 o d C;replace g:=O (g.new (trivial) o d C);clear o d C
 go_wp2_with refine alA aZ ?_
 intro b3 w3 o d C;replace g:=O (g.new (trivial) o d C);clear o d C
 go_wp2_with refine stW (g.b 1) Q aG (szP9 Q) W.out ?_
 intro w4 d C;replace g:=O (g.set 1 d C);clear d C
 go_wp2_with refine stW (g.b 0) R aG (szP9 R) X.out ?_
 intro w5 d C;replace g:=O (g.set 0 d C);clear d C
 go_wp2_with refine ldQ (g.b 1) Q ?_
 refine((by rw[←Y.out];exact rI g.ki qt u1 qq.out (g.pv0 0):Ka w5 (dR w5 (cR 3 u1)))).mono ?_;rintro e w6 ⟨tp,G,rfl,hq,F,qd,d⟩;have I:=dR.row hq F qd;have f:=O I.1;have E:=O hq;obtain⟨ql,qm,rfl,-,-⟩:=(Rd.of_owns F).form;have z:Hid (G.length=4):=O (I.2.trans (by have h:=congrArg List.length H.lv1;rw[List.length_map] at h;exact h));rw[←I.2,z.out];rw[←I.2,z.out] at f;clear hq F qd I;replace g:=O (g.keeps d);clear d
 go_wp2_with refine ldQ (g.b 0) R ?_
 refine((by rw[←qa.out];exact vS g.ki qu u2 qr.out (g.pv0 1) 1:Ka w6 (fR w6 (bks (aV 1) 3 u2 0)))).mono ?_;rintro e w7 ⟨tb,rfl,F,d⟩;rw[H.b1] at F;obtain⟨qj,qk,rfl,-,-⟩:=(Rd.of_owns F).form;have j:Hid (Rd w7 1 (.slice qj 1 qk) ([6]:List Int).length (([6]:List Int).map fun x=>.int .i64 x)):=O (yQ F rfl);clear F;replace g:=O (g.keeps d);replace f:=O (f.keep0 d);clear d;go_wp2_with fail;refine((BC w7 (.slice ql 4 qm) G f.out (by rw[z.out];decide))).mono ?_;rintro e w8 ⟨lv,rfl,F,d⟩;rw[z.out] at F;obtain⟨la,lc,rfl,-,-⟩:=(Rd.of_owns F).form;have r:Hid (Rd w8 1 (.slice la 4 lc) ([3,2,1,0]:List Int).length (([3,2,1,0]:List Int).map fun x=>.int .i64 x)):=O (Hk (qs:=G) (by rw[z.out];exact F) (by have h:=H.lv1;rw[←E.out,List.map_map] at h;exact h));clear F;replace g:=O (g.keeps d);replace f:=O (f.keep0 d);replace j:=O (j.keep d fun _ _=>id);clear d;obtain⟨w9,U,d,C,-⟩:=aP w8 #[.int .i64 3,.int .i64 2,.int .i64 1,.int .i64 0] 3;obtain⟨qb,o⟩:=zX9 w8.heap.size
 rw[o] at C;have A:Hid (Rd w9 1 (.slice qb 4 4) ([3,2,1,0]:List Int).length (([3,2,1,0]:List Int).map fun x=>.int .i64 x)):=O (qN C rfl rfl (by decide));replace g:=O (g.keeps d);have J:=O o;replace f:=O (f.keep0 d);replace j:=O (j.keep d fun _ _=>id);replace r:=O (r.keep d fun _ _=>id);clear d C o;go_wp2_with fail;clear U;rw[J.out];go_wp2_with fail;refine((by have h:=iV w9 (.slice la 4 lc) (.slice qb 4 4) [3,2,1,0] [3,2,1,0] r.out A.out;rw[decide_eq_true rfl] at h;exact h:Ka w9 (aN w9 true))).mono ?_;rintro e wa ⟨rfl,d⟩;replace g:=O (g.keeps d);replace f:=O (f.keep0 d);replace j:=O (j.keep d fun _ _=>id);replace r:=O (r.keep d fun _ _=>id);replace A:=O (A.keep d fun _ _=>id);clear d;go_wp2_with fail;refine((BB wa (.slice ql 4 qm) G f.out (by rw[z.out];decide) (fun y hy=>by have h1:=H.len1 y.2 (by rw[←E.out];exact List.mem_map.2 ⟨y,hy,rfl⟩);omega))).mono ?_;rintro e wb ⟨xv,rfl,F,d⟩
 have h8:(iB (gW G)).length=8:=by
  rw[Az E.out,zO qp.out,←Az E.out];unfold gW;rw[show (G.flatMap fun x=>x.2.addrs)=(G.map (·.2)).flatMap fun p=>p.addrs by rw[List.flatMap_map],AA (by rw[E.out];exact H.len1),List.length_map,z.out]
 rw[h8] at F;obtain⟨xa,xc,rfl,-,-⟩:=(Rd.of_owns F).form;clear F h8;replace g:=O (g.keeps d);replace f:=O (f.keep0 d);replace j:=O (j.keep d fun _ _=>id);replace r:=O (r.keep d fun _ _=>id);replace A:=O (A.keep d fun _ _=>id);clear d;obtain⟨wc,V,d,C,-⟩:=aP wb #[.int .i64 6] 3;obtain⟨qc,o⟩:=zX9 wb.heap.size
 rw[o] at C;have L:Hid (Rd wc 1 (.slice qc 1 1) ([6]:List Int).length (([6]:List Int).map fun x=>.int .i64 x)):=O (qN C rfl rfl (by decide));replace g:=O (g.keeps d);have K:=O o;replace f:=O (f.keep0 d);replace j:=O (j.keep d fun _ _=>id);replace r:=O (r.keep d fun _ _=>id);replace A:=O (A.keep d fun _ _=>id);clear d C o;go_wp2_with fail;clear V;rw[K.out];go_wp2_with fail;refine((by have h:=iV wc (.slice qj 1 qk) (.slice qc 1 1) [6] [6] j.out L.out;rw[decide_eq_true rfl] at h;exact h:Ka wc (aN wc true))).mono ?_;rintro e wd ⟨rfl,d⟩;replace g:=O (g.keeps d);replace f:=O (f.keep0 d);replace j:=O (j.keep d fun _ _=>id);replace r:=O (r.keep d fun _ _=>id);replace A:=O (A.keep d fun _ _=>id);replace L:=O (L.keep d fun _ _=>id);clear d;have HP:=O (g.fin qn.out qo.out);clear g;go_wp2;go_ret;exact⟨rfl,HP.out⟩
section
variable {B0:Nat->Prop}{w0 w w':World}{c:Nat}{S T:Kor}{B B':Nat->Prop}{rs:List (Value×Pt)}{l:List (Nat×Array Value×TypeId)}
variable{v:Value}{p:Pt}
theorem Cs.hole0(h:Cs B0 w0 c S B [] w l):Cs B0 w0 c S B [(.slice none 0 0,Tr.hole.ptr)] w l:=
 ⟨⟨h.loc.keep,h.loc.ge,h.loc.nd,h.loc.at_,fun x g f=>h.loc.ap x g (f.imp id fun ⟨r,d,e⟩=>by cases List.mem_singleton.1 d;cases e)⟩,h.ki,fun r d=>by cases List.mem_singleton.1 d;exact aU.hole _ _,h.bb⟩
theorem Cs.laid1(h:Cs B0 w0 c S B rs w l)(x:aU w' B' v p)(o:KI w' c T B')(f:∀k,B' k->B k\/w.heap.size≤k)(g:(∃r∈rs,v=r.1)\/dM w v)(k:aA B w w'):Cs B0 w0 c T B' ((v,p)::rs) w' l:=by
 rcases g with⟨C,j,z⟩|g
 ·refine⟨h.loc.turn2 k (fun _ e=>.inl e) (fun i A e=>(h.bb i e).elim id fun e=>by omega) ?_,o,?_,fun i e=>(f i e).elim (h.bb i) fun e=>.inr (Nat.le_trans h.keep.size e)⟩
  ·rintro i A (e|⟨r,d,e⟩)
   ·exact(f i e).elim .inl fun e=>by omega
   ·rcases List.mem_cons.1 d with rfl|d
    ·exact .inr ⟨C,j,by rw[←z];exact e⟩
    ·exact .inr ⟨r,d,e⟩
  ·intro r d
   rcases List.mem_cons.1 d with rfl|d
   ·exact x
   ·exact(h.pv r d).keep k f
 ·exact h.laid x o f g k
theorem Ds.laid1{d:Nat->Prop}{g:World}(h:Ds d g B0 w0 c S B rs w l)(f:∀i,i<g.heap.size->B i->d i)(z:aU w' B' v p)(o:KI w' c T B')(j:∀k,B' k->B k\/w.heap.size≤k)(x:(∃r∈rs,v=r.1)\/dM w v)(k:aA B w w'):Ds d g B0 w0 c T B' ((v,p)::rs) w' l:=
 ⟨h.toCs.laid1 z o j x k,h.dr.tT k f⟩
end
variable{w:World}{v:Value}{i:Nat}
theorem Hl{b:Nat}{T:TypeId}{fr:Nat×Nat}{p:Pt}{bl:Nat->UInt8}{tc:Nat->Bool}{d:List Value}(e:p.sum.length=32)(f:w.heap[b]?=some (.cells d.toArray T fr))(h:eP v p bl tc=d)(g:i<64):w.cell? ⟨b,35+i,none⟩=some (vb (bl i)):=by
 refine aC f ?_;rw[←h,List.getElem?_toArray];unfold eP;rw[List.getElem?_append_right (by rw[aF e];omega),aF e,List.getElem?_append_left (by rw[nY];omega),show 35+i-35=i by omega];exact Pd bl g
theorem Ob{d:List Nat}(h:Rd w 1 v d.length (jR d)){k x:Nat}(f:d[k]?=some x):∃g o e,v=.slice (some ⟨g,o,none⟩) d.length e/\w.cell? ⟨g,o+k,none⟩=some (.int .i64 (x:Int)):=
 oM h (by unfold jR;rw[List.getElem?_map,f];rfl)
def bsC(d:Nat->Int):List Value:=(List.range 5).map fun i=>.int .i64 (d i)
theorem Ch(d:Nat->Int):(bsC d).length=5:=by unfold bsC;simp
theorem Pz(d:Nat->Int)(h:i<5):(bsC d).toArray[i]?=some (.int .i64 (d i)):=by
 rw[List.getElem?_toArray];unfold bsC;rw[List.getElem?_map,List.getElem?_range h];rfl
theorem PA(d:Nat->Int)(p:Pt){lv:Nat}{b:Int}(g:p.level=(lv:Int))(j:p.birth=b)(h:lv<5):spl (bsC d).toArray lv [.int .i64 b]=(bsC (mV d p)).toArray:=by
 show (bsC d).toArray.setIfInBounds lv (.int .i64 b)=_;rw[List.setIfInBounds_toArray]
 congr 1
 refine List.ext_getElem (by rw[List.length_set,Ch,Ch]) fun i o r=>?_
 rw[List.getElem_set];have q:∀f h,(bsC f)[i]'h=Value.int .i64 (f i):=fun f h=>by simp[bsC]
 rw[q,q];unfold mV
 by_cases e:lv=i
 ·rw[if_pos e,if_pos (by rw[g];omega),j]
 ·rw[if_neg e,if_neg (by rw[g];omega)]
def nwQ(x:Int)(qs:List (Value×Pt)):List (Value×Pt):=qs.filter fun y=>aV x y.2
section
variable {qs:List (Value×Pt)}{k:Nat}{y:Value×Pt}
theorem FJ(h:qs[k]?=some y):(qs.take (k+1)).map (·.2)=(qs.take k).map (·.2)++[y.2]:=by
 rw[List.take_add_one,h,List.map_append];rfl
theorem LN(h:qs[k]?=some y)(d:Nat->Int):iU d ((qs.take (k+1)).map (·.2))=mV (iU d ((qs.take k).map (·.2))) y.2:=by
 rw[FJ h,FG];rfl
theorem sE(h:qs[k]?=some y):rN ((qs.take (k+1)).map (·.2))=rN ((qs.take k).map (·.2))+if y.2.level=0 then 1 else 0:=by
 rw[FJ h,LM]
theorem Ho(h:qs[k]?=some y){x:Int}(d:x<y.2.birth):nwQ x (qs.take (k+1))=nwQ x (qs.take k)++[y]:=by
 unfold nwQ;rw[List.take_add_one,h,List.filter_append]
 congr 1
 simp[aV,d]
theorem LO(h:qs[k]?=some y){x:Int}(d:¬x<y.2.birth):nwQ x (qs.take (k+1))=nwQ x (qs.take k):=by
 unfold nwQ;rw[List.take_add_one,h,List.filter_append];simp[aV,d]
theorem PB(x:Int):(nwQ x qs).map (·.2)=(qs.map (·.2)).filter (aV x):=by
 unfold nwQ;rw[List.filter_map];rfl
theorem PC(l:List Pt):rN l≤l.length:=List.length_filter_le _ _
theorem PD{S:Kor}{t:Tr}{bl:Nat->UInt8}(f:Wel S t bl)(e:qs.map (·.2)=cR 3 t)(h:qs[k]?=some y):∃lv:Nat,y.2.level=(lv:Int)/\lv≤3/\1≤y.2.birth/\y.2.birth≤iU bs0 ((qs.take k).map (·.2)) (lv+1):=by
 have d:(cR 3 t)[k]?=some y.2:=by rw[←e,List.getElem?_map,h];rfl
 obtain⟨g,j,o⟩:=Qx f.kept.ok y.2 (List.mem_of_getElem? d);refine⟨y.2.level.toNat,by omega,by omega,g,?_⟩;have:=f.fine.at d
 rwa [←e,←List.map_take] at this
end
end
end Go.Proofs.YtoeinblfcbpcmaaGreat
