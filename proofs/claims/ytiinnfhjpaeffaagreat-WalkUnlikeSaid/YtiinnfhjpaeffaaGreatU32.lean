import Derived.Test.YtiinnfhjpaeffaaGreatU31
namespace Go.Proofs.YtiinnfhjpaeffaaGreat
open Tryz
set_option maxHeartbeats 0
set_option maxRecDepth 100000
set_option linter.unusedVariables false
section
open Go.RowKit Go.Maps Go.ChangeMaps
variable{w w' w1 w2:World}{c g k s l n cap b b11 b12 b14:Nat}{S T:Kor}{B:Nat->Prop}{v u kv ov v':Value}{xs:List Value}{a:Int}{p q:Pt}{t:TypeId}{fr:Nat×Nat}{vs us:Nat->Value}{tot ns:List Nat}{qs:List (Value×Pt)}
theorem Fp(hK:KI w c S B){x:Int}(hg:w.heap[g]?=some (.cells #[.int .i64 x] 3 (0,0)))(pv:Value)(t:Tr)(ht:Tr.Ok S 3 t)(L:aX w B pv t.ptr):Calls prog 37 #[.pointer c,.agg (aF pv t.ptr).toArray,nwV g,bkV] w (iB w (bks (aZ x) 3 t 0)):=by
 have ql:=O ht;have j:=O hK;have y:=O (fun i (e:B i)=>hK.lt e);have o:=O hg;have J:=O (lt_of_block hg);obtain⟨p,F⟩:=zX9 t.ptr
 have V:=O F;rw[F] at L ⊢;have m:=O L;have qk:Hid (p.root=true):=O (by rw[←F];exact ht.root);have E:=aJ (v:=pv) L.pt.sum;have H:=aN L.pt;have D:=Fl pv p L.pt.sum;obtain⟨P,r⟩:=zX9 (aF pv p)
 obtain⟨lc,z⟩:=zX9 (dR pv p 0)
 have qn:Hid (∀u∈P,u.oneCell'=true):=O (by rw[←r];exact H);have qj:=O r;have qh:=O z;rw[r] at E D ⊢;rw[z] at D;have qg:=O D;have W:=O (fun i I=>(L.off i I).2.lt);clear H r z L ht hK F hg D;have d:=lN w;go_in
 go_wp2_with ((with_reducible show WL _ _);refine bxL d 39 (.tmp 0) (#[.pointer c]) ?_)
 intro M w1 f d;replace m:=pK m f;replace j:=O (KI.keep0 j.out f);replace o:=O (f.blk o.out id);clear f
 go_wp2_with ((with_reducible show WL _ _);refine bxL d 27 (.tmp 1) (P.toArray) ?_)
 intro b5 w2 f d;replace m:=pK m f;replace j:=O (KI.keep0 j.out f);replace o:=O (f.blk o.out id);clear f
 go_wp2_with ((with_reducible show WL _ _);refine bxL d 85 (.tmp 2) (#[nwV g]) ?_)
 intro Z w3 f d;replace m:=pK m f;replace j:=O (KI.keep0 j.out f);replace o:=O (f.blk o.out id);clear f
 go_wp2_with ((with_reducible show WL _ _);refine bxL d 91 (.tmp 3) (#[bkV]) ?_)
 intro b7 w4 f d;replace m:=pK m f;replace j:=O (KI.keep0 j.out f);replace o:=O (f.blk o.out id);clear f;have c1:w4.cell? ⟨M,0,none⟩=some (.pointer c):=(aD (i:=0) (d.b 3) rfl)
 go_wp2_with ((with_reducible show WL _ _);first
  | refine wpList_load_mid rfl 27 (.tmp 5) rfl b5 0 rfl P _ (aC (d.b 2)) aG rfl (szP9 E) ?_
  | refine bsA 22 27 (.tmp 15) underlying22 rO (by omega) P E (by omega) ?_)
 clear c1;intro qo w5 qe f C;replace d:=lW d qe f C;replace m:=pK m f;replace j:=O (KI.keep0 j.out f);replace o:=O (f.blk o.out id);clear qe f C;go_wp2_with fail;refine((zW j.out pv p m.pt qk.out (by rw[qj.out];exact d.b 0):Ka w5 (aK w5 (.int .i64 0)))).mono ?_;rintro e w6 ⟨rfl,f⟩;replace d:=kL d f;replace m:=pK m f;replace j:=O (KI.keep0 j.out f);replace o:=O (f.blk o.out id);clear f
 go_wp2_with ((with_reducible show WL _ _);refine alL d 42 (.slice none 0 0) (#[.slice none 0 0]) QE ?_)
 intro b11 w7 f d;replace m:=pK m f;replace j:=O (KI.keep0 j.out f);replace o:=O (f.blk o.out id);clear f
 go_wp2_with ((with_reducible show WL _ _);refine alL d 132 (.nilFunc) (#[.nilFunc]) PS ?_)
 intro b12 w8 f d;replace m:=pK m f;replace j:=O (KI.keep0 j.out f);replace o:=O (f.blk o.out id);clear f
 go_wp2_with ((with_reducible show WL _ _);refine sta 132 (.tmp 12) (.tmp 21) b12 0 ([dbV Z b7 b11 M b12]) (d.b 0) (by simp) (by kernel_rfl) (one9) ?_)
 intro G f C;replace C:G.heap[b12]?=some (.cells #[dbV Z b7 b11 M b12] 132 (0,0)):=C;replace d:=O (d.set 0 f C);replace m:=O (m.keepT f fun i I e=>by have A:=W.out i I;have N:=(d.lt 0).1;omega);replace j:=O (j.keepT f fun i e C=>by have A:=y.out i C;have N:=(d.lt 0).1;omega);replace o:=O (f.blk o.out fun e=>by have A:=J.out;have N:=(d.lt 0).1;omega);clear f C;obtain⟨Y,qc⟩:=zX9 G.heap.size
 have qm:g<G.heap.size:=Nat.lt_of_lt_of_le J.out d.keep.size;have qb:∀i,B i->i<Y:=fun i e=>by have A:=y.out i e;have N:=d.keep.size;omega
 have qd:ThB B Y c g x Z b7 b11 M b12 G:=⟨o.out,d.b 4,d.b 3,d.b 6,d.b 0,fun i I=>by
  have g6:=d.lt 4;have g7:=d.lt 3;have g4:=d.lt 6;have qp:=d.lt 0;have qa:=d.lt 1;have gg:=J.out;have n6:b11≠Z:=bH d.nd (i:=4) rfl 1 (by decide) rfl;have n7:b11≠b7:=bH d.nd (i:=3) rfl 1 (by decide) rfl;have n4:b11≠M:=bH d.nd (i:=6) rfl 1 (by decide) rfl;have qr:b11≠b12:=bH d.nd (i:=0) rfl 1 (by decide) rfl;rcases I with rfl|rfl|rfl|rfl|rfl<;>omega,⟨by have qa:=d.lt 1;omega,fun e=>by have A:=y.out _ e;have qa:=d.lt 1;omega⟩⟩
 have U:Hid (oL Y b11 G (.slice none 0 0) []):=O ⟨d.b 1,World.ownsRow_nil _ _ _ _⟩;have HT:=O qd;have qf:=O qb;have K:=O qc;have X:Hid (∀i,pv.ownBlock=some i->i≠b11/\(Value.slice none 0 0).ownBlock≠some i):=O (fun i I=>⟨fun e=>by have A:=W.out i I;have N:=(d.lt 1).1;omega,fun e=>by cases e⟩);clear qm qb qd qc;have R:=O d.keep.size;have c1:G.cell? ⟨b12,0,none⟩=some (dbV Z b7 b11 M b12):=(aD (i:=0) (d.b 0) rfl)
 go_wp2_with ((with_reducible show WL _ _);first
  | refine wpList_load_mid rfl 27 (.tmp 5) rfl b5 0 rfl P _ (aC (d.b 5)) aG rfl (szP9 E) ?_
  | refine bld 90 #[(0,.tmp 23)] [(0,.agg P.toArray)] (.agg lc.toArray) qg.out ?_)
 clear c1;have qi:Hid (w.heap.size≤Y):=O (by have A:=K.out;have N:=R.out;omega);refine((by rw[←qh.out,←V.out];exact No qf.out 3 (by omega) G (.slice none 0 0) [] pv t 0 j.out HT.out U.out (by have A:=K.out;have N:=d.keep.size;omega) (by have A:=OZ (x:=x) (t:=t);rw[List.length_nil];omega) (by decide) ql.out (by rw[V.out];exact m.out) X.out:Ka G (rP Y b11 x 3 t 0 (.slice none 0 0) [] G))).mono ?_;rintro e wa ⟨v,rfl,ho,-,f⟩;have Q:=O (cell_of_one ho.cell)
 have HP:Hid (iB w (bks (aZ x) 3 t 0) (.returned (.tuple #[v,.int .i64 0])) wa):=O (by
  have qq:=d.keep.size;have hn:=K.out;have hr:=ho.row;rw[List.nil_append] at hr;refine⟨v,rfl,aW hr qi.out,d.keep.tT f (fun i I e=>?_)⟩;rcases e with e|e
  ·have A:=(d.lt 1).1;omega
  ·cases e)
 clear d HT U j m ho f;have c1:wa.cell? ⟨b11,0,none⟩=some (v):=Q.out;go_wp2_with fail;clear c1
 go_ret2
 exact HP.out
theorem I6(N:KI w c S B)(pv:Value)(t:Tr)(R:Tr.Ok S 3 t)(J:aX w B pv t.ptr)(x:Int):Calls prog 17 #[.pointer c,.agg (aF pv t.ptr).toArray,.int .i64 x] w (iB w (bks (aZ x) 3 t 0)):=by
 have K:=O R;have d:=O N;obtain⟨p,A⟩:=zX9 t.ptr
 have G:=O A;rw[A] at J ⊢;have f:=O J;obtain⟨M,F,L,V⟩:=nmPt J.pt;rw[F.out];clear J R N A;have m:=lN w;go_in
 go_wp2_with ((with_reducible show WL _ _);refine bxL m 27 (.tmp 1) (M.toArray) ?_)
 intro X w1 j m;replace f:=pK f j;replace d:=O (KI.keep0 d.out j);clear j;go_wp2_with fail;refine dwA aB (by kernel_rfl) ?_;intro w2 S o y I r;replace m:=kL m r;replace f:=pK f r;replace d:=O (KI.keep0 d.out r);clear r;have E:=m;have H:=f;have D:=d;refine tna 0 (.pointer c) rfl I ?_;refine tnd 1 (.agg M.toArray) rfl (yieldsIf_load_mid (by rfl) 27 (.tmp 4) rfl X 0 rfl M _ (fun w' h=>aC ((o w' h).blk (E.b 0) id)) aG rfl (szP9 L)) I ?_;refine tna 2 (.int .i64 x) rfl I ?_;refine wA9 3 ?_;go_wp2_with fail;refine((xZ w2 x)).mono ?_;rintro e U ⟨g,rfl,P,-,j⟩;have C:=O P;clear P;have z:=y.out _ ((o _ I).trans j);replace m:=kL m j;replace f:=pK f j;replace d:=O (KI.keep0 d.out j);clear I j;go_wp2_with fail;refine⟨z,?_⟩;refine wA9 4 ?_;go_wp2_with fail;refine((by rw[←F.out,←G.out];exact Fp d.out C.out pv t K.out (by rw[G.out];exact f.out):Ka U (iB U (bks (aZ x) 3 t 0)))).mono ?_;rintro e Y ⟨v,rfl,Q,j⟩;have W:Hid (iB w (bks (aZ x) 3 t 0) (.returned (.tuple #[v,.int .i64 0])) Y):=O ⟨v,rfl,aW Q m.keep.size,m.keep.trans j⟩;have i:=y.out _ ((o _ z).trans j);clear z j Q m d f C;go_wp2_with fail;refine⟨i,?_⟩;refine tnb 5 v rfl i ?_;refine tnb 6 (.int .i64 0) rfl i ?_;refine tna 7 v rfl i ?_;refine tna 8 (.int .i64 0) rfl i ?_;refine wpAnyH_done (by kernel_rfl) ?_ _;clear i o y E H D;go_wp2
 go_ret2
 exact W.out
theorem Lc(U:KI w c S B)(pv:Value)(t:Tr)(Z:Tr.Ok S 3 t)(N:aX w B pv t.ptr)(x:Int):Calls prog 16 #[.pointer c,.agg (aF pv t.ptr).toArray,.int .i64 x] w (fW w ((thr (aZ x) 3 t 0).map (·.1))):=by
 have L:=O Z;have d:=O U;obtain⟨p,E⟩:=zX9 t.ptr
 have J:=O E;rw[E] at N ⊢;have f:=O N;obtain⟨R,I,P,qa⟩:=nmPt N.pt;rw[I.out];clear N Z U E;have o:=lN w;go_in
 go_wp2_with ((with_reducible show WL _ _);refine bxL o 27 (.tmp 1) (R.toArray) ?_)
 intro b4 w1 m o;replace f:=pK f m;replace d:=O (KI.keep0 d.out m);clear m;go_wp2_with fail;refine dwA aB (by kernel_rfl) ?_;intro w2 S r C M A;replace o:=kL o A;replace f:=pK f A;replace d:=O (KI.keep0 d.out A);clear A;have H:=o;have K:=f;have G:=d;refine tna 0 (.pointer c) rfl M ?_;refine tnd 1 (.agg R.toArray) rfl (yieldsIf_load_mid (by rfl) 27 (.tmp 4) rfl b4 0 rfl R _ (fun w' h=>aC ((r w' h).blk (H.b 0) id)) aG rfl (szP9 P)) M ?_;refine tna 2 (.int .i64 x) rfl M ?_;refine wA9 3 ?_;go_wp2_with fail;refine((xZ w2 x)).mono ?_;rintro e w3 ⟨g,rfl,V,-,m⟩;have F:=O V;clear V;have D:=C.out _ ((r _ M).trans m);replace o:=kL o m;replace f:=pK f m;replace d:=O (KI.keep0 d.out m);clear M m;go_wp2_with fail;refine⟨D,?_⟩;refine wA9 4 ?_;go_wp2_with fail;refine((by rw[←I.out,←J.out];exact zX d.out F.out pv t L.out (by rw[J.out];exact f.out) (yV L.out):Ka w3 (fW w3 ((thr (aZ x) 3 t 0).map (·.1))))).mono ?_;rintro e w4 ⟨v,qs,rfl,Y,X,z,m⟩;have HP:Hid (fW w ((thr (aZ x) 3 t 0).map (·.1)) (.returned (.tuple #[v,.int .i64 0])) w4):=O ⟨v,qs,rfl,Y,aW X o.keep.size,fun y Q=>⟨(z y Q).1,fun i W=>⟨Nat.le_trans o.keep.size ((z y Q).2 i W).1,((z y Q).2 i W).2⟩⟩,o.keep.trans m⟩;have j:=C.out _ ((r _ D).trans m);clear D m Y X z o d f F;go_wp2_with fail;refine⟨j,?_⟩;refine tnb 5 v rfl j ?_;refine tnb 6 (.int .i64 0) rfl j ?_;refine tna 7 v rfl j ?_;refine tna 8 (.int .i64 0) rfl j ?_;refine wpAnyH_done (by kernel_rfl) ?_ _;clear j r C H K G;go_wp2
 go_ret2
 exact HP.out
theorem zY{α:Type}{f:α->List Value}:∀{l:List α},(∀y∈l,(f y).length=k)->∀(i:Nat){y:α},l[i]?=some y->∀j,j<k->(l.flatMap f)[i*k+j]?=(f y)[j]?
 | [],_,_,_,d,_,_=>by simp at d
 | x::l,h,0,y,d,j,m=>by
   have e:x=y:=by simpa using d
   subst e;rw[List.flatMap_cons,Nat.zero_mul,Nat.zero_add,List.getElem?_append_left (by rw[h x (List.mem_cons_self ..)];exact m)]
 | x::l,h,i+1,y,d,j,m=>by
   rw[List.flatMap_cons,List.getElem?_append_right (by rw[h x (List.mem_cons_self ..),Nat.succ_mul];omega),h x (List.mem_cons_self ..),show (i+1)*k+j-k=i*k+j by rw[Nat.succ_mul];omega];exact zY (fun y d=>h y (List.mem_cons_of_mem _ d)) i (by simpa using d) j m
theorem I7{α:Type}{f:α->List Value}{l:List α}(m:∀y∈l,(f y).length=s)(E:0<s)(h:Rd w s v l.length (l.flatMap f)){x:α}(i:l[k]?=some x) :
 ∃g o cap,v=.slice (some ⟨g,o,none⟩) l.length cap/\w.rangeAt g (o+k*s) (f x):=by
 obtain⟨h0,a,cap,rfl,F,G,H,z⟩:=h;have D:=(List.getElem?_eq_some_iff.1 i).1;have d:0<l.length*s:=Nat.mul_pos (by omega) E;obtain⟨g,o,rfl,C⟩:=z (by rw[h0];exact d);refine⟨g,o,cap,rfl,fun j u r=>?_⟩;have e:j<s:=by have:=(List.getElem?_eq_some_iff.1 r).1;rwa [m x (List.mem_of_getElem? i)] at this
 have A:=zY (f:=f) (k:=s) (l:=l) m k i j e;have:=C (k*s+j) u (A.trans r)
 rwa [←Nat.add_assoc] at this
theorem Fq{base:Nat}{e:TypeId}{g:Option Addr}{ys:List Value}(h:w.ownsRow base e s (.slice g (n+1) cap) (n+1) (xs++ys))(i:xs.length=n*s):w.ownsRow base e s (.slice g n cap) n xs:=by
 rcases h.2 with⟨d,m⟩|⟨o,j,cur,d,m,r,z,x,h6,h7⟩
 ·omega
 ·injection d with d f y
  subst d y;refine⟨i,.inr ⟨o,cap,cur,rfl,m,r,by omega,x,h6,?_⟩⟩;have f:=congrArg (List.take (n*s)) h7;rw[List.take_take,←i,List.take_left,i] at f;rw[show min (n*s) ((n+1)*s)=n*s from Nat.min_eq_left (Nat.mul_le_mul_right s (Nat.le_succ n))] at f;exact f
theorem rQ{α:Type}(R:α->Prop)(wt:α->Nat):∀(n:Nat),(∃a,R a/\wt a≤n)->∃a,R a/\∀b,R b->wt a≤wt b
 | 0,⟨a,d,h⟩=>⟨a,d,fun b _=>by omega⟩
 | n+1,⟨a,d,h⟩=>by
   by_cases c:∃b,R b/\wt b≤n
   ·exact rQ R wt n c
   ·exact⟨a,d,fun b f=>by
     have:¬wt b≤n:=fun e=>c ⟨b,f,e⟩
     omega⟩
open Classical in
noncomputable def kX{α:Type}(R:α->Prop)(wt:α->Nat):Nat:=if h:∃a,R a/\∀b,R b->wt a≤wt b then wt h.choose else 0
theorem Ld{α:Type}{R:α->Prop}{wt:α->Nat}{a:α}(d:R a):∃b,R b/\kX R wt=wt b:=by
 have h:∃a,R a/\∀b,R b->wt a≤wt b:=rQ R wt (wt a) ⟨a,d,Nat.le_refl _⟩;refine⟨h.choose,h.choose_spec.1,?_⟩;unfold kX;rw[dif_pos h]
theorem yF{α:Type}{R:α->Prop}{wt:α->Nat}{a:α}(d:R a):kX R wt≤wt a:=by
 have h:∃a,R a/\∀b,R b->wt a≤wt b:=rQ R wt (wt a) ⟨a,d,Nat.le_refl _⟩;unfold kX;rw[dif_pos h];exact h.choose_spec.2 a d
structure Ent where
 s:Tr
 t:Tr
 sv:Value
 tv:Value
 l:Nat
 a:Nat
def gF(v u:Value)(p q:Pt)(l a:Int):List Value:=aF v p++(aF u q++[.int .i64 l,.int .i64 a])
def jO(e:Ent):List Value:=gF e.sv e.tv e.s.ptr e.t.ptr (e.l:Int) (e.a:Int)
theorem vV{l:Int}(d:p.sum.length=32)(e:q.sum.length=32):(gF v u p q l a).length=72:=by
 unfold gF;rw[List.length_append,List.length_append,aJ d,aJ e];rfl
theorem Fs{l:Int}(e:PtV w v p)(f:PtV w u q):∀x∈gF v u p q l a,x.oneCell'=true:=by
 intro x d;unfold gF at d;rcases List.mem_append.1 d with d|d
 ·exact aN e x d
 ·rcases List.mem_append.1 d with d|d
  ·exact aN f x d
  ·simp only[List.mem_cons,List.not_mem_nil,or_false] at d
   rcases d with rfl|rfl<;>rfl
theorem Le{l:Int}(h:w.heap[b]?=some (.cells (gF v u p q l a).toArray t fr)):w.rangeAt b 0 (aF v p):=fun j x d =>
 aD h (by
  rw[List.getElem?_toArray,Nat.zero_add];unfold gF;rw[List.getElem?_append_left (List.getElem?_eq_some_iff.1 d).1];exact d)
theorem Lf{l:Int}(d:p.sum.length=32)(h:w.heap[b]?=some (.cells (gF v u p q l a).toArray t fr)):w.rangeAt b 35 (aF u q):=fun j x e =>
 aD h (by
  rw[List.getElem?_toArray];unfold gF;rw[List.getElem?_append_right (by rw[aJ d];omega),aJ d,show 35+j-35=j by omega,List.getElem?_append_left (List.getElem?_eq_some_iff.1 e).1];exact e)
theorem tZ{l:Int}(d:p.sum.length=32)(e:q.sum.length=32)(h:w.heap[b]?=some (.cells (gF v u p q l a).toArray t fr)):w.cell? ⟨b,70,none⟩=some (.int .i64 l):=
 aD h (by
  rw[List.getElem?_toArray];unfold gF;rw[List.getElem?_append_right (by rw[aJ d];omega),aJ d,List.getElem?_append_right (by rw[aJ e];omega),aJ e];rfl)
theorem Lg{l:Int}(d:p.sum.length=32)(e:q.sum.length=32)(h:w.heap[b]?=some (.cells (gF v u p q l a).toArray t fr)):w.cell? ⟨b,71,none⟩=some (.int .i64 a):=
 aD h (by
  rw[List.getElem?_toArray];unfold gF;rw[List.getElem?_append_right (by rw[aJ d];omega),aJ d,List.getElem?_append_right (by rw[aJ e];omega),aJ e];rfl)
def mL(e:Ent):List Nat:=unl e.l e.s e.t e.a
def oM:Nat->Nat
 | 0=>1
 | l+1=>4*oM l+1
def wtE(d:List Ent):Nat:=(d.map fun e=>oM e.l).sum
theorem AJ(l:Nat):1≤oM l:=by cases l<;>(unfold oM;omega)
theorem qS(d fs:List Ent):wtE (d++fs)=wtE d+wtE fs:=by unfold wtE;rw[List.map_append,List.sum_append]
theorem Co:∀(d:List Ent),d.length≤wtE d
 | []=>Nat.zero_le _
 | e::d=>by
   have f:=Co d;have h:=AJ e.l;unfold wtE at f ⊢;rw[List.map_cons,List.sum_cons,List.length_cons];omega
structure mA(S:Kor)(B:Nat->Prop)(w:World)(kv ov:Value)(e:Ent):Prop where
 s:Tr.Ok S e.l e.s
 t:Tr.Ok S e.l e.t
 l3:e.l≤3
 a64:e.a+4 ^ e.l≤64
 sp:aX w B e.sv e.s.ptr
 tp:aX w B e.tv e.t.ptr
 off:∀i,e.sv.ownBlock=some i\/e.tv.ownBlock=some i->kv.ownBlock≠some i/\ov.ownBlock≠some i
theorem mA.len{e:Ent}(h:mA S B w kv ov e):(jO e).length=72:=vV h.sp.pt.sum h.tp.pt.sum
theorem mA.keep0{e:Ent}(h:mA S B w kv ov e)(k:aA aB w w'):mA S B w' kv ov e:=⟨h.s,h.t,h.l3,h.a64,h.sp.keep0 k,h.tp.keep0 k,h.off⟩
theorem mA.turn{T:Nat->Prop}{f j:Value}{e:Ent}(h:mA S B w kv ov e)(k:aA T w w')(m:∀i,T i->kv.ownBlock=some i\/ov.ownBlock=some i)(o:∀i,f.ownBlock=some i->kv.ownBlock=some i\/w.heap.size≤i)(r:∀i,j.ownBlock=some i->ov.ownBlock=some i\/w.heap.size≤i):mA S B w' f j e:=by
 have x:∀i,e.sv.ownBlock=some i->¬T i:=fun i d e=>(m i e).elim (h.off i (.inl d)).1 (h.off i (.inl d)).2
 have y:∀i,e.tv.ownBlock=some i->¬T i:=fun i d e=>(m i e).elim (h.off i (.inr d)).1 (h.off i (.inr d)).2
 have lt:∀i,e.sv.ownBlock=some i\/e.tv.ownBlock=some i->i<w.heap.size:=fun i d=>d.elim (fun d=>(h.sp.off i d).2.lt) fun d=>(h.tp.off i d).2.lt
 refine⟨h.s,h.t,h.l3,h.a64,h.sp.keepT k x,h.tp.keepT k y,fun i d=>⟨fun e=>?_,fun e=>?_⟩⟩
 ·exact(o i e).elim (h.off i d).1 fun e=>by have:=lt i d;omega
 ·exact(r i e).elim (h.off i d).2 fun e=>by have:=lt i d;omega
structure UnI(w:World)(c:Nat)(S:Kor)(B:Nat->Prop)(tot:List Nat)(wr:World)(kv ov:Value)(es:List Ent)(ns:List Nat):Prop where
 keep:aA aB w wr
 ki:KI wr c S B
 stk:wr.ownsRow w.heap.size 94 72 kv es.length (es.flatMap jO)
 out:wr.ownsRow w.heap.size 3 1 ov ns.length (jN ns)
 ap:∀i,kv.ownBlock=some i->ov.ownBlock≠some i
 ents:∀e∈es,mA S B wr kv ov e
 tot:ns++es.reverse.flatMap mL=tot
 wt:wtE es≤85
 bl:∀i,B i->i<w.heap.size
theorem qT:∀{l:Nat}{s t:Tr}{a:Nat},(unl l s t a).length≤4 ^ l
 | 0,s,t,a=>by rw[fV];split<;>simp
 | l+1,s,t,a=>by
   rw[eL];split
   ·simp
   ·have h0:=qT (l:=l) (s:=s.kid 0) (t:=t.kid 0) (a:=a+0*4 ^ l);have d:=qT (l:=l) (s:=s.kid 1) (t:=t.kid 1) (a:=a+1*4 ^ l)
    have e:=qT (l:=l) (s:=s.kid 2) (t:=t.kid 2) (a:=a+2*4 ^ l);have f:=qT (l:=l) (s:=s.kid 3) (t:=t.kid 3) (a:=a+3*4 ^ l);rw[show List.range 4=[0,1,2,3] from rfl];simp only[List.flatMap_cons,List.flatMap_nil,List.append_nil,List.length_append];rw[Nat.pow_succ];omega
def Ft(e:Ent)(l:Nat)(vs us:Nat->Value)(i:Nat):Ent:=⟨e.s.kid i,e.t.kid i,vs i,us i,l,e.a+i*4 ^ l⟩
def iC(e:Ent)(l:Nat)(vs us:Nat->Value)(k:Nat):List Ent:=(List.range k).map fun j=>Ft e l vs us (3-j)
theorem Lh(e:Ent)(l:Nat)(vs us:Nat->Value)(k:Nat):(iC e l vs us k).length=k:=by unfold iC;rw[List.length_map,List.length_range]
theorem BH(e:Ent)(l:Nat)(vs us:Nat->Value)(k:Nat):iC e l vs us (k+1)=iC e l vs us k++[Ft e l vs us (3-k)]:=by unfold iC;rw[List.range_succ,List.map_append];rfl
theorem Li{e:Ent}(d:e.l=l+1)(f:e.s.ptr.eqB e.t.ptr=false):(iC e l vs us 4).reverse.flatMap mL=mL e:=by
 unfold mL;rw[d,eL,f];rfl
theorem Fu(e:Ent)(l:Nat)(vs us:Nat->Value):∀k,wtE (iC e l vs us k)=k*oM l
 | 0=>by rw[Nat.zero_mul];rfl
 | k+1=>by
   rw[BH,qS,Fu e l vs us k,Nat.succ_mul];rfl
theorem UnI.skip{wr:World}{f:List Ent}{e:Ent}(o:f.length=n)(h:UnI w c S B tot wr (.slice g (n+1) cap) ov (f++[e]) ns)(m:mL e=[]):UnI w c S B tot wr (.slice g n cap) ov f ns:=by
 subst o;refine⟨h.keep,h.ki,?_,h.out,h.ap,fun y i=>?_,?_,?_,h.bl⟩
 ·have d:=h.stk
  rw[List.length_append,List.length_singleton,List.flatMap_append] at d;refine Fq d ?_;have j:∀y∈f,(jO y).length=72:=fun y i=>(h.ents y (List.mem_append_left _ i)).len
  clear h d
  induction f with
  | nil=>rfl
  | cons y f x=>rw[List.flatMap_cons,List.length_append,j y (List.mem_cons_self ..),x fun z r=>j z (List.mem_cons_of_mem _ r),List.length_cons,Nat.succ_mul];omega
 ·have d:=h.ents y (List.mem_append_left _ i)
  exact⟨d.s,d.t,d.l3,d.a64,d.sp,d.tp,d.off⟩
 ·have d:=h.tot
  rw[List.reverse_append,List.flatMap_append,List.reverse_singleton,List.flatMap_cons,List.flatMap_nil,List.append_nil,m,List.nil_append] at d;exact d
 ·have d:=h.wt
  rw[qS] at d;omega
structure UnP(w:World)(c:Nat)(S:Kor)(B:Nat->Prop)(tot:List Nat)(wr:World)(kv ov:Value)(es:List Ent)(e:Ent)(ns:List Nat):Prop where
 keep:aA aB w wr
 ki:KI wr c S B
 stk:wr.ownsRow w.heap.size 94 72 kv es.length (es.flatMap jO)
 out:wr.ownsRow w.heap.size 3 1 ov ns.length (jN ns)
 ap:∀i,kv.ownBlock=some i->ov.ownBlock≠some i
 ents:∀y∈es,mA S B wr kv ov y
 top:mA S B wr kv ov e
 tot:ns++(mL e++es.reverse.flatMap mL)=tot
 wt:wtE es+oM e.l≤85
 bl:∀i,B i->i<w.heap.size
theorem UnI.pops{wr:World}{f:List Ent}{e:Ent}(m:f.length=n)(h:UnI w c S B tot wr (.slice g (n+1) cap) ov (f++[e]) ns):UnP w c S B tot wr (.slice g n cap) ov f e ns:=by
 subst m;refine⟨h.keep,h.ki,?_,h.out,h.ap,fun y i=>?_,?_,?_,?_,h.bl⟩
 ·have d:=h.stk
  rw[List.length_append,List.length_singleton,List.flatMap_append] at d;refine Fq d ?_;have j:∀y∈f,(jO y).length=72:=fun y i=>(h.ents y (List.mem_append_left _ i)).len
  clear h d
  induction f with
  | nil=>rfl
  | cons y f r=>rw[List.flatMap_cons,List.length_append,j y (List.mem_cons_self ..),r fun z o=>j z (List.mem_cons_of_mem _ o),List.length_cons,Nat.succ_mul];omega
 ·have d:=h.ents y (List.mem_append_left _ i)
  exact⟨d.s,d.t,d.l3,d.a64,d.sp,d.tp,d.off⟩
 ·have d:=h.ents e (List.mem_append_right _ (List.mem_singleton.2 rfl))
  exact⟨d.s,d.t,d.l3,d.a64,d.sp,d.tp,d.off⟩
 ·have d:=h.tot
  rw[List.reverse_append,List.flatMap_append,List.reverse_singleton,List.flatMap_cons,List.flatMap_nil,List.append_nil] at d;exact d
 ·have d:=h.wt
  rw[qS] at d;exact d
theorem UnP.keep0{wr:World}{d:List Ent}{e:Ent}(h:UnP w c S B tot wr kv ov d e ns)(k:aA aB wr w'):UnP w c S B tot w' kv ov d e ns:=
 ⟨h.keep.trans k,h.ki.keep0 k,k.owns h.stk fun _ _=>id,k.owns h.out fun _ _=>id,h.ap,fun e f=>(h.ents e f).keep0 k,h.top.keep0 k,h.tot,h.wt,h.bl⟩
theorem UnP.skip{wr:World}{d:List Ent}{e:Ent}(h:UnP w c S B tot wr kv ov d e ns)(i:mL e=[]):UnI w c S B tot wr kv ov d ns:=
 ⟨h.keep,h.ki,h.stk,h.out,h.ap,h.ents,by have f:=h.tot;rw[i,List.nil_append] at f;exact f,by have:=h.wt;omega,h.bl⟩
theorem UnP.tell{wr:World}{r:List Ent}{e:Ent}(h:UnP w c S B tot wr kv ov r e ns)(C:mL e=[e.a])(F:aA aB wr w1)(D:w2.ownsRow w.heap.size 3 1 v' (ns.length+1) (jN ns++[.int .i64 (e.a:Int)]))(m:aA (fun i=>ov.ownBlock=some i) w1 w2)(z:v'.ownBlock=ov.ownBlock\/v'.ownBlock=some w1.heap.size):UnI w c S B tot w2 kv v' r (ns++[e.a]):=by
 have h0:=h.keep0 F
 have j:∀i,v'.ownBlock=some i->ov.ownBlock=some i\/w1.heap.size≤i:=fun i d=>by
  rcases z with e|e
  ·exact .inl (e▸d)
  ·have G:w1.heap.size=i:=Option.some.inj (e.symm.trans d)
   exact .inr (by omega)
 have f:∀i,ov.ownBlock=some i->w.heap.size≤i:=fun i d=>aU h.out d
 refine⟨h0.keep.tT m fun i d e=>by have:=f i e;omega,h0.ki.keepT m fun i d e=>by have o:=f i d;have H:=h.bl i e;omega,m.owns h0.stk fun i d e=>h0.ap i d e,?_,fun i d e=>?_,fun y E=>(h0.ents y E).turn m (fun i d=>.inr d) (fun i d=>.inl d) j,?_,by have:=h.wt;omega,h.bl⟩
 ·rw[List.length_append,List.length_singleton]
  have x:jN (ns++[e.a])=jN ns++[.int .i64 (e.a:Int)]:=by unfold jN;rw[List.map_append];rfl
  rw[x];exact D
 ·rcases j i e with e|e
  ·exact h0.ap i d e
  ·obtain⟨cur,A⟩:=aL h0.stk d
   have:=lt_of_block A;omega
 ·have o:=h.tot
  rw[C] at o;rw[List.append_assoc];exact o
structure UnQ(w:World)(c:Nat)(S:Kor)(B:Nat->Prop)(tot:List Nat)(wr:World)(kv ov:Value)(es:List Ent)(e:Ent)(l:Nat)(ns:List Nat)(vs us:Nat->Value)(b11 b12 b14 k:Nat):Prop where
 keep:aA aB w wr
 ki:KI wr c S B
 stk:wr.ownsRow w.heap.size 94 72 kv (es.length+k) ((es++iC e l vs us k).flatMap jO)
 out:wr.ownsRow w.heap.size 3 1 ov ns.length (jN ns)
 ap:∀i,kv.ownBlock=some i->ov.ownBlock≠some i/\i≠b11/\i≠b12/\i≠b14
 ents:∀y∈es++iC e l vs us k,mA S B wr kv ov y
 vs_:bS wr B vs (fun i=>(e.s.kid i).ptr)
 us_:bS wr B us (fun i=>(e.t.kid i).ptr)
 off:∀q,q<4->∀i,(vs q).ownBlock=some i\/(us q).ownBlock=some i->kv.ownBlock≠some i/\ov.ownBlock≠some i
 h11:wr.heap[b11]?=some (.cells (jO e).toArray 94 (0,0))
 h12:wr.heap[b12]?=some (.cells (bU ((l+1:Nat):Int) vs (fun i=>(e.s.kid i).ptr)).toArray 98 (0,0))
 h14:wr.heap[b14]?=some (.cells (bU ((l+1:Nat):Int) us (fun i=>(e.t.kid i).ptr)).toArray 98 (0,0))
 el:e.l=l+1
 es_:Tr.Ok S (l+1) e.s
 et:Tr.Ok S (l+1) e.t
 l2:l≤2
 a64:e.a+4 ^ (l+1)≤64
 ne:e.s.ptr.eqB e.t.ptr=false
 tot:ns++(mL e++es.reverse.flatMap mL)=tot
 wt:wtE es+oM e.l≤85
 bl:∀i,B i->i<w.heap.size
theorem UnQ.keep0{wr:World}{d:List Ent}{e:Ent}(h:UnQ w c S B tot wr kv ov d e l ns vs us b11 b12 b14 k)(q:aA aB wr w'):UnQ w c S B tot w' kv ov d e l ns vs us b11 b12 b14 k:=
 ⟨h.keep.trans q,h.ki.keep0 q,q.owns h.stk fun _ _=>id,q.owns h.out fun _ _=>id,h.ap,fun e f=>(h.ents e f).keep0 q,h.vs_.keep0 q,h.us_.keep0 q,h.off,q.blk h.h11 id,q.blk h.h12 id,q.blk h.h14 id,h.el,h.es_,h.et,h.l2,h.a64,h.ne,h.tot,h.wt,h.bl⟩
theorem UnQ.push{wr:World}{G:List Ent}{e:Ent}{j:Nat}(h:UnQ w c S B tot wr kv ov G e l ns vs us b11 b12 b14 k)(R:k+j=3)(N:aA aB wr w1)
 (M:w2.ownsRow w.heap.size 94 72 v' (G.length+k+1) ((G++iC e l vs us k).flatMap jO++jO (Ft e l vs us j))) (o:aA (fun i=>kv.ownBlock=some i) w1 w2) (J:v'.ownBlock=kv.ownBlock\/v'.ownBlock=some w1.heap.size):UnQ w c S B tot w2 v' ov G e l ns vs us b11 b12 b14 (k+1):=by
 have h0:=h.keep0 N
 have x:∀i,v'.ownBlock=some i->kv.ownBlock=some i\/w1.heap.size≤i:=fun i d=>by
  rcases J with e|e
  ·exact .inl (e▸d)
  ·have H:w1.heap.size=i:=Option.some.inj (e.symm.trans d)
   exact .inr (by omega)
 have A:∀i,kv.ownBlock=some i->w.heap.size≤i:=fun i d=>aU h.stk d
 have h11:=lt_of_block h0.h11;have h12:=lt_of_block h0.h12;have h14:=lt_of_block h0.h14;have F:∀q,q<4->∀i,(vs q).ownBlock=some i\/(us q).ownBlock=some i->i<w1.heap.size:=fun q m i d=>d.elim (fun d=>((h0.vs_ q m).off i d).2.lt) fun d=>((h0.us_ q m).off i d).2.lt
 have r:∀q,q<4->∀i,(vs q).ownBlock=some i\/(us q).ownBlock=some i->v'.ownBlock≠some i/\ov.ownBlock≠some i:=fun q m i d=>⟨fun e=>(x i e).elim (h.off q m i d).1 fun e=>by have:=F q m i d;omega,(h.off q m i d).2⟩
 have E:bS w2 B vs (fun i=>(e.s.kid i).ptr):=h0.vs_.keepT o fun q m i d=>(h.off q m i (.inl d)).1
 have D:bS w2 B us (fun i=>(e.t.kid i).ptr):=h0.us_.keepT o fun q m i d=>(h.off q m i (.inr d)).1
 have C:iC e l vs us (k+1)=iC e l vs us k++[Ft e l vs us j]:=by rw[BH,show 3-k=j by omega]
 have f:j<4:=by omega
 refine⟨h0.keep.tT o fun i d e=>by have:=A i e;omega,h0.ki.keepT o fun i d e=>by have P:=A i d;have Q:=h.bl i e;omega,?_,o.owns h0.out fun i d e=>(h.ap i e).1 d,fun i d=>?_,fun y z=>?_,E,D,r,o.blk h0.h11 fun e=>(h.ap _ e).2.1 rfl,o.blk h0.h12 fun e=>(h.ap _ e).2.2.1 rfl,o.blk h0.h14 fun e=>(h.ap _ e).2.2.2 rfl,h.el,h.es_,h.et,h.l2,h.a64,h.ne,h.tot,h.wt,h.bl⟩
 ·rw[C,←List.append_assoc,List.flatMap_append,List.flatMap_cons,List.flatMap_nil,List.append_nil,←Nat.add_assoc]
  exact M
 ·rcases x i d with e|e
  ·exact h.ap i e
  ·refine⟨fun H=>?_,by omega,by omega,by omega⟩
   obtain⟨cur,K⟩:=aL h0.out H;have:=lt_of_block K;omega
 ·rw[C,←List.append_assoc] at z
  rcases List.mem_append.1 z with z|z
  ·exact(h0.ents y z).turn o (fun i d=>.inl d) x (fun i d=>.inl d)
  ·rw[List.mem_singleton] at z
   subst z;have L:(j+1)*4 ^ l≤4*4 ^ l:=Nat.mul_le_mul_right _ (by omega);have I:=h.a64;rw[Nat.succ_mul] at L;rw[Nat.pow_succ] at I;exact⟨h.es_.kid f,h.et.kid f,by show l≤3;have:=h.l2;omega,by show e.a+j*4 ^ l+4 ^ l≤64;omega,E j f,D j f,fun i d=>r j f i d⟩
theorem UnQ.fin{wr:World}{d:List Ent}{e:Ent}(h:UnQ w c S B tot wr kv ov d e l ns vs us b11 b12 b14 4):UnI w c S B tot wr kv ov (d++iC e l vs us 4) ns/\wtE (d++iC e l vs us 4)<wtE d+oM e.l:=by
 have j:wtE (d++iC e l vs us 4)+1=wtE d+oM e.l:=by
  rw[qS,Fu,h.el];show wtE d+4*oM l+1=wtE d+(4*oM l+1);omega
 refine⟨⟨h.keep,h.ki,by rw[List.length_append,Lh];exact h.stk,h.out,fun i f=>(h.ap i f).1,h.ents,?_,by have:=h.wt;omega,h.bl⟩,by omega⟩;rw[List.reverse_append,List.flatMap_append,Li h.el h.ne];exact h.tot
theorem QF{P:Program}{j:Array Oper}{rest:List Oper}{o:Oper}{a:Act}{Q:Exit->Act->World->Prop}(t e:TypeId)(x y:Operand)(G:P.underlying t=some (.slice e)){z:Value}{size bytes:Nat}(f:(P.info? e).map (fun i=>(i.zero,i.size,i.bytes))=some (some z,size,bytes))(m:0<size)
 (vs us:List Value) (A:vs.length=size) (r:us.length=size) (d:2*size≤2 ^ 24) (h:∀b w',w.heap.size=b->aA aB w w'->w'.heap[b]?=some (.cells (vs++us).toArray e (0,0))->wpList P j Q rest (a.put o.dst (.slice (some ⟨b,0,none⟩) 2 2)) w')
 (H:a.eval x=.agg vs.toArray:=by rfl) (I:a.eval y=.agg us.toArray:=by rfl) (E:o.guard=none:=by rfl) (F:o.op=.buildSlice t 2 #[(0,x),(1,y)]:=by rfl):wpList P j Q (o::rest) a w:=by
 refine pZ E t e 2 _ F G f m [vs,us] (fun l C=>?_) rfl (by decide) d ?_ (h _ _ rfl ((aA.refl _ _).alloc _) ?_)
 ·simp only[List.mem_cons,List.not_mem_nil,or_false] at C
  rcases C with rfl|rfl
  ·exact A
  ·exact r
 ·simp[kJ,H,I]
 ·have D:[vs,us].flatten=vs++us:=by simp
  rw[D];exact heap_alloc_new _ _
structure yX(w:World)(g n:Nat)(vs:Nat->Value)(ps:Nat->Pt):Prop where
 v:∀k,k<n->PtV w (vs k) (ps k)
 r:∀k,k<n->(ps k).root=true
 a:∀k,k<n->w.rangeAt g (k*35) (aF (vs k) (ps k))
theorem yX.keep0{e:Nat->Pt}(h:yX w g n vs e)(k:aA aB w w'):yX w' g n vs e:=⟨fun i d=>(h.v i d).keep k fun _ _=>id,h.r,fun i d=>k.rangeAt (h.a i d)⟩
theorem Fv(N:KI w c S B)(hn:n≤100)(vs:Nat->Value)(Q:Nat->Pt)(V:yX w g n vs Q):Calls prog 39 #[.pointer c,.slice g n n] w (aK w (.int .i64 0)):=by
 have G:=O (by have:=N.bd.c1;omega:¬((S.cp:Nat):Int)=0);have F:=O N;have L:=O V;have o:=lN w;clear N V;go_in;go_wp2_with fail;refine((KI.copies F.out:Ka w (aK w (.int .i64 (S.cp:Int))))).mono ?_;rintro e w1 ⟨rfl,d⟩;replace o:=kL o d;replace F:=O (KI.keep0 F.out d);replace L:=O (L.keep0 d);clear d;have y:=G.out;have X:decide (((S.cp:Nat):Int)=0)=false:=decide_eq_false y;have Y:(((S.cp:Nat):Int) == 0)=false:=by rw[beq_eq_false_iff_ne];exact y
 go_wp2_with fail;have H:=O o.keep;clear o F
 go_loopw [13] (fun i wr=>∃k:Nat,k≤n/\i=.int .i64 (k:Int)/\Hid (aA aB w1 wr)) (fun i _=>n-(intOf i).toNat)
 case atStart=>exact⟨0,by omega,rfl,O (aA.refl _ _)⟩
 case round =>
  obtain⟨k,d,rfl,z⟩:=hrel
  by_cases C:k<n
  ·have A:(0:Int)≤(k:Int):=by omega
   have W:(k:Int)<(n:Int):=by omega
   have o:=lN wr;have r:=L.keep0 z.out;have h:=O (r.v k C);have M:=O (r.r k C);obtain⟨D,f⟩:=zX9 (aF (vs k) (Q k))
   have K:=O f;have j:D.length=35:=by rw[←f];exact aJ h.sum
   have J:Hid (∀u∈D,u.oneCell'=true):=O (by rw[←f];exact aN h.out);have m:Hid (wr.rangeAt g (k*35) D):=O (by rw[←f];exact r.a k C);clear r f
   go_wp2_with ((with_reducible show WL _ _);first
    | refine wpList_load_mid rfl 27 (.tmp 15) rfl g (k*35) rfl D _ (m.out) aG rfl (szP9 j) ?_
    | refine al 27 (.agg aH.toArray) (aH.toArray) bA ?_)
   intro U w2 E A x
   go_wp2_with ((with_reducible show WL _ _);refine sta 27 (.tmp 6) (.tmp 16) U 0 D x (by first|decide|(rw[List.size_toArray,j];exact Nat.le_refl _)|simp[j,aE]) (szP9 j) J.out ?_)
   intro R d P;rw[aI _ _ (by first|rfl|(rw[List.size_toArray,j];rfl)|simp[j,aE])] at P;replace d:=tX A d (fun i Z e=>by omega);replace o:=lW o E d P;replace h:=O (h.keep d fun _ _=>id);replace m:=O (d.rangeAt m.out);clear E d P A x
   go_wp2_with ((with_reducible show WL _ _);refine wpList_load_mid rfl 27 (.tmp 6) rfl U 0 rfl D _ (aC (o.b 0)) aG rfl (szP9 j) ?_)
   refine((by rw[←K.out];exact tA R (vs k) (Q k) h.out M.out:Ka R (aK R (.int .i64 0)))).mono ?_;rintro e w4 ⟨rfl,d⟩;replace o:=kL o d;replace h:=O (h.keep d fun _ _=>id);replace m:=O (d.rangeAt m.out);clear d;have I:=O (z.trans o.keep);go_wp2
   go_roundw
   case rel=>exact⟨k+1,by omega,by go_num,I⟩
   case measure=>simp[intOf];omega
  ·obtain rfl:k=n:=by omega
   go_wp2;go_ret;exact⟨rfl,H.trans z.out⟩
def uA:List Value:=gF (.slice none 0 0) (.slice none 0 0) zPt zPt 0 0
theorem BI:uA.length=72:=rfl
theorem PV:Hid (∀w,(zeroValue 94).run prog w=.ok (.agg uA.toArray) w):=O fun w=>by kernel_rfl
theorem Lj:(prog.info? 94).map (·.size)=some 72:=by kernel_rfl
theorem AK:(prog.info? 94).map (fun i=>(i.zero,i.size,i.bytes))=some (some (.agg uA.toArray),72,160):=by kernel_rfl
theorem I8(f g:Nat->Value)(l a:Int):prog.built 94 [(0,.agg ((List.range 35).map f).toArray),(1,.agg ((List.range 35).map g).toArray),(2,.int .i64 l),(3,.int .i64 a)]=some ((List.range 35).map f++((List.range 35).map g++[Value.int .i64 l,.int .i64 a])).toArray:=by kernel_rfl
theorem Dl(v u:Value)(p q:Pt)(l a:Int)(d:p.sum.length=32)(e:q.sum.length=32)(w:World):(Instr.build 94 #[(0,.agg (aF v p).toArray),(1,.agg (aF u q).toArray),(2,.int .i64 l),(3,.int .i64 a)]).run prog w=.ok (.agg (gF v u p q l a).toArray) w:=by
 refine run_build w 94 _ _ ?_;unfold gF;rw[yU (aF v p) (aJ d),yU (aF u q) (aJ e)];exact I8 _ _ _ _
theorem UnI.top{wr:World}{A:Option Addr}{I j:Nat}{d:List Ent}{e:Ent}(h:UnI w c S B tot wr (.slice A I j) ov (d++[e]) ns):∃g,A=some ⟨g,0,none⟩/\wr.rangeAt g (d.length*72) (jO e)/\d.length+1≤j/\j≤maxLen/\j≤9223372036854775807:=by
 have G:(d++[e])[d.length]?=some e:=by rw[List.getElem?_append_right (Nat.le_refl _),Nat.sub_self];rfl
 obtain⟨g,o,cap,F,z⟩:=I7 (f:=jO) (s:=72) (fun y H=>(h.ents y H).len) (by decide) (Rd.of_owns h.stk) G;rcases h.stk.2 with⟨i,x⟩|⟨C,r,cur,i,x,J,D,E,h6,h7⟩
 ·rw[List.length_append,List.length_singleton] at x
  omega
 ·injection i with i K L
  injection F with h10 h11 h12
  rw[i] at h10;injection h10 with h10
  injection h10 with m h14
  subst m;rw[←h14,Nat.zero_add] at z;rw[List.length_append,List.length_singleton] at D;exact⟨C,i,z,by omega,by omega,by unfold maxLen at E;omega⟩
theorem PW{p q:List Value}(h:w.heap[b]?=some (.cells (p++q).toArray t fr)):w.rangeAt b (0*35) p:=fun j x d =>
 aD h (by rw[List.getElem?_toArray,Nat.zero_mul,Nat.zero_add,List.getElem?_append_left (List.getElem?_eq_some_iff.1 d).1];exact d)
theorem PX{p q:List Value}(e:p.length=35)(h:w.heap[b]?=some (.cells (p++q).toArray t fr)):w.rangeAt b (1*35) q:=fun j x d =>
 aD h (by rw[List.getElem?_toArray,List.getElem?_append_right (by omega),e,show 1*35+j-35=j by omega];exact d)
theorem Rd.slice_len{m:Nat}{a:Option Addr}(h:Rd w s (.slice a m c) n xs):m=n:=by
 obtain⟨d,f,e,-,-⟩:=h.form;injection e
theorem vX(hK:KI w c S B)(pv qv:Value)(s t:Tr)(hs:Tr.Ok S 3 s)(ht:Tr.Ok S 3 t)(hp:aX w B pv s.ptr)(hq:aX w B qv t.ptr):Calls prog 18 #[.pointer c,.agg (aF pv s.ptr).toArray,.agg (aF qv t.ptr).toArray] w (iB w (unl 3 s t 0)):=by
 have ug:=O hs;have ui:=O ht;have J:=O hK;have zo:Hid (s.ptr.root=true/\t.ptr.root=true):=O ⟨hs.root,ht.root⟩;obtain⟨p,xu⟩:=zX9 s.ptr
 obtain⟨q,xv⟩:=zX9 t.ptr
 have xj:=O xu;have xk:=O xv;rw[xu] at hp zo ⊢;rw[xv] at hq zo ⊢;have K:=O hp;have L:=O hq;have qg:=aJ (v:=pv) hp.pt.sum;have qo:=aJ (v:=qv) hq.pt.sum;have zh:=Dl pv qv p q 3 0 hp.pt.sum hq.pt.sum;obtain⟨pc,G⟩:=zX9 (aF pv p)
 obtain⟨qc,H⟩:=zX9 (aF qv q)
 obtain⟨xc,I⟩:=zX9 (gF pv qv p q 3 0)
 have v5:Hid (∀u∈pc,u.oneCell'=true):=O (by rw[←G];exact aN hp.pt);have v6:Hid (∀u∈qc,u.oneCell'=true):=O (by rw[←H];exact aN hq.pt);have U:xc.length=72:=by rw[←I];exact vV hp.pt.sum hq.pt.sum
 have qu:=O G;have qw:=O H;have M:=O I;rw[G] at qg zh ⊢;rw[H] at qo zh ⊢;rw[I] at zh;have vq:=O zh;have x2:=O (fun i (e:B i)=>hK.lt e);have v9:=O (fun i E=>(hp.off i E).2.lt);have uc:=O (fun i E=>(hq.off i E).2.lt);clear G H I hp hq hs ht hK xu xv zh;have f:=lN w;go_in
 go_wp2_with ((with_reducible show WL _ _);refine bxL f 27 (.tmp 1) (pc.toArray) ?_)
 intro b4 w1 d f;replace K:=pK K d;replace L:=pK L d;replace J:=O (KI.keep0 J.out d);clear d
 go_wp2_with ((with_reducible show WL _ _);refine bxL f 27 (.tmp 2) (qc.toArray) ?_)
 intro b5 w2 d f;replace K:=pK K d;replace L:=pK L d;replace J:=O (KI.keep0 J.out d);clear d
 go_wp2_with ((with_reducible show WL _ _);first
  | refine wpList_load_mid rfl 27 (.tmp 4) rfl b4 0 rfl pc _ (aC (f.b 1)) aG rfl (szP9 qg) ?_
  | refine wpList_load_mid rfl 27 (.tmp 5) rfl b5 0 rfl qc _ (aC (f.b 0)) aG rfl (szP9 qo) ?_
  | refine QF 22 27 (.tmp 17) (.tmp 18) underlying22 rO (by omega) pc qc qg qo (by omega) ?_)
 intro xm w3 z d P;replace f:=lW f z d P;replace K:=pK K d;replace L:=pK L d;replace J:=O (KI.keep0 J.out d);clear z d P;go_wp2_with fail
 refine((Fv J.out (g:=xm) (n:=2) (by omega) (fun k=>if k=0 then pv else qv) (fun k=>if k=0 then p else q) ⟨fun k d=>by
  have:k=0\/k=1:=by omega
  rcases this with rfl|rfl
  ·exact K.pt
  ·exact L.pt,fun k d=>by
  have:k=0\/k=1:=by omega
  rcases this with rfl|rfl
  ·exact zo.1
  ·exact zo.2,fun k d=>by
  have h:=f.b 0;have:k=0\/k=1:=by omega
  rcases this with rfl|rfl
  ·show World.rangeAt _ xm (0*35) (aF pv p)
   rw[qu.out];exact PW h
  ·show World.rangeAt _ xm (1*35) (aF qv q)
   rw[qw.out];exact PX qg h⟩:Ka w3 (aK w3 (.int .i64 0)))).mono ?_
 rintro e w4 ⟨rfl,d⟩;replace f:=kL f d;replace K:=pK K d;replace L:=pK L d;replace J:=O (KI.keep0 J.out d);clear d
 go_wp2_with ((with_reducible show WL _ _);first
  | refine wpList_load_mid rfl 27 (.tmp 4) rfl b4 0 rfl pc _ (aC (f.b 2)) aG rfl (szP9 qg) ?_
  | refine wpList_load_mid rfl 27 (.tmp 5) rfl b5 0 rfl qc _ (aC (f.b 1)) aG rfl (szP9 qo) ?_
  | refine bld 94 #[(0,.tmp 24),(1,.tmp 25),(2,.const (.int .i64 3)),(3,.const (.int .i64 0))] [(0,.agg pc.toArray),(1,.agg qc.toArray),(2,.int .i64 3),(3,.int .i64 0)] (.agg xc.toArray) vq.out ?_
  | refine bsA 95 94 (.tmp 26) underlying95 AK (by omega) xc U (by omega) ?_)
 intro ql w5 z d P;have xi:=O (show w.heap.size≤ql from by have h:=f.keep.size;omega);have u3:=O (show w4.heap.size=ql from z);replace f:=kL f d;have x1:=O P;replace K:=pK K d;replace L:=pK L d;replace J:=O (KI.keep0 J.out d)
 have uf:Hid (∃A ns,UnI w c S B (unl 3 s t 0) w5 (.slice ql 1 1) (.slice none 0 0) A ns):=O ⟨[⟨s,t,pv,qv,3,0⟩],[],f.keep,J.out,by
  refine⟨by rw[List.flatMap_cons,List.flatMap_nil,List.append_nil];show (gF pv qv s.ptr t.ptr 3 0).length=1*72;rw[xj.out,xk.out,M.out,U],.inr ⟨ql,1,xc.toArray,rfl,xi.out,P,Nat.le_refl _,by unfold maxLen;omega,by rw[List.size_toArray,U],?_⟩⟩;rw[List.flatMap_cons,List.flatMap_nil,List.append_nil];show xc.take 72=gF pv qv s.ptr t.ptr 3 0;rw[xj.out,xk.out,M.out,←U,List.take_length],World.ownsRow_nil _ _ _ _,fun i E e=>(by cases e),fun e he=>by
  rw[List.mem_singleton] at he;subst he;refine⟨ug.out,ui.out,Nat.le_refl _,by show 0+4 ^ 3≤64;decide,by show aX _ B pv s.ptr;rw[xj.out];exact K.out,by show aX _ B qv t.ptr;rw[xk.out];exact L.out,fun i E=>⟨fun e=>?_,fun e=>by cases e⟩⟩;have e2:ql=i:=Option.some.inj e
  have h1:i<w5.heap.size/\i≠ql:=by
   rcases E with E|E
   ·have h2:=v9.out i E;have h3:=xi.out;exact⟨by have h4:=lt_of_block P;omega,by omega⟩
   ·have h2:=uc.out i E;have h3:=xi.out;exact⟨by have h4:=lt_of_block P;omega,by omega⟩
  exact h1.2 e2.symm,by rw[List.nil_append];show ([⟨s,t,pv,qv,3,0⟩]:List Ent).flatMap mL=_;rw[List.flatMap_cons,List.flatMap_nil,List.append_nil];rfl,Nat.le_refl 85,x2.out⟩
 clear z d P f J K L x1;go_wp2_with fail
 go_loopw [9,10] (fun o k wr=>∃(oa:Option Addr) (on oc:Nat) (ka:Option Addr) (kn kc:Nat),o=.slice oa on oc/\k=.slice ka kn kc/\Hid (∃A ns,UnI w c S B (unl 3 s t 0) wr (.slice ka kn kc) (.slice oa on oc) A ns)) (fun o k wr=>kX (fun A=>∃ns,UnI w c S B (unl 3 s t 0) wr k o A ns) wtE)
 case atStart=>exact⟨none,0,0,some ⟨ql,0,none⟩,1,1,rfl,rfl,uf⟩
 case round =>
  obtain⟨oa,on,oc,ka,kn,kc,rfl,rfl,HU⟩:=hrel;obtain⟨uk,ux,vd⟩:=HU.out;obtain⟨A,⟨ns,hU⟩,vf⟩:=Ld (R:=fun A=>∃ns,UnI w c S B (unl 3 s t 0) wr (.slice ka kn kc) (.slice oa on oc) A ns) (wt:=wtE) (a:=uk) ⟨ux,vd⟩;have zs:=O vf;have vm:on=ns.length:=(Rd.of_owns hU.out).slice_len;have qz:kn=A.length:=(Rd.of_owns hU.stk).slice_len;have x6:=O vm;clear HU vd vf vm;rcases List.eq_nil_or_concat A with rfl|⟨A,e,rfl⟩
  ·have Z:kn=0:=qz
   clear qz;subst Z
   have HP:Hid (iB w (unl 3 s t 0) (.returned (.tuple #[.slice oa on oc,.int .i64 0])) wr):=O (by
    have h1:=hU.tot;rw[List.reverse_nil,List.flatMap_nil,List.append_nil] at h1;rw[←h1];exact⟨_,rfl,hU.out,hU.keep⟩)
   clear hU;go_wp2
   go_ret2
   exact HP.out
  ·rw[List.concat_eq_append] at hU qz zs
   rw[List.length_append,List.length_singleton] at qz;obtain⟨n,hn⟩:=zX9 A.length
   have q9:=O hn;rw[hn] at qz;subst qz;clear hn;obtain⟨g,rfl,zn,uq,u9,u0⟩:=hU.top;rw[q9.out] at zn uq;have m:=O (hU.pops q9.out);have x7:=O (hU.pops q9.out);have Y:=(hU.pops q9.out).top;have xd:=Co A;have zm:=hU.wt;rw[qS] at zm;rw[q9.out] at xd;have u2:n≤85:=by omega
   have xl:Hid (wtE (A++[e])=wtE A+oM e.l):=O (by rw[qS];unfold wtE;simp);clear xd zm hU;obtain⟨p1,zw⟩:=zX9 e.s.ptr
   obtain⟨q1,zx⟩:=zX9 e.t.ptr
   obtain⟨sv,zz⟩:=zX9 e.sv
   obtain⟨tv,z0⟩:=zX9 e.tv
   obtain⟨l,hl⟩:=zX9 e.l
   obtain⟨a,ha⟩:=zX9 e.a
   have HE:=O (And.intro zw (And.intro zx (And.intro zz (And.intro z0 (And.intro hl ha)))));have qh:=Y.sp;have qi:=Y.tp;have qr:=Y.a64;rw[zz,zw] at qh;rw[z0,zx] at qi;rw[ha,hl] at qr;have C:=O qh;have D:=O qi;have r:Hid (p1.sum.length=32/\q1.sum.length=32):=O ⟨qh.pt.sum,qi.pt.sum⟩;have U:(gF sv tv p1 q1 (l:Int) (a:Int)).length=72:=vV qh.pt.sum qi.pt.sum;have xg:Hid (jO e=gF sv tv p1 q1 (l:Int) (a:Int)):=O (by unfold jO;rw[zz,z0,zw,zx,hl,ha]);rw[xg.out] at zn;obtain⟨xc,I⟩:=zX9 (gF sv tv p1 q1 (l:Int) (a:Int))
   have v7:Hid (∀u∈xc,u.oneCell'=true):=O (by rw[←I];exact Fs qh.pt qi.pt);have M:=O I;rw[I] at zn U;have zt:=O zn;obtain⟨pc,G⟩:=zX9 (aF sv p1)
   obtain⟨qc,H⟩:=zX9 (aF tv q1)
   have qu:=O G;have qw:=O H;have qg:pc.length=35:=by rw[←G];exact aJ qh.pt.sum
   have qo:qc.length=35:=by rw[←H];exact aJ qi.pt.sum
   have v5:Hid (∀u∈pc,u.oneCell'=true):=O (by rw[←G];exact aN qh.pt);have v6:Hid (∀u∈qc,u.oneCell'=true):=O (by rw[←H];exact aN qi.pt);have zf:Hid (Tr.Ok S l e.s/\Tr.Ok S l e.t/\l≤3):=O (by rw[←hl];exact⟨Y.s,Y.t,Y.l3⟩);have x0:=O qr;have ul:a≤64:=Nat.le_trans (Nat.le_add_right _ _) qr;have ja:l≤3:=zf.2.2;have f:=lN wr;have jc:(0:Int)<(n:Int)+1:=by omega
   clear Y zw zx zz z0 hl ha qh qi qr zn I G H
   go_wp2_with ((with_reducible show WL _ _);first
    | refine wpList_load_mid rfl 94 (.tmp 35) rfl g (n*72) rfl xc _ zt.out underlying94 rfl (by rw[U];exact Lj) ?_
    | refine al 94 (.agg uA.toArray) (uA.toArray) PV ?_)
   intro b11 w7 z Z Q
   go_wp2_with ((with_reducible show WL _ _);refine sta 94 (.tmp 11) (.tmp 36) b11 0 xc Q (by first|decide|(rw[List.size_toArray,U];exact Nat.le_refl _)|simp[U,BI]) (by rw[U];exact Lj) v7.out ?_)
   intro w8 d P;rw[aI _ _ (by first|rfl|(rw[List.size_toArray,U];rfl)|simp[U,BI])] at P;replace d:=tX Z d (fun i E e=>by omega);replace f:=lW f z d P;replace m:=O (m.keep0 d);replace C:=pK C d;replace D:=pK D d;replace zt:=O (d.rangeAt zt.out);clear z d P Z Q;clear zt
   go_wp2_with ((with_reducible show WL _ _);first
    | refine wpList_load_mid rfl 27 (.tmp 42) rfl b11 0 rfl pc _ (by rw[←qu.out];exact Le (by have h:=f.b 0;rw[←M.out] at h;exact h)) aG rfl (szP9 qg) ?_
    | refine wpList_load_mid rfl 27 (.tmp 44) rfl b11 35 rfl qc _ (by rw[←qw.out];exact Lf r.1 (by have h:=f.b 0;rw[←M.out] at h;exact h)) aG rfl (szP9 qo) ?_)
   refine((by rw[←qu.out,←qw.out];exact uU w8 sv tv p1 q1 C.pt D.pt:Ka w8 (aY w8 (p1.eqB q1)))).mono ?_;rintro e w9 ⟨rfl,d⟩;replace f:=kL f d;replace m:=O (m.keep0 d);replace C:=pK C d;replace D:=pK D d;clear d;obtain⟨eb,xq⟩:=zX9 (p1.eqB q1)
   rw[xq];have xf:=O xq;clear xq;cases eb with
   | true =>
     have X:Hid (UnI w c S B (unl 3 s t 0) w9 (.slice g n kc) (.slice oa on oc) A ns):=O (m.skip (by
      have h:=HE.out;unfold mL;have e1:e.s.ptr.eqB e.t.ptr=true:=by rw[h.1,h.2.1];exact xf.out
      cases e.l with
      | zero=>rw[fV,e1];rfl
      | succ l=>rw[eL,e1];rfl))
     have zb:Hid (∃es_ qp,UnI w c S B (unl 3 s t 0) w9 (.slice g n kc) (.slice oa on oc) es_ qp):=O ⟨_,_,X.out⟩
     have q5:Hid (kX (fun es_=>∃qp,UnI w c S B (unl 3 s t 0) w9 (.slice g n kc) (.slice oa on oc) es_ qp) wtE<kX (fun A=>∃ns,UnI w c S B (unl 3 s t 0) wr (.slice g (n+1) kc) (.slice oa on oc) A ns) wtE):=O (by
      rw[zs.out,xl.out];refine Nat.lt_of_le_of_lt (yF (a:=A) ⟨_,X.out⟩) ?_;have:=AJ e.l;omega)
     clear X m C D f;go_wp2
     go_roundw
     case rel=>exact⟨oa,on,oc,some ⟨g,0,none⟩,n,kc,rfl,rfl,zb⟩
     case measure=>exact q5.out
   | false =>
     rcases l with _|l
     ·have c1:w9.cell? ⟨b11,70,none⟩=some (.int .i64 0):=(tZ r.1 r.2 (by have h:=f.b 0;rw[←M.out] at h;exact h))
      have c2:w9.cell? ⟨b11,71,none⟩=some (.int .i64 (a:Int)):=(Lg r.1 r.2 (by have h:=f.b 0;rw[←M.out] at h;exact h))
      go_wp2_with ((with_reducible show WL _ _);refine bs1 42 3 (.tmp 52) (.int .i64 (a:Int)) (by kernel_rfl) (by kernel_rfl) underlying42 rfl ?_)
      clear c1 c2;intro vc wa z d P;have ze:Hid (Rd wa 1 (.slice vc 1 1) 1 [.int .i64 (a:Int)]):=O (eQ (n:=1) (size:=1) P rfl (by unfold maxLen;omega));have ua:=m;have vy:=O d;replace m:=O (m.keep0 d);clear z d P f
      have x8:Hid (mL e=[e.a]):=O (by
       have h:=HE.out;unfold mL;rw[h.2.2.2.2.1,fV,h.1,h.2.1,xf.out];rfl)
      have x5:Hid (ns.length+1≤100):=O (by
       have h1:=congrArg List.length m.tot;have h2:=qT (l:=3) (s:=s) (t:=t) (a:=0);rw[List.length_append,x8.out,List.length_append,List.length_singleton] at h1;have h3:4 ^ 3=64:=rfl;omega)
      have qk:Hid (ns.length+1≤maxLen/\(ns.length+1)*8≤140737488355328/\w.heap.size≤wa.heap.size):=O ⟨by have:=x5.out;unfold maxLen;omega,by have:=x5.out;omega,m.keep.size⟩
      go_wp2_with (at_builtin;refine aP rfl (.tmp 50) (.tmp 53) 42 rfl w.heap.size 3 (.int .i64 0) 1 8 underlying42 Fo rfl (by decide) (.slice oa on oc) ns.length (jN ns) rfl m.out.out (.slice vc 1 1) 1 [.int .i64 (a:Int)] rfl ze.out (by intro u hu;rcases List.mem_singleton.1 hu with rfl;rfl) qk.1 qk.2.1 qk.2.2 ?_)
      intro v2 w8 qn qy xt zg;obtain⟨z3,z5,rfl,-,-⟩:=(Rd.of_owns qn).form
      have X:Hid (UnI w c S B (unl 3 s t 0) w8 (.slice g n kc) (.slice z3 (ns.length+1) z5) A (ns++[e.a])):=O (by
       have h:=HE.out;refine UnP.tell m.out x8.out (aA.refl _ _) ?_ qy zg;rw[h.2.2.2.2.2];exact qn)
      have zb:Hid (∃es_ qp,UnI w c S B (unl 3 s t 0) w8 (.slice g n kc) (.slice z3 (ns.length+1) z5) es_ qp):=O ⟨_,_,X.out⟩
      have q5:Hid (kX (fun es_=>∃qp,UnI w c S B (unl 3 s t 0) w8 (.slice g n kc) (.slice z3 (ns.length+1) z5) es_ qp) wtE<kX (fun A=>∃ns,UnI w c S B (unl 3 s t 0) wr (.slice g (n+1) kc) (.slice oa on oc) A ns) wtE):=O (by
       rw[zs.out,xl.out];refine Nat.lt_of_le_of_lt (yF (a:=A) ⟨_,X.out⟩) ?_;have:=AJ e.l;omega)
      clear X m ua C D qn qy xt zg ze vy;go_wp2
      go_roundw
      case rel=>exact⟨z3,ns.length+1,z5,some ⟨g,0,none⟩,n,kc,rfl,rfl,zb⟩
      case measure=>exact q5.out
     ·have jb:(((l:Int)+1) == 0)=false:=by rw[beq_eq_false_iff_ne];omega
      have u1:¬((l:Int)+1=0):=by omega
      have xr:l≤2:=by omega
      have c1:w9.cell? ⟨b11,70,none⟩=some (.int .i64 ((l+1:Nat):Int)):=(tZ r.1 r.2 (by have h:=f.b 0;rw[←M.out] at h;exact h))
      have c2:w9.cell? ⟨b11,70,none⟩=some (.int .i64 ((l+1:Nat):Int)):=(tZ r.1 r.2 (by have h:=f.b 0;rw[←M.out] at h;exact h))
      go_wp2_with ((with_reducible show WL _ _);refine wpList_load_mid rfl 27 (.tmp 57) rfl b11 0 rfl pc _ (by rw[←qu.out];exact Le (by have h:=f.b 0;rw[←M.out] at h;exact h)) aG rfl (szP9 qg) ?_)
      clear c1 c2;have x9:=O (And.intro f.keep.size (show w9.heap.size≤w9.heap.size from Nat.le_refl _));refine((by rw[←qu.out,←HE.1];exact sL m.ki xr sv e.s zf.1 (by rw[HE.1];exact C.pt):Ka w9 (eU w9 B l e.s))).mono ?_;rintro e wb ⟨vs,rfl,qb,qf,d⟩;have N:=O qb;have z7:Hid (∀q,q<4->∀i,(vs q).ownBlock=some i->w9.heap.size≤i):=O qf;have q3:=cX ((l+1:Nat):Int) vs qb.nv;have zd:=cZ ((l+1:Nat):Int) qb.nv;obtain⟨nn,F⟩:=zX9 (bU ((l+1:Nat):Int) vs (fun i=>(e.s.kid i).ptr))
      have x6:Hid (∀u∈nn,u.oneCell'=true):=O (by rw[←F];exact zd);have vu:=O F;rw[F] at q3 ⊢;clear zd F qb qf;replace f:=kL f d;replace m:=O (m.keep0 d);replace C:=pK C d;replace D:=pK D d;clear d
      go_wp2_with ((with_reducible show WL _ _);refine al 98 (.agg cQ.toArray) (cQ.toArray) iM ?_)
      intro b12 wc z Z Q
      go_wp2_with ((with_reducible show WL _ _);refine sta 98 (.tmp 12) (.tmp 62) b12 0 nn Q (by first|decide|(rw[List.size_toArray,q3];exact Nat.le_refl _)|simp[q3,bK]) (by rw[q3];exact dA) x6.out ?_)
      intro wd d P;rw[aI _ _ (by first|rfl|(rw[List.size_toArray,q3];rfl)|simp[q3,bK])] at P;replace d:=tX Z d (fun i E e=>by omega);have v1:=O (show wb.heap.size≤b12 from Nat.le_of_eq z);replace f:=lW f z d P;replace m:=O (m.keep0 d);replace C:=pK C d;replace D:=pK D d;replace N:=O (bS.keep0 N.out d);clear z d P Z Q;have c1:wd.cell? ⟨b11,70,none⟩=some (.int .i64 ((l+1:Nat):Int)):=(tZ r.1 r.2 (by have h:=f.b 1;rw[←M.out] at h;exact h))
      go_wp2_with ((with_reducible show WL _ _);refine wpList_load_mid rfl 27 (.tmp 69) rfl b11 35 rfl qc _ (by rw[←qw.out];exact Lf r.1 (by have h:=f.b 1;rw[←M.out] at h;exact h)) aG rfl (szP9 qo) ?_)
      clear c1;have va:=O (And.intro f.keep.size (show wd.heap.size≤wd.heap.size from Nat.le_refl _));refine((by rw[←qw.out,←HE.2.1];exact sL m.ki xr tv e.t zf.2.1 (by rw[HE.2.1];exact D.pt):Ka wd (eU wd B l e.t))).mono ?_;rintro e we ⟨us,rfl,qb,qf,d⟩;have qq:=O qb;have z6:Hid (∀q,q<4->∀i,(us q).ownBlock=some i->wd.heap.size≤i):=O qf;have q0:=cX ((l+1:Nat):Int) us qb.nv;have zd:=cZ ((l+1:Nat):Int) qb.nv;obtain⟨mm,F⟩:=zX9 (bU ((l+1:Nat):Int) us (fun i=>(e.t.kid i).ptr))
      have v4:Hid (∀u∈mm,u.oneCell'=true):=O (by rw[←F];exact zd);have vt:=O F;rw[F] at q0 ⊢;clear zd F qb qf;replace f:=kL f d;replace m:=O (m.keep0 d);replace C:=pK C d;replace D:=pK D d;replace N:=O (bS.keep0 N.out d);clear d
      go_wp2_with ((with_reducible show WL _ _);refine al 98 (.agg cQ.toArray) (cQ.toArray) iM ?_)
      intro b14 wf z Z Q
      go_wp2_with ((with_reducible show WL _ _);refine sta 98 (.tmp 14) (.tmp 74) b14 0 mm Q (by first|decide|(rw[List.size_toArray,q0];exact Nat.le_refl _)|simp[q0,bK]) (by rw[q0];exact dA) v4.out ?_)
      intro wg d P;rw[aI _ _ (by first|rfl|(rw[List.size_toArray,q0];rfl)|simp[q0,bK])] at P;replace d:=tX Z d (fun i E e=>by omega);have v3:=O (show we.heap.size≤b14 from Nat.le_of_eq z);replace f:=lW f z d P;replace m:=O (m.keep0 d);replace C:=pK C d;replace D:=pK D d;replace N:=O (bS.keep0 N.out d);replace qq:=O (bS.keep0 qq.out d);clear z d P Z Q;go_wp2_with fail
      have ud:Hid (UnQ w c S B (unl 3 s t 0) wg (.slice g n kc) (.slice oa on oc) A e l ns vs us b11 b12 b14 0):=O (by
       have h:=HE.out;have zy:∀i,(Value.slice g n kc).ownBlock=some i->i<wr.heap.size:=fun i E=>by (obtain⟨cur,hc⟩:=aL x7.stk E;exact lt_of_block hc)
       have ur:∀i,(Value.slice oa on oc).ownBlock=some i->i<wr.heap.size:=fun i E=>by (obtain⟨cur,hc⟩:=aL x7.out.out E;exact lt_of_block hc)
       have u4:=(f.lt 2).1;have u5:=(f.lt 1).1;have u6:=(f.lt 0).1;have z1:=x9.1;have z2:=va.1;have h0:=m.out;have uo:e.l=l+1:=h.2.2.2.2.1;refine⟨h0.keep,h0.ki,?_,h0.out,fun i E=>⟨h0.ap i E,?_,?_,?_⟩,fun y hy=>h0.ents y (by rw[show iC e l vs us 0=[] from rfl,List.append_nil] at hy;exact hy),N.out,qq.out,fun q hq i E=>⟨fun e1=>?_,fun e1=>?_⟩,?_,?_,?_,uo,zf.1,zf.2.1,xr,by rw[h.2.2.2.2.2];exact x0.out,by rw[h.1,h.2.1];exact xf.out,h0.tot,h0.wt,h0.bl⟩
       ·rw[show iC e l vs us 0=[] from rfl,List.append_nil,Nat.add_zero]
        exact h0.stk
       ·have:=zy i E;omega
       ·have:=zy i E;omega
       ·have:=zy i E;omega
       ·have h3:=zy i e1
        exact E.elim (fun E=>by have:=z7.out q hq i E;omega) fun E=>by have:=z6.out q hq i E;omega
       ·have h3:=ur i e1
        exact E.elim (fun E=>by have:=z7.out q hq i E;omega) fun E=>by have:=z6.out q hq i E;omega
       ·have h4:=f.b 2
        rw[xg.out,M.out];exact h4
       ·have h4:=f.b 1
        rw[←vu.out] at h4;exact h4
       ·have h4:=f.b 0
        rw[←vt.out] at h4;exact h4)
      have x4:=O (fun(vp:Value) (w9:World) (xn:List Ent) (uw:List Nat) (h:UnI w c S B (unl 3 s t 0) w9 vp (.slice oa on oc) xn uw) (hw:wtE xn<wtE A+oM e.l)=>show kX (fun A=>∃ns,UnI w c S B (unl 3 s t 0) w9 vp (.slice oa on oc) A ns) wtE<kX (fun A=>∃ns,UnI w c S B (unl 3 s t 0) wr (.slice g (n+1) kc) (.slice oa on oc) A ns) wtE from by
       rw[zs.out,xl.out];exact Nat.lt_of_le_of_lt (yF (a:=xn) ⟨_,h⟩) hw)
      clear f m C D N qq
      go_loopw [10,15] (fun kk i wq=>∃(k j kn:Nat) (ka:Option Addr) (kc:Nat) (ij:Int),k+j=4/\ij=(j:Int)-1/\i=.int .i64 ij/\kk=.slice ka kn kc/\Hid (UnQ w c S B (unl 3 s t 0) wq (.slice ka kn kc) (.slice oa on oc) A e l ns vs us b11 b12 b14 k)) (fun _ i _=>(intOf i+1).toNat)
      case atStart=>exact⟨0,4,n,some ⟨g,0,none⟩,kc,3,rfl,rfl,rfl,rfl,ud⟩
      case round =>
       obtain⟨k,j1,kn,ka,qj,ij,vi,vh,rfl,rfl,V⟩:=hrel;rcases j1 with _|j
       ·obtain rfl:k=4:=by omega
        obtain rfl:ij=-1:=by omega
        have xh:=O V.fin;have X:=O xh.1;have zb:Hid (∃A ns,UnI w c S B (unl 3 s t 0) wr (.slice ka kn qj) (.slice oa on oc) A ns):=O ⟨_,_,X.out⟩;have q5:=O (x4 _ _ _ _ X.out xh.2);clear X V xh vh vi;go_wp2
        go_roundw
        case rel=>exact⟨oa,on,oc,ka,kn,qj,rfl,rfl,zb⟩
        case measure=>exact q5.out
       ·obtain rfl:ij=(j:Int):=by omega
        have vj:k+j=3:=by omega
        have zu:j<4:=by omega
        have u7:(0:Int)≤(j:Int):=by omega
        have u8:(j:Int)<4:=by omega
        clear vh vi;have vx:=O vj;have zr:=O (V.vs_ j zu);have zq:=O (V.us_ j zu);have xw:=mI V.vs_.nv (aC V.h12) zu;have xx:=mI V.us_.nv (aC V.h14) zu;have h11:=V.h11;rw[xg.out] at h11;have H7:=O (tZ r.1 r.2 h11);have H8:=O (Lg r.1 r.2 h11);have za:=O (show ¬(Value.slice ka kn qj).ownBlock=some b11/\¬(Value.slice ka kn qj).ownBlock=some b12/\¬(Value.slice ka kn qj).ownBlock=some b14 from⟨fun e=>(V.ap _ e).2.1 rfl,fun e=>(V.ap _ e).2.2.1 rfl,fun e=>(V.ap _ e).2.2.2 rfl⟩);obtain⟨W,hW⟩:∃W:Nat,4 ^ l=W:=⟨_,rfl⟩
        have HW:=O hW
        have ve:W≤16:=by
         have:l=0\/l=1\/l=2:=by omega
         rcases this with rfl|rfl|rfl<;>omega
        obtain⟨jw,zv⟩:∃q:Nat,j*W=q:=⟨_,rfl⟩
        have um:jw≤48:=by rw[←zv];exact Nat.le_trans (Nat.mul_le_mul (by omega:j≤3) ve) (by decide)
        have uz:(j:Int)*(W:Int)=(jw:Int):=by rw[←zv];push_cast;rfl
        obtain⟨aj,vg⟩:=zX9 (a+jw)
        have uy:(a:Int)+(jw:Int)=(aj:Int):=by omega
        have vw:Hid (jO (Ft e l vs us j)=gF (vs j) (us j) (e.s.kid j).ptr (e.t.kid j).ptr (l:Int) (aj:Int)):=O (by
         show gF (vs j) (us j) (e.s.kid j).ptr (e.t.kid j).ptr (l:Int) ((e.a+j*4 ^ l:Nat):Int)=_;rw[HE.2.2.2.2.2,hW,zv,vg])
        have zi:=Dl (vs j) (us j) (e.s.kid j).ptr (e.t.kid j).ptr (l:Int) (aj:Int) zr.pt.sum zq.pt.sum;have xy:(gF (vs j) (us j) (e.s.kid j).ptr (e.t.kid j).ptr (l:Int) (aj:Int)).length=72:=vV zr.pt.sum zq.pt.sum;obtain⟨yc,qt⟩:=zX9 (gF (vs j) (us j) (e.s.kid j).ptr (e.t.kid j).ptr (l:Int) (aj:Int))
        have v8:Hid (∀u∈yc,u.oneCell'=true):=O (by rw[←qt];exact Fs zr.pt zq.pt);have uj:=O qt;obtain⟨rc,zj⟩:=zX9 (aF (vs j) (e.s.kid j).ptr)
        obtain⟨tc,zk⟩:=zX9 (aF (us j) (e.t.kid j).ptr)
        have ut:rc.length=35:=by rw[←zj];exact aJ zr.pt.sum
        have uu:tc.length=35:=by rw[←zk];exact aJ zq.pt.sum
        rw[zj] at xw zi;rw[zk] at xx zi;rw[qt] at zi xy;have vr:=O zi;have qd:=O xw;have qe:=O xx;have f:=lN wr
        have x3:Hid (A.length+k+1≤100):=O (by
         have h1:=Co A;have h2:=V.wt;omega)
        clear xw xx h11 hW zv vg zi qt zj zk;go_wp2_with fail;refine dwA (fun i=>(Value.slice ka kn qj).ownBlock=some i) (by kernel_rfl) ?_;intro wr S qa zp hS qm;replace f:=kL f qm;replace V:=O (V.keep0 qm);replace qd:=O (qm.rangeAt qd.out);replace qe:=O (qm.rangeAt qe.out);replace H7:=O (qm.cell H7.out id);replace H8:=O (qm.cell H8.out id);clear qm;have vz:=f;have ue:=V;have z9:=qd;have xa:=qe;have xe:=H7;have xz:=H8;refine tna 0 (.slice ka kn qj) rfl hS ?_;refine tna 1 (.int .i64 (j:Int)) rfl hS ?_;refine tnb 2 (.pointer (some ⟨b12,1,none⟩)) rfl hS ?_;refine tnd 3 (.pointer (some ⟨b12,1+j*35,none⟩)) rfl (.inl ⟨by rfl,fun _ _=>by go_simp<;>omega⟩) hS ?_;refine tnd 4 (.agg rc.toArray) rfl (yieldsIf_load_mid (by rfl) 27 (.tmp 86) rfl b12 (1+j*35) rfl rc _ (fun w' h=>(qa w' h).rangeAt2 z9.out za.2.1) aG rfl (szP9 ut)) hS ?_;refine tna 5 (.int .i64 (j:Int)) rfl hS ?_;refine tnb 6 (.pointer (some ⟨b14,1,none⟩)) rfl hS ?_;refine tnd 7 (.pointer (some ⟨b14,1+j*35,none⟩)) rfl (.inl ⟨by rfl,fun _ _=>by go_simp<;>omega⟩) hS ?_;refine tnd 8 (.agg tc.toArray) rfl (yieldsIf_load_mid (by rfl) 27 (.tmp 90) rfl b14 (1+j*35) rfl tc _ (fun w' h=>(qa w' h).rangeAt2 xa.out za.2.2) aG rfl (szP9 uu)) hS ?_;refine tnb 9 (.pointer (some ⟨b11,70,none⟩)) rfl hS ?_;refine tnd 10 (.int .i64 ((l+1:Nat):Int)) rfl (.inl ⟨by rfl,fun w' zl=>by have c:World.cell? w' ⟨b11,70,none⟩=some (.int .i64 ((l+1:Nat):Int)):=(qa w' zl).cell xe.out za.1;go_simp⟩) hS ?_;refine tnd 11 (.int .i64 (l:Int)) rfl (.inl ⟨by rfl,fun _ _=>by go_simp;exact IntWalk.i64_in _ (by omega)⟩) hS ?_;refine tnb 12 (.pointer (some ⟨b11,71,none⟩)) rfl hS ?_;refine tnd 13 (.int .i64 (a:Int)) rfl (.inl ⟨by rfl,fun w' zl=>by have c:World.cell? w' ⟨b11,71,none⟩=some (.int .i64 (a:Int)):=(qa w' zl).cell xz.out za.1;go_simp⟩) hS ?_;refine tna 14 (.int .i64 (j:Int)) rfl hS ?_;refine tnb 15 (.pointer (some ⟨b11,70,none⟩)) rfl hS ?_;refine tnd 16 (.int .i64 ((l+1:Nat):Int)) rfl (.inl ⟨by rfl,fun w' zl=>by have c:World.cell? w' ⟨b11,70,none⟩=some (.int .i64 ((l+1:Nat):Int)):=(qa w' zl).cell xe.out za.1;go_simp⟩) hS ?_;refine tnd 17 (.int .i64 (l:Int)) rfl (.inl ⟨by rfl,fun _ _=>by go_simp;exact IntWalk.i64_in _ (by omega)⟩) hS ?_;refine wA9 18 ?_;go_wp2_with fail;refine((by rw[←HW.out];exact vO wr l (by omega):Ka wr (aK wr (.int .i64 (W:Int))))).mono ?_;rintro e ws ⟨rfl,d⟩;have qx:=zp.out _ ((qa _ hS).trans d.any);replace f:=kL f d;replace V:=O (V.keep0 d);replace qd:=O (d.rangeAt qd.out);replace qe:=O (d.rangeAt qe.out);replace H7:=O (d.cell H7.out id);replace H8:=O (d.cell H8.out id);clear hS d;go_wp2_with fail;refine⟨qx,?_⟩;refine tnd 19 (.int .i64 (jw:Int)) rfl (.inl ⟨by rfl,fun _ _=>by go_simp;exact IntWalk.i64_in _ (by omega)⟩) qx ?_;refine tnd 20 (.int .i64 (aj:Int)) rfl (.inl ⟨by rfl,fun _ _=>by go_simp;exact IntWalk.i64_in _ (by omega)⟩) qx ?_;refine tnd 21 (.agg yc.toArray) rfl (fI 94 #[(0,.tmp 87),(1,.tmp 91),(2,.tmp 94),(3,.tmp 103)] [(0,.agg rc.toArray),(1,.agg tc.toArray),(2,.int .i64 (l:Int)),(3,.int .i64 (aj:Int))] (.agg yc.toArray) vr.out) qx ?_;refine wA9 22 ?_;refine bsA 95 94 (.tmp 104) underlying95 AK (by omega) yc xy (by omega) ?_;intro xb wt z d P;have xo:=zp.out _ ((qa _ qx).trans d.any);have ze:Hid (Rd wt 72 (.slice xb 1 1) 1 yc):=O (eQ (n:=1) (size:=72) P (by rw[xy]) (by unfold maxLen;omega));replace f:=kL f d;replace V:=O (V.keep0 d);replace qd:=O (d.rangeAt qd.out);replace qe:=O (d.rangeAt qe.out);replace H7:=O (d.cell H7.out id);replace H8:=O (d.cell H8.out id);clear z d P qx;refine wpList_nil ?_;refine⟨xo,?_⟩;refine wA9 23 ?_;have qk:Hid (A.length+k+1≤maxLen/\(A.length+k+1)*160≤140737488355328/\w.heap.size≤wt.heap.size):=O ⟨by have:=x3.out;unfold maxLen;omega,by have:=x3.out;omega,V.keep.size⟩;refine aP rfl (.tmp 83) (.tmp 105) 95 rfl w.heap.size 94 (.agg uA.toArray) 72 160 underlying95 AK rfl (by decide) (.slice ka kn qj) (A.length+k) ((A++iC e l vs us k).flatMap jO) rfl V.stk (.slice xb 1 1) 1 yc rfl ze.out v8.out qk.1 qk.2.1 qk.2.2 ?_;intro v2 wu qn qy xt zg;obtain⟨vn,vo,rfl,-,-⟩:=(Rd.of_owns qn).form;have xp:=zp.out _ ((qa _ xo).trans qy);have v0:=O (V.push (j:=j) vx.out (aA.refl _ _) (by rw[vw.out,uj.out];exact qn) qy zg);clear xo qn qy xt zg ze V qd qe H7 H8 f;refine wpList_nil ?_;refine⟨xp,?_⟩;refine tna 24 (.slice vn (A.length+k+1) vo) rfl xp ?_;refine wpAnyH_done (by kernel_rfl) ?_ _;clear xp qa zp vz ue z9 xa xe xz;go_wp2
        go_roundw
        case rel=>exact⟨k+1,j,A.length+k+1,vn,vo,(j:Int)-1,by omega,rfl,by go_num,rfl,v0⟩
        case measure=>simp[intOf]<;>omega
structure yG(w:World)(v:Value)(qs:List (Value×Pt)):Prop where
 rd:Rd w 35 v qs.length (qs.flatMap fun x=>aF x.1 x.2)
 at_:∀x∈qs,PtV w x.1 x.2
theorem yG.keep0(h:yG w v qs)(k:aA aB w w'):yG w' v qs:=⟨h.rd.keep k fun _ _=>id,fun x d=>(h.at_ x d).keep k fun _ _=>id⟩
def eW(qs:List (Value×Pt)):List Ad:=qs.flatMap fun x=>x.2.addrs
theorem Dm{x:Value×Pt}(h:qs[k]?=some x):eW (qs.take (k+1))=eW (qs.take k)++x.2.addrs:=by
 unfold eW;rw[List.take_add_one,h,List.flatMap_append];simp
theorem Cp(h:∀x∈qs,x.2.addrs.length≤20):(eW qs).length≤20*qs.length:=by
 induction qs with
 | nil=>exact Nat.zero_le _
 | cons x qs f =>
   have d:=f fun y e=>h y (List.mem_cons_of_mem _ e)
   have i:=h x (List.mem_cons_self ..);unfold eW at d ⊢;rw[List.flatMap_cons,List.length_append,List.length_cons];omega
theorem yG.ok(h:yG w v qs):jE (eW qs):=fun a e=>by
 obtain⟨x,f,d⟩:=List.mem_flatMap.1 e;exact(h.at_ x f).ads a d
theorem O0:(prog.info? 82).map (fun i=>(i.zero,i.size,i.bytes))=some (some (.agg #[.int .i64 0,.int .i64 0]),2,16):=by kernel_rfl
theorem vY(w:World)(v:Value)(qs:List (Value×Pt))(h:yG w v qs)(hq:qs.length≤1000)(h8:∀x∈qs,x.2.addrs.length≤20):Calls prog 9 #[v] w (jF w (dO (eW qs))):=by
 obtain⟨va,vc,rfl,-,-⟩:=h.rd.form;obtain⟨q,M⟩:=zX9 qs.length
 have D:=O M;have HP:=O h;have H8:=O h8;have HQ:=O hq;rw[M] at hq ⊢;clear h h8 M;go_in;go_wp2_with fail
 go_loopw [3,8] (fun a i wr=>∃(k m:Nat) (U:Option Addr) (V:Nat),k≤q/\i=.int .i64 (k:Int)/\a=.slice U m V/\Hid ((eW (qs.take k)).length=m)/\Hid (aA aB w wr)/\Hid (wr.ownsRow w.heap.size 82 2 (.slice U m V) m (aR (eW (qs.take k))))) (fun _ i _=>q-(intOf i).toNat)
 case atStart=>exact⟨0,0,none,0,by omega,rfl,rfl,O rfl,O (aA.refl _ _),O (World.ownsRow_nil _ _ _ _)⟩
 case round =>
  obtain⟨k,m,U,A,z,rfl,rfl,HM,W,I⟩:=hrel
  by_cases qc:k<q
  ·have J:(0:Int)≤(k:Int):=by omega
   have qt:(k:Int)<(q:Int):=by omega
   obtain⟨x,hx⟩:∃x,qs[k]?=some x:=⟨qs[k]'(by rw[D.out];exact qc),List.getElem?_eq_getElem (by rw[D.out];exact qc)⟩
   have P:=List.mem_of_getElem? hx;have hP:=HP.keep0 W.out;have L:=hP.at_ x P;obtain⟨g,o,cap,he,hr⟩:=I7 (f:=fun(x:Value×Pt)=>aF x.1 x.2) (s:=35) (fun y hy=>aJ (hP.at_ y hy).sum) (by decide) hP.rd hx;rw[D.out] at he;injection he with qn qo qp
   subst qn;obtain⟨⟨pv,p⟩,rfl⟩:∃y,y=x:=⟨_,rfl⟩
   have r:Hid (PtV wr pv p):=O L;have HX:=O hx;have Z:Hid (p.addrs.length≤20):=O (H8 _ P);have d:=aJ (v:=pv) L.sum;obtain⟨V,j⟩:=zX9 (aF pv p)
   have qk:Hid (∀u∈V,u.oneCell'=true):=O (by rw[←j];exact aN r.out);have ql:=O j;have N:wr.rangeAt g (o+k*35) (aF pv p):=hr;rw[j] at N d;have Q:=O N;have X:=lN wr;clear hx P hP L hr N j qo qp
   go_wp2_with ((with_reducible show WL _ _);first
    | refine wpList_load_mid rfl 27 (.tmp 10) rfl g (o+k*35) rfl V _ Q.out aG rfl (szP9 d) ?_
    | refine al 27 (.agg aH.toArray) (aH.toArray) bA ?_)
   intro b5 wb qa J F
   go_wp2_with ((with_reducible show WL _ _);refine sta 27 (.tmp 5) (.tmp 11) b5 0 V F (by first|decide|(rw[List.size_toArray,d];exact Nat.le_refl _)|simp[d,aE]) (szP9 d) qk.out ?_)
   intro wc z hb;rw[aI _ _ (by first|rfl|(rw[List.size_toArray,d];rfl)|simp[d,aE])] at hb;replace z:=tX J z (fun i hi e=>by omega);replace X:=lW X qa z hb;replace r:=O (r.keep z fun _ _=>id);replace Q:=O (z.rangeAt Q.out);replace I:=O (z.owns I.out fun _ _=>id);clear qa z hb J F;clear Q;obtain⟨qf,qg,qr,-,-⟩:=r.rd.form;subst qr;have H:=O (W.trans X.keep)
   have Y:Hid (m≤20000):=O (by
    have E:=Cp (qs:=qs.take k) fun y hy=>H8.out y (List.mem_of_mem_take hy)
    rw[HM.out,List.length_take] at E;have R:=HQ.out;omega)
   have G:Hid (m+p.addrs.length≤maxLen/\(m+p.addrs.length)*16≤140737488355328/\w.heap.size≤wc.heap.size):=O ⟨by have E:=Y.out;have R:=Z.out;unfold maxLen;omega,by have E:=Y.out;have R:=Z.out;omega,H.size⟩;have c1:wc.cell? ⟨b5,0,none⟩=some (.slice qf p.addrs.length qg):=(aD (i:=0) (X.b 0) (by rw[←ql.out];rfl))
   go_wp2_with (first
    | (at_builtin;refine aP rfl (.tmp 12) (.tmp 14) 23 rfl w.heap.size 82 (.agg #[.int .i64 0,.int .i64 0]) 2 16 underlying23 O0 rfl (by decide) (.slice U m A) m (aR (eW (qs.take k))) rfl I.out (.slice qf p.addrs.length qg) p.addrs.length (aR p.addrs) rfl r.rd (zM _) G.1 G.2.1 G.2.2 ?_))
   clear c1;intro v2 w8 K qb qq qm;obtain⟨qd,qe,rfl,-,-⟩:=(Rd.of_owns K).form;have qj:Hid ((eW (qs.take (k+1))).length=m+p.addrs.length):=O (by rw[Dm HX.out,List.length_append,HM.out]);have C:Hid (w8.ownsRow w.heap.size 82 2 (.slice qd (m+p.addrs.length) qe) (m+p.addrs.length) (aR (eW (qs.take (k+1))))):=O (by rw[Dm HX.out,nT];exact K);have qh:=O (H.tT qb fun i hi e=>by have E:=aU I.out e;omega);clear K qb qq qm I r W H X;go_wp2
   go_roundw
   case rel=>exact⟨k+1,m+p.addrs.length,qd,qe,by omega,by go_num,rfl,qj,qh,C⟩
   case measure=>simp[intOf];omega
  ·obtain rfl:k=q:=by omega
   have C:Hid (wr.ownsRow w.heap.size 82 2 (.slice U m A) (eW qs).length (aR (eW qs))):=O (by
    have E:=I.out;have R:=HM.out;rw[List.take_of_length_le (by rw[D.out];exact Nat.le_refl _)] at E R;rw[R];exact E)
   have qi:Hid ((eW qs).length≤65536):=O (by
    have E:=Cp H8.out;have R:=HQ.out;omega)
   clear I HM;go_wp2_with fail;refine(LM wr (.slice U m A) (eW qs) HP.ok (Rd.of_owns C.out) qi.out).mono ?_;rintro e w9 ⟨v9,rfl,ho,z⟩;have Q:Hid (jF w (dO (eW qs)) (.returned v9) w9):=O ⟨v9,rfl,aW ho W.size,W.trans z⟩;clear ho z C;go_wp2;go_ret;exact Q.out
def yH(qs:List (Value×Pt)):List Value:=qs.map fun x=>.int .i64 x.2.level
def G5(w:World)(qs:List (Value×Pt))(e:Ending)(w':World):Prop:=∃v,e=.returned v/\w'.ownsRow w.heap.size 3 1 v qs.length (yH qs)/\aA aB w w'
theorem I9(w:World)(v:Value)(qs:List (Value×Pt))(h:yG w v qs)(hq:qs.length≤1000):Calls prog 29 #[v] w (G5 w qs):=by
 obtain⟨va,vc,rfl,-,-⟩:=h.rd.form;obtain⟨q,E⟩:=zX9 qs.length
 have d:=O E;have HP:=O h;have HQ:=O hq;rw[E] at hq ⊢;clear h E;go_in;go_wp2_with fail
 go_loopw [3,4] (fun a i wr=>∃(k:Nat) (P:Option Addr) (pc:Nat),k≤q/\i=.int .i64 (k:Int)/\a=.slice P k pc/\Hid (aA aB w wr)/\Hid (wr.ownsRow w.heap.size 3 1 (.slice P k pc) k (yH (qs.take k)))) (fun _ i _=>q-(intOf i).toNat)
 case atStart=>exact⟨0,none,0,by omega,rfl,rfl,O (aA.refl _ _),O (World.ownsRow_nil _ _ _ _)⟩
 case round =>
  obtain⟨k,P,r,L,rfl,rfl,R,A⟩:=hrel
  by_cases N:k<q
  ·have qe:(0:Int)≤(k:Int):=by omega
   have qf:(k:Int)<(q:Int):=by omega
   obtain⟨x,hx⟩:∃x,qs[k]?=some x:=⟨qs[k]'(by rw[d.out];exact N),List.getElem?_eq_getElem (by rw[d.out];exact N)⟩
   have Y:=HP.keep0 R.out;obtain⟨g,o,cap,he,hr⟩:=I7 (f:=fun(x:Value×Pt)=>aF x.1 x.2) (s:=35) (fun y hy=>aJ (Y.at_ y hy).sum) (by decide) Y.rd hx;rw[d.out] at he;injection he with qa qb qc
   subst qa;have HX:=O hx;obtain⟨lv,C⟩:=zX9 x.2.level
   have Q:Hid (wr.cell? ⟨g,o+k*35+2,none⟩=some (.int .i64 lv)):=O (hr 2 _ (by rw[←C];rfl));have V:=O C;have G:=lN wr;clear hx Y hr qb qc C;have c1:wr.cell? ⟨g,o+k*35+2,none⟩=some (.int .i64 lv):=Q.out
   go_wp2_with ((with_reducible show WL _ _);refine bs1 42 3 (.tmp 16) (.int .i64 lv) (by kernel_rfl) (by kernel_rfl) underlying42 rfl ?_)
   clear c1;intro J wb K L hb;replace G:=lW G K L hb;replace A:=O (L.owns A.out fun _ _=>id);replace Q:=O (L.cell Q.out id);clear K L hb;have m:Rd wb 1 (.slice J 1 1) 1 [.int .i64 lv]:=eQ (n:=1) (size:=1) (G.b 0) rfl (by unfold maxLen;omega);have j:=O m;have I:=A;have z:=O G.keep;clear m
   go_wp2_with (first
    | (at_builtin;refine aP rfl (.tmp 11) (.tmp 17) 42 rfl w.heap.size 3 (.int .i64 0) 1 8 underlying42 EV rfl (by decide) (.slice P k r) k (yH (qs.take k)) rfl A.out (.slice J 1 1) 1 [.int .i64 lv] rfl j.out (by intro u hu;rcases List.mem_singleton.1 hu with rfl;rfl) (by unfold maxLen;omega) (by omega) (Nat.le_trans R.size z.size) ?_))
   intro v2 w8 D M qd Z;obtain⟨g2,c2,rfl⟩:=ownsRow_succ D;have H:=O D;have F:=O M;clear D M qd Z j G A Q;go_wp2_with fail
   have W:Hid (w8.ownsRow w.heap.size 3 1 (.slice g2 (k+1) c2) (k+1) (yH (qs.take (k+1)))):=O (by
    have e:yH (qs.take (k+1))=yH (qs.take k)++[.int .i64 lv]:=by
     unfold yH;rw[List.take_add_one,HX.out,List.map_append,←V.out];rfl
    rw[e];exact H.out)
   have U:=O (Ay R.out I.out z.out F.out);clear H F I z
   go_roundw
   case rel=>exact⟨k+1,some ⟨g2,0,none⟩,c2,by omega,by go_num,rfl,U,W⟩
   case measure=>simp[intOf];omega
  ·obtain rfl:k=q:=by omega
   have X:Hid (G5 w qs (.returned (.slice P k r)) wr):=O ⟨_,rfl,by have h1:=A.out;rw[List.take_of_length_le (by rw[d.out];exact Nat.le_refl _)] at h1;rw[d.out];exact h1,R.out⟩;clear A;go_wp2;go_ret;exact X.out
theorem Fw(o:S.Bd){b:List UInt8}(r:b≠zB){u:Tr}(h:S.leaf b=(some u,T)):∃p,u=.leaf p b/\p.birth=S.txg+1/\p.level=0/\p.addrs.length=S.cp:=by
 unfold Kor.leaf at h;rw[if_neg r] at h;cases e:S.put 0 b with
 | none=>rw[e] at h;injection h with d m;cases d
 | some x =>
   obtain⟨p,U⟩:=x;rw[e] at h;injection h with d m
   injection d with d
   obtain⟨f,i,j⟩:=Bz o e;exact⟨p,d.symm,i,j,f⟩
theorem Np(r:S.Bd){k:Nat->Tr}{u:Tr}(h:S.lay l k=(some u,T))(y:u≠.hole):∃p,u=.node p k/\p.birth=S.txg+1/\p.level=(l:Int)/\p.addrs.length=S.cp:=by
 unfold Kor.lay at h
 by_cases i:gM k=true
 ·rw[if_pos i] at h
  injection h with d f
  injection d with d
  exact absurd d.symm y
 ·rw[if_neg i] at h
  cases e:S.put l (cL l (eX k)) with
  | none=>rw[e] at h;injection h with d f;cases d
  | some x =>
    obtain⟨p,U⟩:=x;rw[e] at h;injection h with d f
    injection d with d
    obtain⟨j,m,o⟩:=Bz r e;exact⟨p,d.symm,m,o,j⟩
theorem oN(I:l≤2)(r:S.Bd){t:Tr}(y:Tr.Ok S (l+1) t){b:List UInt8}(i:b.length=256)(F:b≠zB){u:Tr}(h:eK (l+1) S t n b=(some u,T)) :
 ∃z A p,eK l S (t.kid (n / 4 ^ l % 4)) n b=(some z,A)/\u=.node p (eV t.kid (n / 4 ^ l % 4) z)/\p.birth=S.txg+1/\p.level=((l+1:Nat):Int)/\p.addrs.length=S.cp:=by
 have m:=(qP i n (by omega) r y h).2 u rfl
 have j:u≠.hole:=fun e=>by
  have f:=m.2.1 n;rw[if_pos rfl,e,Tr.blk_hole] at f;exact F f.symm
 unfold eK at h;cases x:eK l S (t.kid (n / 4 ^ l % 4)) n b with
 | mk G C =>
   rw[x] at h;cases G with
   | none=>injection h with f o;cases f
   | some H =>
     have d:=(qP i n (by omega) r (y.kid (cR n l)) x).1;obtain⟨p,f,o,D,E⟩:=Np d.bd h j;exact⟨H,C,p,rfl,f,by rw[o,d.txg],D,by rw[E,d.ext.cp]⟩
structure Nq(u1 u2:Tr):Prop where
 lv1:(eP 3 u1).map (·.level)=[3,2,1,0]
 len1:∀x∈eP 3 u1,x.addrs.length=2
 b1:bks (aZ 1) 3 u2 0=[6]
 s1:((thr (aZ 1) 3 u2 0).map (·.1)).map (·.level)=[3,2,1,0]
 s2:thr (aZ 2) 3 u2 0=[]
 b0:bks (aZ 0) 3 u2 0=[5,6]
 un:unl 3 u1 u2 0=[6]
 uh:unl 3 u1 .hole 0=[5]
theorem kY(h:p.birth≠q.birth):p.eqB q=false:=by
 cases e:p.eqB q with
 | false=>rfl
 | true=>exact absurd (congrArg Pt.birth (pP e)) h
theorem QG{j:Kor}(m:S.Bd)(e:j.Bd)(h:S.txg=0)(L:j.txg=1)(K:S.cp=2){b:List UInt8}(d:b.length=256)(f:b≠zB){r u2:Tr}{T1 T2:Kor}(h1:eK 3 S .hole 5 b=(some r,T1))(o:Tr.Ok j 3 r)(h2:eK 3 j r 6 b=(some u2,T2)):Nq r u2:=by
 obtain⟨a2,A2,p3,Z,rfl,J,g3,l3⟩:=oN (by omega) m (Tr.ok_hole S 3) d f h1;obtain⟨a1,A1,p2,Y,rfl,I,g2,l2⟩:=oN (by omega) m (Tr.ok_hole S 2) d f Z;obtain⟨a0,A0,p1,X,rfl,H,g1,N⟩:=oN (by omega) m (Tr.ok_hole S 1) d f Y;obtain⟨p0,rfl,G,g0,M⟩:=Fw m f X;obtain⟨c2,C2,q3,W,rfl,F,U,L3⟩:=oN (by omega) e o d f h2;obtain⟨c1,C1,q2,d2,rfl,E,R,L2⟩:=oN (by omega) e (o.kid (i:=0) (by omega)) d f W;obtain⟨c0,C0,q1,V,rfl,D,Q,L1⟩:=oN (by omega) e ((o.kid (i:=0) (by omega)).kid (i:=1) (by omega)) d f d2;obtain⟨q0,rfl,C,P,L0⟩:=Fw e f V;clear X Y Z V d2 W h1 h2 o;rw[h] at G H I J;rw[L] at C D E F;rw[K] at M N l2 l3;clear L0 L1 L2 L3;obtain⟨A3,B3,V3,X3⟩:=p3;obtain⟨A,B2,V2,X2⟩:=p2;obtain⟨z,B1,V1,X1⟩:=p1;obtain⟨y,B0,V0,X0⟩:=p0;obtain⟨a3,b3,v3,x3⟩:=q3;obtain⟨a2,b2,v2,x2⟩:=q2;obtain⟨a1,b1,v1,x1⟩:=q1;obtain⟨a0,b0,v0,x0⟩:=q0;simp only at G H I J C D E F g0 g1 g2 g3 P Q R U M N l2 l3;subst G H I J C D E F g0 g1 g2 g3 P Q R U;refine⟨rfl,?_,rfl,rfl,rfl,rfl,?_,?_⟩
 ·intro x h
  have h:x∈[(⟨A3,0+1,((2+1:Nat):Int),X3⟩:Pt),⟨A,0+1,((1+1:Nat):Int),X2⟩,⟨z,0+1,((0+1:Nat):Int),X1⟩,⟨y,0+1,0,X0⟩]:=h;simp only[List.mem_cons,List.not_mem_nil,or_false] at h;rcases h with rfl|rfl|rfl|rfl
  ·exact l3
  ·exact l2
  ·exact N
  ·exact M
 ·rw[eL,kY (by show (0+1:Int)≠1+1;decide),if_neg (by decide)]
  show unl 2 _ _ _++(unl 2 .hole .hole _++(unl 2 .hole .hole _++(unl 2 .hole .hole _++[])))=[6];simp only[mK,List.append_nil];rw[eL,kY (by show (0+1:Int)≠1+1;decide),if_neg (by decide)];show unl 1 .hole .hole _++(unl 1 _ _ _++(unl 1 .hole .hole _++(unl 1 .hole .hole _++[])))=[6];simp only[mK,List.nil_append,List.append_nil];rw[eL,kY (by show (0+1:Int)≠1+1;decide),if_neg (by decide)];show unl 0 .hole .hole _++(unl 0 (.leaf _ b) (.leaf _ b) _++(unl 0 .hole (.leaf _ b) _++(unl 0 .hole .hole _++[])))=[6];simp only[mK,List.nil_append,List.append_nil];rw[fV,kY (by show (0:Int)≠1+1;decide),if_neg (by decide)]
 ·rw[eL,kY (by show (0+1:Int)≠0;decide),if_neg (by decide)]
  show unl 2 _ .hole _++(unl 2 .hole .hole _++(unl 2 .hole .hole _++(unl 2 .hole .hole _++[])))=[5];simp only[mK,List.append_nil];rw[eL,kY (by show (0+1:Int)≠0;decide),if_neg (by decide)];show unl 1 .hole .hole _++(unl 1 _ .hole _++(unl 1 .hole .hole _++(unl 1 .hole .hole _++[])))=[5];simp only[mK,List.nil_append,List.append_nil];rw[eL,kY (by show (0+1:Int)≠0;decide),if_neg (by decide)];show unl 0 .hole .hole _++(unl 0 (.leaf _ b) .hole _++(unl 0 .hole .hole _++(unl 0 .hole .hole _++[])))=[5];simp only[mK,List.nil_append,List.append_nil];rw[fV,kY (by show (0+1:Int)≠0;decide),if_neg (by decide)]
theorem Fx{α:Type}[DecidableEq α]:∀{l m:List α},l.Nodup->(∀x∈l,x∈m)->l.length≤m.length
 | [],m,_,_=>Nat.zero_le _
 | x::l,m,o,d=>by
   obtain⟨i,j⟩:=List.nodup_cons.1 o;have f:=d x (List.mem_cons_self ..);have:=Fx (l:=l) (m:=m.erase x) j fun y h=>(List.mem_erase_of_ne fun e=>i (by rw[←e];exact h)).2 (d y (List.mem_cons_of_mem _ h))
   rw[List.length_erase_of_mem f] at this;have r:0<m.length:=List.length_pos_of_mem f;rw[List.length_cons];omega
theorem Gk{l:List Ad}(h:l.Nodup):(dO l).length=l.length:=
 Nat.le_antisymm (rX l) (Fx h fun x d=>jC.2 d)
theorem AL{t:Tr}(h:qs.map (·.2)=eP l t):eW qs=eT l t:=by
 unfold eW eT;rw[show (qs.flatMap fun x=>x.2.addrs)=(qs.map (·.2)).flatMap fun p=>p.addrs by rw[List.flatMap_map],h];unfold eP;rw[List.flatMap_map]
theorem Fy:∀{l:List Pt},(∀x∈l,x.addrs.length=2)->(l.flatMap fun p=>p.addrs).length=2*l.length
 | [],_=>rfl
 | x::l,h=>by
   have:=Fy fun y d=>h y (List.mem_cons_of_mem _ d)
   rw[List.flatMap_cons,List.length_append,this,h x (List.mem_cons_self ..),List.length_cons];omega
end
end Go.Proofs.YtiinnfhjpaeffaaGreat
