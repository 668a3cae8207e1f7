import Derived.Test.YtiinnfhjpaeffaaGreatU29
namespace Go.Proofs.YtiinnfhjpaeffaaGreat
open Tryz
set_option maxHeartbeats 0
set_option maxRecDepth 100000
set_option linter.unusedVariables false
section
open Go.RowKit Go.Maps Go.ChangeMaps
variable{w w' w2 w1:World}{c l g a b N0 b6 b7 b11 b4 b12 q6 q7 q11 q4 q12 k:Nat}{B T:Nat->Prop}{S:Kor}{x:Int}{v pv vk:Value}{p:Pt}{t:Tr}{fr:Nat×Nat}{ps qs:List (Value×Pt)}{f:Pt->Bool}{vs:Nat->Value}{e:Ending}{ns:List Nat}
theorem vO(w:World)(l:Nat)(h:l≤3):Calls prog 42 #[.int .i64 (l:Int)] w (aK w (.int .i64 ((4 ^ l:Nat):Int))):=by
 have d:=lN w;rcases l with _|_|_|_|l
 ·go_in
  go_wp2;go_ret;exact aK.of d.keep
 ·go_in
  go_wp2;go_ret;exact aK.of d.keep
 ·go_in
  go_wp2;go_ret;exact aK.of d.keep
 ·go_in
  go_wp2;go_ret;exact aK.of d.keep
 ·omega
theorem I3(pv:Value)(z:PtV w pv zPt)(l:Nat):Calls prog 41 #[.pointer c,.agg (aF pv zPt).toArray,.int .i64 ((l+1:Nat):Int)] w (eU w B l .hole):=by
 obtain⟨p,o⟩:=zX9 zPt
 have J:Hid (p.hole=true):=O (by rw[←o];exact jM);rw[o] at z ⊢;have d:=O z;obtain⟨I,r,G,K⟩:=nmPt z;rw[r.out];have j:(bU ((l+1:Nat):Int) (fun _=>.slice none 0 0) (fun _=>zPt)).length=141:=rfl;have n:=Cf ((l+1:Nat):Int);obtain⟨H,i⟩:=zX9 (bU ((l+1:Nat):Int) (fun _=>.slice none 0 0) (fun _=>zPt))
 have E:Hid (∀u∈H,u.oneCell'=true):=O (by rw[←i];exact cZ (w:=w) _ fun _ _=>vI w);have D:=O i;rw[i] at j n;have q:=O n;obtain⟨lv,y⟩:=zX9 (((l+1:Nat):Int))
 rw[y] at q ⊢;have h:=lN w;clear z i n o y;have s:=d;go_in
 go_wp2_with ((with_reducible show WL _ _);refine bxL h 27 (.tmp 1) (I.toArray) ?_)
 intro b4 w1 m h;replace d:=O (d.keep m fun _ _=>id);clear m
 go_wp2_with ((with_reducible show WL _ _);refine alL h 98 (.agg cQ.toArray) (cQ.toArray) iM ?_)
 intro b6 w2 m h;replace d:=O (d.keep m fun _ _=>id);clear m
 go_wp2_with ((with_reducible show WL _ _);refine wpList_load_mid rfl 27 (.tmp 4) rfl b4 0 rfl I _ (aC (h.b 1)) aG rfl (szP9 G) ?_)
 refine((by rw[←r.out];exact cE w2 pv p d.out:Ka w2 (aY w2 p.hole))).mono ?_;rintro e L ⟨rfl,m⟩;replace h:=kL h m;replace d:=O (d.keep m fun _ _=>id);clear m;rw[J.out]
 go_wp2_with ((with_reducible show WL _ _);first
  | refine bld 98 #[(0,.tmp 14)] [(0,.int .i64 lv)] (.agg H.toArray) q.out ?_
  | refine sta 98 (.tmp 6) (.tmp 15) b6 0 H (h.b 0) (by first|decide|(rw[j];exact Nat.le_refl _)|simp[j,bK]) (by rw[j];exact dA) E.out ?_)
 intro M m F;rw[aI _ _ (by first|rfl|simp[j,bK])] at F;replace h:=O (h.set 0 m F);replace d:=O (s.keep h.keep fun _ _=>id);clear m F;have A:=O (h.b 0);have C:=O h.keep;clear h d;go_wp2_with fail;refine bodyPost_ret (aT rfl _ _ b6 _ _ _ _ rfl A.out underlying98 rfl (by rw[List.size_toArray,j];exact dA)) rfl ?_;exact⟨fun _=>.slice none 0 0,(by rw[←D.out];rfl),bS.hole _ B,fun _ _=>dQ.nil w,C.out⟩
theorem I4(hK:KI w c S B)(pv:Value)(p:Pt)(hp:PtV w pv p)(l:Nat)(hl:l≤2)(k:Nat->Tr)(hg:gP S p (l+1) (cL (l+1) (eX k)))(I:∀i,i<4->Tr.Ok S l (k i)):Calls prog 41 #[.pointer c,.agg (aF pv p).toArray,.int .i64 ((l+1:Nat):Int)] w (eU w B l (.node p k)):=by
 have HH:Hid (p.hole=false):=O hg.ne_hole;have m:=O hp;have y:=O hK;have HG:=O hg;have K:=O I;have J:=O (fun i (e:B i)=>hK.lt e);obtain⟨pc,F,U,qh⟩:=nmPt hp;rw[F.out];have qc:Hid (cL (l+1) (eX k)=nb (l+1) (fun i=>(k i).ptr)):=O (Tr.Ok.nb_eq (l+1) I).symm;have qg:0≤((l+1:Nat):Int):=by omega
 have n:=lN w;clear hp hg I hK;go_in
 go_wp2_with ((with_reducible show WL _ _);refine bxL n 27 (.tmp 1) (pc.toArray) ?_)
 intro b4 w1 d n;replace m:=O (m.keep d fun _ _=>id);replace y:=O (y.keep0 d);clear d
 go_wp2_with ((with_reducible show WL _ _);refine alL n 98 (.agg cQ.toArray) (cQ.toArray) iM ?_)
 intro b6 w2 d n;replace m:=O (m.keep d fun _ _=>id);replace y:=O (y.keep0 d);clear d
 go_wp2_with ((with_reducible show WL _ _);refine wpList_load_mid rfl 27 (.tmp 4) rfl b4 0 rfl pc _ (aC (n.b 1)) aG rfl (szP9 U) ?_)
 refine((by rw[←F.out];exact cE w2 pv p m.out:Ka w2 (aY w2 p.hole))).mono ?_;rintro e w3 ⟨rfl,d⟩;replace n:=kL n d;replace m:=O (m.keep d fun _ _=>id);replace y:=O (y.keep0 d);clear d;rw[HH.out]
 go_wp2_with ((with_reducible show WL _ _);refine wpList_load_mid rfl 27 (.tmp 4) rfl b4 0 rfl pc _ (aC (n.b 1)) aG rfl (szP9 U) ?_)
 refine((by rw[←F.out];exact KI.get y.out m.out HG.out:Ka w3 (gJ w3 (cL (l+1) (eX k))))).mono ?_;rintro e w4 ⟨v1,rfl,X,d⟩;rw[qc.out] at X;obtain⟨va,vc,rfl,-,-⟩:=(Rd.of_owns X).form;have W:=O X;clear X;replace n:=kL n d;replace m:=O (m.keep d fun _ _=>id);replace y:=O (y.keep0 d);clear d;go_wp2_with fail;have P:=O n.keep.size;have qb:=O (n.lt 0).2;refine((zS w4 (.slice va 256 vc) (l+1) (fun i=>(k i).ptr) (by omega) (by omega) (fun i z=>(K i z).sl) (fun i z=>by have:=(K i z).fit;exact this) (Rd.of_owns W.out))).mono ?_;rintro e w5 ⟨vs,rfl,s,d⟩;have qd:=O (fun j (hj:j<4) i (z:(vs j).ownBlock=some i) (e:i=b6)=>by have h1:=((s j hj).2 i z).1;have h2:=qb.out;omega:∀j,j<4->∀i,(vs j).ownBlock=some i->¬i=b6);have L:=O (fun q (hq:q<4) i (z:(vs q).ownBlock=some i)=>by have:=((s q hq).2 i z).1;have:=P.out;omega:∀q,q<4->dQ w (vs q));have C:=O (s.nval (B:=B) (fun i e=>by have:=J.out i e;have:=P.out;omega));have o:=cX ((l+1:Nat):Int) vs s.nv;have D:=cZ ((l+1:Nat):Int) s.nv;obtain⟨V,r⟩:=zX9 (bU ((l+1:Nat):Int) vs (fun i=>(k i).ptr))
 have N:Hid (∀u∈V,u.oneCell'=true):=O (by rw[←r];exact D);have M:=O r;rw[r] at o ⊢;clear D r s;replace n:=kL n d;replace m:=O (m.keep d fun _ _=>id);replace y:=O (y.keep0 d);replace W:=O (d.owns W.out fun _ _=>id);clear d;have qa:=O n.keep;have A:=O (n.b 0);have Z:=O (n.lt 0);replace n:=O (Loc.nil aB aB w5);have qf:=C;have qe:=A;clear m y W
 go_wp2_with ((with_reducible show WL _ _);refine al 98 (.agg cQ.toArray) (cQ.toArray) iM ?_)
 intro G w6 Q R E
 go_wp2_with ((with_reducible show WL _ _);refine sta 98 (.tmp 10) (.tmp 29) G 0 V E (by first|decide|(rw[List.size_toArray,o];exact Nat.le_refl _)|simp[o,bK]) (by rw[o];exact dA) N.out ?_)
 intro w7 d H;rw[aI _ _ (by first|rfl|(rw[List.size_toArray,o];rfl)|simp[o,bK])] at H;replace d:=tX R d (fun i z e=>by omega);replace n:=lW n Q d H;replace C:=O (bS.keep0 C.out d);replace A:=O (d.blk A.out id);clear Q d H R E;have c1:w7.cell? ⟨G,0,none⟩=some (.int .i64 ((l+1:Nat):Int)):=aD (i:=0) (n.b 0) (by rw[←M.out];rfl)
 go_wp2_with ((with_reducible show WL _ _);first
  | refine wpList_load_mid rfl 98 (.tmp 10) rfl G 0 rfl V _ (aC (n.b 0)) underlying98 rfl (by rw[o];exact dA) ?_
  | refine sta 98 (.tmp 6) (.tmp 40) b6 0 V A.out (by rw[List.size_toArray,bK,o];omega) (by rw[o];exact dA) N.out ?_)
 clear c1;intro w9 d H;rw[aI _ _ (by rw[List.size_toArray,bK,o])] at H;have HP:Hid (eU w B l (.node p k) (.returned (.tuple #[.agg V.toArray,.int .i64 0])) w9):=O ⟨vs,by rw[←M.out];rfl,fun i z=>(C i z).keepT d (fun j hj e=>qd.out i z j hj e),L.out,(qa.trans n.keep).tT d (fun i z e=>by have:=Z.1;omega)⟩;have Y:=O H;clear H d n C A;go_wp2_with fail;refine bodyPost_ret (aT rfl _ _ b6 _ _ _ _ rfl Y.out underlying98 rfl (by rw[List.size_toArray,o];exact dA)) rfl ?_;exact HP.out
theorem sL(i:KI w c S B)(j:l≤2)(pv:Value)(t:Tr)(d:Tr.Ok S (l+1) t)(h:PtV w pv t.ptr):Calls prog 41 #[.pointer c,.agg (aF pv t.ptr).toArray,.int .i64 ((l+1:Nat):Int)] w (eU w B l t):=by
 cases t with
 | hole=>exact I3 pv h l
 | leaf p b=>exact d.elim
 | node p k=>exact I4 i pv p h l j k d.1 d.2.1
theorem xZ(w:World)(x:Int):Calls prog 35 #[.int .i64 x] w fun e w'=>∃g,e=.returned (.func (.func 68) #[] #[.pointer (some ⟨g,0,none⟩)])/\w'.heap[g]?=some (.cells #[.int .i64 x] 3 (0,0))/\w.heap.size≤g/\aA aB w w':=by
 go_in;have d:=lN w
 go_wp2_with ((with_reducible show WL _ _);refine bxL d 3 (.tmp 0) (#[.int .i64 x]) ?_)
 intro b1 w1 h d;clear h;go_wp2;go_ret;exact⟨b1,rfl,d.b 0,(d.lt 0).1,d.keep⟩
theorem lK(s:w.heap[g]?=some (.cells #[.int .i64 x] 3 (0,0)))(pv:Value)(p:Pt)(q:PtV w pv p):Calls prog 68 #[.agg (aF pv p).toArray,.pointer g] w (aY w (decide (x<p.birth))):=by
 have r:=aJ (v:=pv) q.sum;have j:=aN q;have n:(aF pv p).toArray[1]?=some (.int .i64 p.birth):=rfl;obtain⟨C,d⟩:=zX9 (aF pv p)
 obtain⟨A,h⟩:=zX9 p.birth
 rw[d] at r j n ⊢;rw[h] at n ⊢;have y:=O n;have o:=O s;clear d h j n s q;have m:=lN w;go_in
 go_wp2_with ((with_reducible show WL _ _);refine bxL m 27 (.tmp 0) (C.toArray) ?_)
 intro z w1 u m;replace o:=O (u.blk o.out id);clear u;have c1:w1.cell? ⟨z,1,none⟩=some (.int .i64 A):=aD (i:=1) (m.b 0) y.out;have c2:w1.cell? ⟨g,0,none⟩=some (.int .i64 x):=cell_of_one o.out;go_wp2;go_ret;exact⟨rfl,m.keep⟩
def dR(v:Value)(p:Pt)(a:Int):List Value:=aF v p++[.int .i64 a]
theorem kU{a:Int}(h:p.sum.length=32):(dR v p a).length=36:=by unfold dR;rw[List.length_append,aJ h];rfl
theorem kV{a:Int}(h:PtV w v p):∀u∈dR v p a,u.oneCell'=true:=by
 intro u d;rcases List.mem_append.1 d with d|d
 ·exact aN h u d
 ·rw[List.mem_singleton] at d
  subst d;rfl
theorem PO(v u:Value)(p:Pt)(a:Int):spl (dR v p a).toArray 0 [u]=(dR u p a).toArray:=rfl
theorem eY{a:Int}{t:TypeId}(h:w.heap[b]?=some (.cells (dR v p a).toArray t fr)):w.rangeAt b 0 (aF v p):=fun j u d =>
 aD h (by
  rw[List.getElem?_toArray,Nat.zero_add];unfold dR;rw[List.getElem?_append_left (List.getElem?_eq_some_iff.1 d).1];exact d)
def vP(w:World)(B:Nat->Prop)(p:Pt)(e:Ending)(w':World):Prop:=∃v,e=.returned (.tuple #[.agg (aF v p).toArray,.bool true])/\aX w' B v p/\dQ w v/\aA aB w w'
theorem Fb(hB:∀k,B k->k<w.heap.size)(pv:Value)(p:Pt)(H:PtV w pv p)(hl:p.addrs.length≤65536)(at_:Int):Calls prog 36 #[.agg (dR pv p at_).toArray] w (vP w B p):=by
 have N:=O hB;have qd:=O hl;have K:=O H.ads;have D:=O H.sum;have m:=O H;have Z:=kU (v:=pv) (a:=at_) H.sum;have A:=kV (a:=at_) H;obtain⟨pc,n⟩:=zX9 (dR pv p at_)
 have qi:Hid (∀u∈pc,u.oneCell'=true):=O (by rw[←n];exact A);have W:=O n;rw[n] at Z ⊢;clear A n;have qf:Hid (∃r,pc=pv::r):=O ⟨_,W.symm⟩;have j:=lN w;clear H hl hB;have qh:=m;go_in
 go_wp2_with ((with_reducible show WL _ _);refine bxL j 90 (.tmp 0) (pc.toArray) ?_)
 intro b1 w1 d j;replace m:=O (m.keep d fun _ _=>id);clear d
 go_wp2_with ((with_reducible show WL _ _);refine alL j 27 (.agg aH.toArray) (aH.toArray) bA ?_)
 intro b2 w2 d j;replace m:=O (m.keep d fun _ _=>id);clear d;have c1:w2.cell? ⟨b1,0,none⟩=some (pv):=(by obtain⟨r,e⟩:=qf.out;exact aD (i:=0) (j.b 1) (by rw[e];rfl))
 go_wp2_with fail;clear c1;have Y:=O j.keep.size;have X:=O (And.intro (j.lt 0).2 (j.lt 1).2);refine(lT w2 pv p.addrs m.rd qd.out).mono ?_;rintro e w3 ⟨v1,rfl,E,d⟩;obtain⟨I,J,rfl,-,-⟩:=(Rd.of_owns E).form;have F:Hid (aX w3 B (.slice I p.addrs.length J) p):=O ⟨⟨Rd.of_owns E,K.out,D.out⟩,fun i q=>⟨fun e=>by have:=aU E q;have:=N.out i e;have:=Y.out;omega,by obtain⟨cur,hc⟩:=aL E q;exact⟨_,_,hc⟩⟩⟩;have V:Hid (dQ w (.slice I p.addrs.length J)):=O (fun i q=>by have:=aU E q;have:=Y.out;omega);have R:=O (fun(i:Nat) (q:(Value.slice I p.addrs.length J).ownBlock=some i)=>show ¬i=b1/\¬i=b2 from⟨fun e=>by have:=aU E q;have:=X.2;omega,fun e=>by have:=aU E q;have:=X.1;omega⟩);have L:=O (d.blk (j.b 1) id);have M:=O (d.blk (j.b 0) id);have HG:=O (And.intro (j.lt 1).1 (j.lt 0).1);have Q:Hid (b1≠b2):=O (fun e=>bH (i:=0) j.nd rfl 1 (by decide) rfl e);have qb:=O (j.keep.trans d);clear E;clear d j m
 go_wp2_with ((with_reducible show WL _ _);refine sta 23 (.tmp 9) (.tmp 7) b1 0 [.slice I p.addrs.length J] L.out (by rw[List.size_toArray,Z];simp) (by kernel_rfl) (one9) ?_)
 intro w6 d G;rw[←W.out,PO] at G;have y:=O (eY G);have z:=O (d.blk M.out Q.symm);have C:=O (F.keepT d (fun i q=>(R i q).1));have P:=O (qb.tT d (fun i q e=>by have:=HG.1;omega));clear d G L M;have s:=aJ (v:=.slice I p.addrs.length J) D.out;obtain⟨qc,o⟩:=zX9 (aF (.slice I p.addrs.length J) p)
 have qe:Hid (∀u∈qc,u.oneCell'=true):=O (by rw[←o];exact aN F.pt);have qg:=O o;rw[o] at s y;clear o F
 go_wp2_with ((with_reducible show WL _ _);first
  | refine wpList_load_mid rfl 27 (.tmp 10) rfl b1 0 rfl qc _ y.out aG rfl (szP9 s) ?_
  | refine sta 27 (.tmp 2) (.tmp 11) b2 0 qc z.out (by rw[List.size_toArray,aE,s];omega) (szP9 s) qe.out ?_)
 intro w8 d G;rw[aI _ _ (by rw[List.size_toArray,aE,s])] at G;have HP:Hid (vP w B p (.returned (.tuple #[.agg qc.toArray,.bool true])) w8):=O ⟨_,by rw[←qg.out],C.keepT d (fun i q=>(R i q).2),V.out,P.tT d (fun i q e=>by have:=HG.2;omega)⟩;have qa:=O G;clear d G y z C P;go_wp2_with fail;refine bodyPost_ret (aT rfl _ _ b2 _ _ _ _ rfl qa.out aG rfl (by rw[List.size_toArray,s];exact cC)) rfl ?_;exact HP.out
theorem zW(N:KI w c S B)(pv:Value)(p:Pt)(D:PtV w pv p)(U:p.root=true)(Q:w.heap[g]?=some (.cells (aF pv p).toArray 27 (0,0))):Calls prog 39 #[.pointer c,.slice g 1 1] w (aK w (.int .i64 0)):=by
 have F:=O (by have:=N.bd.c1;omega:¬((S.cp:Nat):Int)=0);have J:=O N;have y:=O D;have V:=O U;have h:=aJ (v:=pv) D.sum;have q:=aN D;obtain⟨E,m⟩:=zX9 (aF pv p)
 have L:Hid (∀u∈E,u.oneCell'=true):=O (by rw[←m];exact q);have M:=O m;rw[m] at h Q;have G:=O Q;have z:=y;have H:=G;clear q m Q D U N;have n:=lN w;go_in;go_wp2_with fail;refine((KI.copies J.out:Ka w (aK w (.int .i64 (S.cp:Int))))).mono ?_;rintro e w1 ⟨rfl,j⟩;replace n:=kL n j;replace J:=O (KI.keep0 J.out j);replace y:=O (y.keep j fun _ _=>id);replace G:=O (j.blk G.out id);clear j;have s:=F.out;have X:decide (((S.cp:Nat):Int)=0)=false:=decide_eq_false s;have Y:(((S.cp:Nat):Int) == 0)=false:=by rw[beq_eq_false_iff_ne];exact s
 go_wp2_with fail
 go_loopw [13] (fun i wr=>∃k:Nat,k≤1/\i=.int .i64 (k:Int)/\Hid (aA aB w wr)) (fun i _=>1-(intOf i).toNat)
 case atStart=>exact⟨0,by omega,rfl,O n.keep⟩
 case round =>
 clear n;obtain⟨k,j,rfl,o⟩:=hrel
 by_cases W:k<1
 ·obtain rfl:k=0:=by omega
  have n:=lN wr;have d:=O (z.keep o.out fun _ _=>id);have I:=O (o.blk H.out id)
  go_wp2_with ((with_reducible show WL _ _);first
   | refine wpList_load_mid rfl 27 (.tmp 15) rfl g 0 rfl E _ (aC I.out) aG rfl (szP9 h) ?_
   | refine al 27 (.agg aH.toArray) (aH.toArray) bA ?_)
  intro b6 wl A C r
  go_wp2_with ((with_reducible show WL _ _);refine sta 27 (.tmp 6) (.tmp 16) b6 0 E r (by first|decide|(rw[List.size_toArray,h];exact Nat.le_refl _)|simp[h,aE]) (szP9 h) L.out ?_)
  intro R j P;rw[aI _ _ (by first|rfl|(rw[List.size_toArray,h];rfl)|simp[h,aE])] at P;replace j:=tX C j (fun i Z e=>by omega);replace n:=lW n A j P;replace d:=O (d.keep j fun _ _=>id);clear A j P C r
  go_wp2_with ((with_reducible show WL _ _);refine wpList_load_mid rfl 27 (.tmp 6) rfl b6 0 rfl E _ (aC (n.b 0)) aG rfl (szP9 h) ?_)
  refine((by rw[←M.out];exact tA R pv p d.out V.out:Ka R (aK R (.int .i64 0)))).mono ?_;rintro e wn ⟨rfl,j⟩;replace n:=kL n j;replace d:=O (d.keep j fun _ _=>id);clear j;have K:=O (o.trans n.keep);go_wp2
  go_roundw
  case rel=>exact⟨1,by omega,by go_num,K⟩
  case measure=>simp[intOf]
 ·obtain rfl:k=1:=by omega
  go_wp2;go_ret;exact⟨rfl,o.out⟩
abbrev nwV(g:Nat):Value:=.func (.func 68) #[] #[.pointer g]
abbrev owV:Value:=.func (.func 36) #[] #[]
abbrev dnV(b6 b7 b11 b4 b12:Nat):Value:=.func (.func 67) #[] #[.pointer b6,.pointer b7,.pointer b11,.pointer b4,.pointer b12]
structure Thr(B:Nat->Prop)(N0 c g:Nat)(x:Int)(b6 b7 b11 b4 b12:Nat)(w:World):Prop where
 cg:w.heap[g]?=some (.cells #[.int .i64 x] 3 (0,0))
 c6:w.heap[b6]?=some (.cells #[nwV g] 85 (0,0))
 c7:w.heap[b7]?=some (.cells #[owV] 87 (0,0))
 c4:w.heap[b4]?=some (.cells #[.pointer (some ⟨c,0,none⟩)] 39 (0,0))
 c12:w.heap[b12]?=some (.cells #[dnV b6 b7 b11 b4 b12] 132 (0,0))
 lt:∀i,i=g\/i=b6\/i=b7\/i=b4\/i=b12->i<N0/\i≠b11
 l11:b11<N0/\¬B b11
theorem Thr.keep(h:Thr B N0 c g x b6 b7 b11 b4 b12 w)(k:aA T w w')(j:∀i,T i->i=b11\/N0≤i):Thr B N0 c g x b6 b7 b11 b4 b12 w':=by
 have q:∀i,i=g\/i=b6\/i=b7\/i=b4\/i=b12->¬T i:=fun i m e=>by
  obtain⟨n,d⟩:=h.lt i m;exact(j i e).elim d fun o=>by omega
 exact⟨k.blk h.cg (q _ (.inl rfl)),k.blk h.c6 (q _ (.inr (.inl rfl))),k.blk h.c7 (q _ (.inr (.inr (.inl rfl)))),k.blk h.c4 (q _ (.inr (.inr (.inr (.inl rfl))))),k.blk h.c12 (q _ (.inr (.inr (.inr (.inr rfl))))),h.lt,h.l11⟩
structure kW(N0 b11:Nat)(w:World)(v:Value)(ps:List (Value×Pt)):Prop where
 cell:w.heap[b11]?=some (.cells #[v] 22 (0,0))
 row:w.ownsRow N0 27 35 v ps.length (ps.flatMap fun x=>aF x.1 x.2)
 at_:∀x∈ps,PtV w x.1 x.2/\∀i,x.1.ownBlock=some i->N0≤i/\v.ownBlock≠some i/\IsC w i
theorem kW.keep(h:kW N0 b11 w v ps)(k:aA T w w')(h11:¬T b11)(n:∀i,v.ownBlock=some i->¬T i)(m:∀x∈ps,∀i,x.1.ownBlock=some i->¬T i):kW N0 b11 w' v ps:=
 ⟨k.blk h.cell h11,k.owns h.row n,fun x d=>⟨(h.at_ x d).1.keep k (m x d),fun i j=>⟨((h.at_ x d).2 i j).1,((h.at_ x d).2 i j).2.1,IsC.keep ((h.at_ x d).2 i j).2.2 k (m x d i j)⟩⟩⟩
theorem kW.keep0(h:kW N0 b11 w v ps)(k:aA aB w w'):kW N0 b11 w' v ps:=h.keep k id (fun _ _=>id) fun _ _ _ _=>id
def rN(N0 b11:Nat)(x:Int)(l:Nat)(t:Tr)(a:Nat)(v:Value)(ps:List (Value×Pt))(w:World)(e:Ending)(w':World):Prop:=
 ∃d qs,e=.returned (.int .i64 0)/\kW N0 b11 w' d (ps++qs)/\qs.map (·.2)=(thr (aZ x) l t a).map (·.1)/\(∀i,d.ownBlock=some i->v.ownBlock=some i\/w.heap.size≤i)/\aA (fun i=>i=b11\/v.ownBlock=some i) w w'
theorem Nj(h:t.isHole=true\/decide (x<t.ptr.birth)=false):thr (aZ x) l t a=[]:=by
 have e:(t.isHole || !aZ x t.ptr)=true:=by
  rcases h with h|h
  ·rw[h];rfl
  ·show (t.isHole || !(decide (x<t.ptr.birth)))=true
   rw[h];simp
 cases l with
 | zero=>rw[fU,if_pos e]
 | succ l=>rw[fN,if_pos e]
theorem nH(U:KI w c S B)(W:Thr B N0 c g x q6 q7 q11 q4 q12 w)(V:kW N0 q11 w v ps)(pv:Value)(t:Tr)(l a:Nat)(X:Tr.Ok S l t)(C:aX w B pv t.ptr)(I:t.isHole=true\/decide (x<t.ptr.birth)=false):Calls prog 67 #[.agg (dR pv t.ptr (a:Int)).toArray,.int .i64 (l:Int),.pointer q6,.pointer q7,.pointer q11,.pointer q4,.pointer q12] w (rN N0 q11 x l t a v ps w):=by
 have r:=O W;have q:=O V;have R:=O U;have E:=O (Nj (a:=a) (l:=l) I);have F:=O X.hole_eq;obtain⟨p,P⟩:=zX9 t.ptr
 rw[P] at C I F ⊢;have d:=O C;have D:=aJ (v:=pv) C.pt.sum;have z:=aN C.pt;have N:=kU (v:=pv) (a:=(a:Int)) C.pt.sum;have y:=kV (a:=(a:Int)) C.pt;obtain⟨Q,n⟩:=zX9 (aF pv p)
 obtain⟨Y,m⟩:=zX9 (dR pv p (a:Int))
 have qa:Hid (∀u∈Q,u.oneCell'=true):=O (by rw[←n];exact z);have Z:Hid (∀u∈Y,u.oneCell'=true):=O (by rw[←m];exact y);have s:=O n;have G:=O m;rw[n] at D;rw[m] at N ⊢;have HS:=O I;clear z y n m C W V U X I;have o:=lN w;go_in
 go_wp2_with ((with_reducible show WL _ _);refine bxL o 90 (.tmp 0) (Y.toArray) ?_)
 intro b7 w1 j o;replace d:=pK d j;replace r:=O (r.keep j fun _ e=>e.elim);replace q:=O (q.keep0 j);clear j
 go_wp2_with ((with_reducible show WL _ _);refine wpList_load_mid rfl 27 (.tmp 15) rfl b7 0 rfl Q _ (by have h:=o.b 0;rw[←G.out] at h;rw[←s.out];exact eY h) aG rfl (szP9 D) ?_)
 refine((by rw[←s.out];exact cE w1 pv p d.pt:Ka w1 (aY w1 p.hole))).mono ?_;rintro e w2 ⟨rfl,j⟩;replace o:=kL o j;replace d:=pK d j;replace r:=O (r.keep j fun _ e=>e.elim);replace q:=O (q.keep0 j);clear j;obtain⟨M,A⟩:=zX9 p.hole
 rw[A];have J:=O A;clear A;cases M with
 | true =>
   have L:Hid (rN N0 q11 x l t a v ps w (.returned (.int .i64 0)) w2):=O ⟨v,[],rfl,by rw[List.append_nil];exact q.out,by rw[E.out];rfl,fun i h=>.inl h,o.keep.any⟩;clear o r q d R;go_wp2;go_ret;exact L.out
 | false =>
   have H:=HS.resolve_left (by rw[←F.out,J.out];decide);have K:=O H;clear H;have c1:w2.cell? ⟨q6,0,none⟩=some (nwV g):=(cell_of_one r.c6)
   go_wp2_with ((with_reducible show WL _ _);refine aM (by rfl) 27 (.tmp 20) rfl b7 0 rfl Q _ (by have h:=o.b 0;rw[←G.out] at h;rw[←s.out];exact eY h) aG rfl (szP9 D) ?_)
   clear c1;refine((by rw[←s.out];exact lK r.cg pv p d.pt:Ka w2 (aY w2 (decide (x<p.birth))))).mono ?_;rintro e w3 ⟨rfl,j⟩;replace o:=kL o j;replace d:=pK d j;replace r:=O (r.keep j fun _ e=>e.elim);replace q:=O (q.keep0 j);clear j;rw[K.out];have L:Hid (rN N0 q11 x l t a v ps w (.returned (.int .i64 0)) w3):=O ⟨v,[],rfl,by rw[List.append_nil];exact q.out,by rw[E.out];rfl,fun i h=>.inl h,o.keep.any⟩;clear o r q d R;go_wp2;go_ret;exact L.out
theorem yT:(prog.info? 90).map (·.size)=some 36:=by kernel_rfl
theorem kW.grow{y:World}{m r:Value}(h:kW N0 b11 w v ps)(h11:b11<N0)(G:PtV w m p)(q:∀i,m.ownBlock=some i->N0≤i/\v.ownBlock≠some i/\IsC w i)
 (C:w2.ownsRow N0 27 35 r (ps.length+1) ((ps.flatMap fun x=>aF x.1 x.2)++aF m p)) (k:aA (fun i=>v.ownBlock=some i) w w2) (o:r.ownBlock=v.ownBlock\/r.ownBlock=some w.heap.size) (u:aA (fun i=>i=b11) w2 y) (F:y.heap[b11]?=some (.cells #[r] 22 (0,0))):kW N0 b11 y r (ps++[(m,p)]):=by
 have n:∀x∈ps++[(m,p)],PtV w x.1 x.2/\∀i,x.1.ownBlock=some i->N0≤i/\v.ownBlock≠some i/\IsC w i:=fun x d=>by
  rcases List.mem_append.1 d with d|d
  ·exact h.at_ x d
  ·rw[List.mem_singleton] at d
   subst d;exact⟨G,q⟩
 refine⟨F,?_,fun x d=>?_⟩
 ·have e:((ps++[(m,p)]).flatMap fun x=>aF x.1 x.2)=(ps.flatMap fun x=>aF x.1 x.2)++aF m p:=by rw[List.flatMap_append];simp
  rw[e,List.length_append];exact u.owns C fun i j e=>by have:=aU C j;omega
 ·obtain⟨E,s⟩:=n x d
  refine⟨(E.keep k fun i j=>(s i j).2.1).keep u fun i j e=>by have:=(s i j).1;omega,fun i j=>?_⟩;obtain⟨D,z,A⟩:=s i j;refine⟨D,fun e=>?_,(A.keep k z).keep u fun e=>by omega⟩;rcases o with o|o
  ·exact z (o▸e)
  ·rw[o] at e
   injection e with e
   have:=A.lt;omega
theorem OW(d:t.isHole=false)(h:decide (x<t.ptr.birth)=true):thr (aZ x) 0 t a=[(t.ptr,a)]:=by
 rw[fU,d];exact if_neg (by show ¬(false || !(decide (x<t.ptr.birth)))=true;rw[h];decide)
theorem Fe(hK:KI w c S B)(hT:Thr B N0 c g x q6 q7 q11 q4 q12 w)(hO:kW N0 q11 w v ps)(hN:N0≤w.heap.size)(qm:ps.length≤1000)(pv:Value)(t:Tr)(a:Nat)(U:aX w B pv t.ptr)(X:t.ptr.addrs.length≤65536)(hh:t.isHole=false)(P:t.ptr.hole=false)(hn:decide (x<t.ptr.birth)=true):Calls prog 67 #[.agg (dR pv t.ptr (a:Int)).toArray,.int .i64 0,.pointer q6,.pointer q7,.pointer q11,.pointer q4,.pointer q12] w (rN N0 q11 x 0 t a v ps w):=by
 have r:=O hT;have o:=O hO;have qa:=O (fun i (e:B i)=>hK.lt e);have qc:=O hN;have qu:=O qm;have qn:=O (OW (a:=a) hh hn);obtain⟨p,W⟩:=zX9 t.ptr
 have qr:=O W;rw[W] at U P hn X ⊢;have j:=O U;have qo:=O P;have qq:=O hn;have qt:=O X;have V:=aJ (v:=pv) U.pt.sum;have J:=aN U.pt;have ql:=kU (v:=pv) (a:=(a:Int)) U.pt.sum;have I:=kV (a:=(a:Int)) U.pt;obtain⟨pc,A⟩:=zX9 (aF pv p)
 obtain⟨lc,z⟩:=zX9 (dR pv p (a:Int))
 have qy:Hid (∀u∈pc,u.oneCell'=true):=O (by rw[←A];exact J);have qx:Hid (∀u∈lc,u.oneCell'=true):=O (by rw[←z];exact I);have H:=O A;have N:=O z;rw[A] at V;rw[z] at ql ⊢;clear J I A z U hT hO hh P hn hN qm X W hK;have m:=lN w;go_in
 go_wp2_with ((with_reducible show WL _ _);refine bxL m 90 (.tmp 0) (lc.toArray) ?_)
 intro b7 w1 d m;replace j:=pK j d;replace r:=O (r.keep d fun _ e=>e.elim);replace o:=O (o.keep0 d);clear d
 go_wp2_with ((with_reducible show WL _ _);refine wpList_load_mid rfl 27 (.tmp 15) rfl b7 0 rfl pc _ (by have h:=m.b 0;rw[←N.out] at h;rw[←H.out];exact eY h) aG rfl (szP9 V) ?_)
 refine((by rw[←H.out];exact cE w1 pv p j.pt:Ka w1 (aY w1 p.hole))).mono ?_;rintro e w2 ⟨rfl,d⟩;replace m:=kL m d;replace j:=pK j d;replace r:=O (r.keep d fun _ e=>e.elim);replace o:=O (o.keep0 d);clear d;rw[qo.out];have c1:w2.cell? ⟨q6,0,none⟩=some (nwV g):=(cell_of_one r.c6)
 go_wp2_with ((with_reducible show WL _ _);refine aM (by rfl) 27 (.tmp 20) rfl b7 0 rfl pc _ (by have h:=m.b 0;rw[←N.out] at h;rw[←H.out];exact eY h) aG rfl (szP9 V) ?_)
 clear c1;refine((by rw[←H.out];exact lK r.cg pv p j.pt:Ka w2 (aY w2 (decide (x<p.birth))))).mono ?_;rintro e w3 ⟨rfl,d⟩;replace m:=kL m d;replace j:=pK j d;replace r:=O (r.keep d fun _ e=>e.elim);replace o:=O (o.keep0 d);clear d;rw[qq.out];have c1:w3.cell? ⟨q7,0,none⟩=some (owV):=(cell_of_one r.c7)
 go_wp2_with ((with_reducible show WL _ _);refine wpList_load_mid rfl 90 (.tmp 7) rfl b7 0 rfl lc _ (aC (m.b 0)) underlying90 rfl (by rw[ql];exact yT) ?_)
 clear c1;have qv:=O m.keep.size;refine((by rw[←N.out];exact Fb (B:=B) (fun k d=>Nat.lt_of_lt_of_le (qa k d) m.keep.size) pv p j.pt qt.out (a:Int):Ka w3 (vP w3 B p))).mono ?_;rintro e w4 ⟨v1,rfl,C,G,d⟩;have E:Hid (PtV w4 v1 p):=O C.pt;have q:Hid (∀i,v1.ownBlock=some i->N0≤i/\v.ownBlock≠some i/\IsC w4 i):=O (fun i s=>⟨by have h1:=G i s;have h2:=qc.out;have h3:=qv.out;omega,fun e=>by (obtain⟨cur,hc⟩:=aL o.row e;have h1:=lt_of_block hc;have h2:=G i s;omega),(C.off i s).2⟩);obtain⟨rc,qf,y,qe⟩:=nmPt C.pt;rw[qf.out];clear C G;replace m:=kL m d;replace j:=pK j d;replace r:=O (r.keep d fun _ e=>e.elim);replace o:=O (o.keep0 d);clear d
 go_wp2_with ((with_reducible show WL _ _);refine al 27 (.agg aH.toArray) (aH.toArray) bA ?_)
 intro qh w5 F qk L
 go_wp2_with ((with_reducible show WL _ _);refine sta 27 (.tmp 10) (.tmp 29) qh 0 rc L (by first|decide|(rw[List.size_toArray,y];exact Nat.le_refl _)|simp[y,aE]) (szP9 y) qe.out ?_)
 intro w6 d D;rw[aI _ _ (by first|rfl|(rw[List.size_toArray,y];rfl)|simp[y,aE])] at D;replace d:=tX qk d (fun i s e=>by omega);replace m:=lW m F d D;replace j:=pK j d;replace r:=O (r.keep d fun _ e=>e.elim);replace o:=O (o.keep0 d);replace E:=O (E.keep d fun _ _=>id);replace q:=O (fun i s=>And.intro (q i s).1 (And.intro (q i s).2.1 ((q i s).2.2.keep d id)));clear F d D qk L;have c1:w6.cell? ⟨q11,0,none⟩=some (v):=(cell_of_one o.cell)
 go_wp2_with ((with_reducible show WL _ _);first
  | refine wpList_load_mid rfl 27 (.tmp 10) rfl qh 0 rfl rc _ (aC (m.b 0)) aG rfl (szP9 y) ?_
  | refine bsA 22 27 (.tmp 33) underlying22 rO (by omega) rc y (by omega) ?_)
 clear c1;intro qi w7 F d D;have qg:Hid (Rd w7 35 (.slice qi 1 1) 1 rc):=O (eQ (n:=1) (size:=35) D (by rw[y]) (by unfold maxLen;omega));replace m:=lW m F d D;replace j:=pK j d;replace r:=O (r.keep d fun _ e=>e.elim);replace o:=O (o.keep0 d);replace E:=O (E.keep d fun _ _=>id);replace q:=O (fun i s=>And.intro (q i s).1 (And.intro (q i s).2.1 ((q i s).2.2.keep d id)));clear F d D;have qp:=O (show N0≤w7.heap.size from Nat.le_trans qc.out m.keep.size);have K:Hid (ps.length+1≤maxLen/\(ps.length+1)*72≤140737488355328):=O (by have:=qu.out;unfold maxLen;omega)
 go_wp2_with (at_builtin;refine aP rfl (.tmp 32) (.tmp 34) 22 rfl N0 27 (.agg aH.toArray) 35 72 underlying22 rO rfl (by decide) v ps.length (ps.flatMap fun x=>aF x.1 x.2) rfl o.row (.slice qi 1 1) 1 rc rfl qg.out qe.out K.1 K.2 qp.out ?_)
 intro v2 w8 R Q qw qj;obtain⟨g2,c2,rfl,-,-⟩:=(Rd.of_owns R).form;have Y:=O (Q.blk o.cell fun e=>by have h1:=aU o.row e;have h2:=r.l11.1;omega);have qd:=O R;have M:=O Q;have Z:=O qj;have qb:=O m.keep;clear R Q qw qj qg
 go_wp2_with ((with_reducible show WL _ (.store 22 _ _));refine sta 22 (.tmp 4) (.tmp 35) q11 0 [.slice g2 (ps.length+1) c2] Y.out (by simp) (by kernel_rfl) (by intro u hu;rw[List.mem_singleton] at hu;subst hu;rfl) ?_)
 intro w9 d D;replace D:w9.heap[q11]?=some (.cells #[.slice g2 (ps.length+1) c2] 22 (0,0)):=D
 have HP:Hid (rN N0 q11 x 0 t a v ps w (.returned (.int .i64 0)) w9):=O (by
  refine⟨_,[(v1,p)],rfl,o.grow r.l11.1 E.out q.out (by rw[qf.out];exact qd.out) M.out Z.out d D,by rw[qn.out,←qr.out];rfl,fun i s=>?_,?_⟩
  ·rcases Z.out with e|e
   ·exact .inl (e▸s)
   ·rw[e] at s
    injection s with s
    have:=qb.size;exact .inr (by omega)
  ·exact((qb.any.tT M.out (fun i _ e=>.inr e)).tT d (fun i _ e=>.inl e)))
 clear m o r j d D M qd Y;go_wp2;go_ret;exact HP.out
def PP(B:Nat->Prop)(S:Kor)(c N0 g q6 q7 q11 q4 q12:Nat)(x:Int)(l:Nat):Prop:=∀(w:World) (v:Value) (ps:List (Value×Pt)) (pv:Value) (t:Tr) (a:Nat),KI w c S B->Thr B N0 c g x q6 q7 q11 q4 q12 w->kW N0 q11 w v ps->N0≤w.heap.size->ps.length+(thr (aZ x) l t a).length≤1000->a+4 ^ l≤64->Tr.Ok S l t->aX w B pv t.ptr->(∀i,pv.ownBlock=some i->i≠q11/\v.ownBlock≠some i) ->
 Calls prog 67 #[.agg (dR pv t.ptr (a:Int)).toArray,.int .i64 (l:Int),.pointer q6,.pointer q7,.pointer q11,.pointer q4,.pointer q12] w (rN N0 q11 x l t a v ps w)
theorem Loc.onto{S:Nat->Prop}{i:World}{l:List (Nat×Array Value×TypeId)}(h:Loc aB B i w l)(k:aA S w w')(j:∀x∈l,¬S x.1):Loc S B i w' l:=
 ⟨h.keep.trans' k (fun _ _ e=>e.elim) (fun _ _ e=>e),h.ge,h.nd,fun x d=>k.blk (h.at_ x d) (j x d),h.ap⟩
theorem Ff(h:t.isHole=false)(d:f t.ptr=true):thr f (l+1) t a=(t.ptr,a)::(List.range 4).flatMap fun i=>thr f l (t.kid i) (a+i*4 ^ l):=by
 rw[fN,h,d];rfl
structure vR(w:World)(B:Nat->Prop)(S:Kor)(c N0 g q6 q7 q11 q4 q12:Nat)(x:Int)(b7 b12 l:Nat)(t:Tr)(a:Nat)(pv v:Value)(ps:List (Value×Pt))(vs:Nat->Value)(k:Nat)(wr:World)(vk:Value)(qs:List (Value×Pt)):Prop where
 ki:KI wr c S B
 th:Thr B N0 c g x q6 q7 q11 q4 q12 wr
 out:kW N0 q11 wr vk (ps++qs)
 eq:qs.map (·.2)=((t.ptr,a)::(List.range k).flatMap fun i=>thr (aZ x) l (t.kid i) (a+i*4 ^ l)).map (·.1)
 old:bS wr B vs (fun i=>(t.kid i).ptr)
 off:∀q,q<4->∀i,(vs q).ownBlock=some i->i≠q11/\vk.ownBlock≠some i
 h7:wr.heap[b7]?=some (.cells (dR pv t.ptr (a:Int)).toArray 90 (0,0))
 h12:wr.heap[b12]?=some (.cells (bU ((l+1:Nat):Int) vs (fun i=>(t.kid i).ptr)).toArray 98 (0,0))
 own:∀i,vk.ownBlock=some i->(v.ownBlock=some i\/w.heap.size≤i)/\i≠b7/\i≠b12
 ge:N0≤b7/\N0≤b12/\N0≤w.heap.size
 keep:aA (fun i=>i=q11\/v.ownBlock=some i) w wr
theorem vR.len{wr:World}
 (h:vR w B S c N0 g q6 q7 q11 q4 q12 x b7 b12 l t a pv v ps vs k wr vk qs) (o:k<4) (n:ps.length+(thr (aZ x) (l+1) t a).length≤1000) (m:t.isHole=false) (j:aZ x t.ptr=true):(ps++qs).length+(thr (aZ x) l (t.kid k) (a+k*4 ^ l)).length≤1000:=by
 have e:=congrArg List.length h.eq;rw[List.length_map,List.length_map,List.length_cons] at e;rw[Ff m j,List.length_cons] at n
 have d:((List.range (k+1)).flatMap fun i=>thr (aZ x) l (t.kid i) (a+i*4 ^ l)).length≤((List.range 4).flatMap fun i=>thr (aZ x) l (t.kid i) (a+i*4 ^ l)).length:=by
  have:∃r,(List.range 4)=List.range (k+1)++r:=by
   have:k=0\/k=1\/k=2\/k=3:=by omega
   rcases this with rfl|rfl|rfl|rfl<;>exact⟨_,rfl⟩
  obtain⟨r,e⟩:=this;rw[e,List.flatMap_append,List.length_append];omega
 rw[List.range_succ,List.flatMap_append,List.length_append] at d;simp only[List.flatMap_cons,List.flatMap_nil,List.append_nil] at d;rw[List.length_append];omega
theorem vR.step{wr:World}
 (h:vR w B S c N0 g q6 q7 q11 q4 q12 x b7 b12 l t a pv v ps vs k wr vk qs) (F:∀i,B i->i<N0) (s:aA aB wr w1) (I:rN N0 q11 x l (t.kid k) (a+k*4 ^ l) vk (ps++qs) w1 e w2):e=.returned (.int .i64 0)/\aA (fun i=>i=q11\/vk.ownBlock=some i) w1 w2/\∃y u,vR w B S c N0 g q6 q7 q11 q4 q12 x b7 b12 l t a pv v ps vs (k+1) w2 y u:=by
 obtain⟨y,K,G,J,m,D,C⟩:=I;have n:∀i,vk.ownBlock=some i->N0≤i:=fun i d=>aU h.out.row d
 have h11:=h.th.l11;have j:aA (fun i=>i=q11\/vk.ownBlock=some i) wr w2:=s.trans' C (fun _ _ h=>h.elim) (fun _ _ h=>h);have r:∀i,(∃q,q<4/\(vs q).ownBlock=some i)->i<wr.heap.size:=fun i ⟨q,m,d⟩=>((h.old q m).off i d).2.lt
 have E:=lt_of_block h.h7;have z:=lt_of_block h.h12;have H:=h.ge
 have o:∀q,q<4->∀i,(vs q).ownBlock=some i->¬(i=q11\/vk.ownBlock=some i):=fun q m i d e=>by
  have:=h.off q m i d;exact e.elim this.1 this.2
 refine⟨G,C,y,qs++K,h.ki.keepT j fun i d A=>?_,h.th.keep j fun i d=>d.imp id (n i),by rw[←List.append_assoc];exact J,?_,h.old.keepT j o,fun q m i d=>⟨(h.off q m i d).1,fun e=>?_⟩,j.blk h.h7 fun e=>?_,j.blk h.h12 fun e=>?_,fun i d=>?_,H,h.keep.tT j fun i d e=>?_⟩
 ·rcases d with rfl|d
  ·exact h11.2 A
  ·have:=n i d;have:=F i A;omega
 ·rw[List.map_append,h.eq,m,←List.map_append,List.range_succ,List.flatMap_append]
  simp only[List.flatMap_cons,List.flatMap_nil,List.append_nil,List.cons_append]
 ·rcases D i e with e|e
  ·exact(h.off q m i d).2 e
  ·have:=r i ⟨q,m,d⟩;have:=s.size;omega
 ·rcases e with e|e
  ·omega
  ·exact(h.own _ e).2.1 rfl
 ·rcases e with e|e
  ·omega
  ·exact(h.own _ e).2.2 rfl
 ·rcases D i d with e|e
  ·exact h.own i e
  ·have:=s.size;have:=h.keep.size
   exact⟨.inr (by omega),by omega,by omega⟩
 ·rcases e with e|e
  ·exact .inl e
  ·exact(h.own i e).1.elim .inr fun e=>absurd d (by omega)
theorem vR.fin{wr:World}
 (h:vR w B S c N0 g q6 q7 q11 q4 q12 x b7 b12 l t a pv v ps vs 4 wr vk qs) (j:t.isHole=false) (d:aZ x t.ptr=true) (k:aA aB wr w'):rN N0 q11 x (l+1) t a v ps w (.returned (.int .i64 0)) w':=
 ⟨vk,qs,rfl,h.out.keep0 k,by rw[Ff j d];exact h.eq,fun i m=>(h.own i m).1,h.keep.tT k (fun _ _ e=>e.elim)⟩
theorem I5{a:Int}{t:TypeId}(d:p.sum.length=32)(h:w.heap[b]?=some (.cells (dR v p a).toArray t fr)):w.cell? ⟨b,35,none⟩=some (.int .i64 a):=
 aD h (by
  rw[List.getElem?_toArray];unfold dR;rw[List.getElem?_append_right (by rw[aJ d];exact Nat.le_refl _),aJ d];rfl)
theorem Nk(f:Nat->Value)(a:Int):prog.built 90 [(0,.agg ((List.range 35).map f).toArray),(1,.int .i64 a)]=some ((List.range 35).map f++[Value.int .i64 a]).toArray:=by kernel_rfl
theorem yU(d:List Value)(h:d.length=35):d=(List.range 35).map fun i=>d.getD i undef:=by
 apply List.ext_getElem?;intro i;rw[List.getElem?_map]
 by_cases j:i<35
 ·rw[List.getElem?_range j,List.getElem?_eq_getElem (by omega)]
  simp[List.getD,List.getElem?_eq_getElem (show i<d.length by omega)]
 ·rw[List.getElem?_eq_none (by omega),List.getElem?_eq_none (by simp;omega)];rfl
theorem G4(v:Value)(p:Pt)(a:Int)(d:p.sum.length=32)(w:World):(Instr.build 90 #[(0,.agg (aF v p).toArray),(1,.int .i64 a)]).run prog w=.ok (.agg (dR v p a).toArray) w:=by
 refine run_build w 90 _ _ ?_;unfold dR;rw[yU (aF v p) (aJ d)];exact Nk _ _
theorem Fg(hK:KI w c S B)(x8:l≤2)(IH:PP B S c N0 g q6 q7 q11 q4 q12 x l)(hB:∀i,B i->i<N0)(hT:Thr B N0 c g x q6 q7 q11 q4 q12 w)(hO:kW N0 q11 w v ps)(hN:N0≤w.heap.size)(pv:Value)(t:Tr)(a:Nat)(xh:ps.length+(thr (aZ x) (l+1) t a).length≤1000)(ha:a+4 ^ (l+1)≤64)(ht:Tr.Ok S (l+1) t)(hp:aX w B pv t.ptr)(xg:∀i,pv.ownBlock=some i->i≠q11/\v.ownBlock≠some i)(zk:t.ptr.addrs.length≤65536)(hh:t.isHole=false)(hn:decide (x<t.ptr.birth)=true):Calls prog 67 #[.agg (dR pv t.ptr (a:Int)).toArray,.int .i64 ((l+1:Nat):Int),.pointer q6,.pointer q7,.pointer q11,.pointer q4,.pointer q12] w (rN N0 q11 x (l+1) t a v ps w):=by
 have zf:t.ptr.hole=false:=by rw[ht.hole_eq,hh]
 have xm:=O IH;have zp:=O hB;have z3:=O ht;have zy:=O xh;have HA:=O ha;have zx:=O xg;have qn:Hid (t.isHole=false/\aZ x t.ptr=true):=O ⟨hh,hn⟩;have qz:ps.length≤1000:=by omega
 have s:=O hT;have D:=O hO;have zo:=O (fun i (e:B i)=>hK.lt e);have M:=O hN;have xz:=O qz;have j:=O hK;have qy:Hid (∀i,v.ownBlock=some i->i<w.heap.size):=O fun i y=>by (obtain⟨cur,hc⟩:=aL hO.row y;exact lt_of_block hc)
 obtain⟨p,zj⟩:=zX9 t.ptr
 have qi:=O zj;rw[zj] at hp zf hn zk ⊢;have o:=O hp;have xl:=O zf;have xt:=O hn;have xy:=O zk;have x2:=O hp.pt.sum;have qp:=aJ (v:=pv) hp.pt.sum;have qv:=aN hp.pt;have xd:=kU (v:=pv) (a:=(a:Int)) hp.pt.sum;have qu:=kV (a:=(a:Int)) hp.pt;obtain⟨pc,U⟩:=zX9 (aF pv p)
 obtain⟨lc,Q⟩:=zX9 (dR pv p (a:Int))
 have vg:Hid (∀u∈pc,u.oneCell'=true):=O (by rw[←U];exact qv);have vf:Hid (∀u∈lc,u.oneCell'=true):=O (by rw[←Q];exact qu);have Y:=O U;have qh:=O Q;rw[U] at qp;rw[Q] at xd ⊢;have vo:(0:Int)≤((l+1:Nat):Int):=by omega
 have vp:(((l:Int)+1) == 0)=false:=by rw[beq_eq_false_iff_ne];omega
 clear qv qu U Q hp hT hO hh zf hn hN xh zk zj hK IH hB ht ha xg qz;have m:=lN w;go_in
 go_wp2_with ((with_reducible show WL _ _);refine bxL m 90 (.tmp 0) (lc.toArray) ?_)
 intro b7 w1 d m;replace o:=pK o d;replace s:=O (s.keep d fun _ e=>e.elim);replace D:=O (D.keep0 d);replace j:=O (KI.keep0 j.out d);clear d
 go_wp2_with ((with_reducible show WL _ _);refine wpList_load_mid rfl 27 (.tmp 15) rfl b7 0 rfl pc _ (by have h:=m.b 0;rw[←qh.out] at h;rw[←Y.out];exact eY h) aG rfl (szP9 qp) ?_)
 refine((by rw[←Y.out];exact cE w1 pv p o.pt:Ka w1 (aY w1 p.hole))).mono ?_;rintro e w2 ⟨rfl,d⟩;replace m:=kL m d;replace o:=pK o d;replace s:=O (s.keep d fun _ e=>e.elim);replace D:=O (D.keep0 d);replace j:=O (KI.keep0 j.out d);clear d;rw[xl.out];have c1:w2.cell? ⟨q6,0,none⟩=some (nwV g):=(cell_of_one s.c6)
 go_wp2_with ((with_reducible show WL _ _);refine aM (by rfl) 27 (.tmp 20) rfl b7 0 rfl pc _ (by have h:=m.b 0;rw[←qh.out] at h;rw[←Y.out];exact eY h) aG rfl (szP9 qp) ?_)
 clear c1;refine((by rw[←Y.out];exact lK s.cg pv p o.pt:Ka w2 (aY w2 (decide (x<p.birth))))).mono ?_;rintro e w3 ⟨rfl,d⟩;replace m:=kL m d;replace o:=pK o d;replace s:=O (s.keep d fun _ e=>e.elim);replace D:=O (D.keep0 d);replace j:=O (KI.keep0 j.out d);clear d;rw[xt.out];have c1:w3.cell? ⟨q7,0,none⟩=some (owV):=(cell_of_one s.c7)
 go_wp2_with ((with_reducible show WL _ _);refine wpList_load_mid rfl 90 (.tmp 7) rfl b7 0 rfl lc _ (aC (m.b 0)) underlying90 rfl (by rw[xd];exact yT) ?_)
 clear c1;have x4:=O m.keep.size;refine((by rw[←qh.out];exact Fb (B:=B) (fun k d=>Nat.lt_of_lt_of_le (zo k d) m.keep.size) pv p o.pt xy.out (a:Int):Ka w3 (vP w3 B p))).mono ?_;rintro e w4 ⟨v1,rfl,V,qm,d⟩;have qa:Hid (PtV w4 v1 p):=O V.pt;have C:Hid (∀i,v1.ownBlock=some i->N0≤i/\v.ownBlock≠some i/\IsC w4 i):=O (fun i y=>⟨by have F:=qm i y;have h2:=M.out;have h3:=x4.out;omega,fun e=>by (obtain⟨cur,hc⟩:=aL D.row e;have F:=lt_of_block hc;have h2:=qm i y;omega),(V.off i y).2⟩);obtain⟨rc,z1,J,zw⟩:=nmPt V.pt;rw[z1.out];clear V qm;replace m:=kL m d;replace o:=pK o d;replace s:=O (s.keep d fun _ e=>e.elim);replace D:=O (D.keep0 d);replace j:=O (KI.keep0 j.out d);clear d
 go_wp2_with ((with_reducible show WL _ _);refine al 27 (.agg aH.toArray) (aH.toArray) bA ?_)
 intro z9 w5 E qd G
 go_wp2_with ((with_reducible show WL _ _);refine sta 27 (.tmp 10) (.tmp 29) z9 0 rc G (by first|decide|(rw[List.size_toArray,J];exact Nat.le_refl _)|simp[J,aE]) (szP9 J) zw.out ?_)
 intro w6 d L;rw[aI _ _ (by first|rfl|(rw[List.size_toArray,J];rfl)|simp[J,aE])] at L;replace d:=tX qd d (fun i y e=>by omega);replace m:=lW m E d L;replace o:=pK o d;replace s:=O (s.keep d fun _ e=>e.elim);replace D:=O (D.keep0 d);replace j:=O (KI.keep0 j.out d);replace qa:=O (qa.keep d fun _ _=>id);replace C:=O (fun i y=>And.intro (C i y).1 (And.intro (C i y).2.1 ((C i y).2.2.keep d id)));clear E d L qd G;have c1:w6.cell? ⟨q11,0,none⟩=some (v):=(cell_of_one D.cell)
 go_wp2_with ((with_reducible show WL _ _);first
  | refine wpList_load_mid rfl 27 (.tmp 10) rfl z9 0 rfl rc _ (aC (m.b 0)) aG rfl (szP9 J) ?_
  | refine bsA 22 27 (.tmp 33) underlying22 rO (by omega) rc J (by omega) ?_)
 clear c1;intro xa w7 E d L;have z2:Hid (Rd w7 35 (.slice xa 1 1) 1 rc):=O (eQ (n:=1) (size:=35) L (by rw[J]) (by unfold maxLen;omega));replace m:=lW m E d L;replace o:=pK o d;replace s:=O (s.keep d fun _ e=>e.elim);replace D:=O (D.keep0 d);replace j:=O (KI.keep0 j.out d);replace qa:=O (qa.keep d fun _ _=>id);replace C:=O (fun i y=>And.intro (C i y).1 (And.intro (C i y).2.1 ((C i y).2.2.keep d id)));clear E d L;have xo:=O (show N0≤w7.heap.size from Nat.le_trans M.out m.keep.size);have qx:Hid (ps.length+1≤maxLen/\(ps.length+1)*72≤140737488355328):=O (by have:=xz.out;unfold maxLen;omega)
 go_wp2_with (at_builtin;refine aP rfl (.tmp 32) (.tmp 34) 22 rfl N0 27 (.agg aH.toArray) 35 72 underlying22 rO rfl (by decide) v ps.length (ps.flatMap fun x=>aF x.1 x.2) rfl D.row (.slice xa 1 1) 1 rc rfl z2.out zw.out qx.1 qx.2 xo.out ?_)
 intro v2 w8 zi zg x9 xc;obtain⟨g2,c2,rfl,-,-⟩:=(Rd.of_owns zi).form;have zm:=O (zg.blk D.cell fun e=>by have F:=aU D.row e;have h2:=s.l11.1;omega);have zu:=O zi;have q3:=O zg;have q0:=O xc;have xn:=O m.keep;have zn:=O (m.lt 2);have zv:=O (fun i (y:v.ownBlock=some i)=>(aU D.row y:N0≤i));clear zi zg x9 xc z2
 go_wp2_with ((with_reducible show WL _ (.store 22 _ _));refine sta 22 (.tmp 4) (.tmp 35) q11 0 [.slice g2 (ps.length+1) c2] zm.out (by simp) (by kernel_rfl) (by intro u hu;rw[List.mem_singleton] at hu;subst hu;rfl) ?_)
 intro w9 d L;replace L:w9.heap[q11]?=some (.cells #[.slice g2 (ps.length+1) c2] 22 (0,0)):=L;have qe:aA (fun i=>i=q11\/v.ownBlock=some i) w7 w9:=q3.trans' d (fun i _ e=>.inr e) (fun i _ e=>.inl e);have K:Hid (kW N0 q11 w9 (.slice g2 (ps.length+1) c2) (ps++[(v1,p)])):=O (D.grow s.l11.1 qa.out C.out (by rw[z1.out];exact zu.out) q3.out q0.out d L)
 have va:∀i,w.heap.size≤i->¬(i=q11\/v.ownBlock=some i):=fun i y e=>by
  rcases e with rfl|e
  ·have F:=s.l11.1;have h2:=M.out;omega
  ·have F:=qy.out i e;omega
 replace m:=O (m.onto qe (fun z hz=>va _ (m.ge z hz)));replace s:=O (s.keep qe fun i e=>e.imp id (zv i));replace j:=O (j.keepT qe fun i e xb=>e.elim (fun e=>s.l11.2 (e▸xb)) fun e=>by (have F:=zv.out i e;have h2:=zp.out i xb;omega));replace o:=O (o.keepT qe fun i y e=>e.elim (zx i y).1 (zx i y).2)
 have z6:Hid (∀i,(Value.slice g2 (ps.length+1) c2).ownBlock=some i->v.ownBlock=some i\/i=w7.heap.size):=O (fun i y=>by
  rcases q0.out with e|e
  ·exact .inl (e▸y)
  ·rw[e] at y;injection y with y;exact .inr y.symm)
 have x1:=O (And.intro xn.size (And.intro qe.size (m.lt 2)));obtain⟨v2,xj⟩:=zX9 (Value.slice g2 (ps.length+1) c2)
 rw[xj] at K z6;clear qe d L q3 zu zm D qa C q0 xj;have c1:w9.cell? ⟨q4,0,none⟩=some (.pointer c):=(cell_of_one s.c4)
 go_wp2_with ((with_reducible show WL _ _);refine wpList_load_mid rfl 27 (.tmp 40) rfl b7 0 rfl pc _ (by have h:=m.b 2;rw[←qh.out] at h;rw[←Y.out];exact eY h) aG rfl (szP9 qp) ?_)
 clear c1;have xp:=O m.keep.size;have zz:Hid (∀i,v2.ownBlock=some i->i<w9.heap.size):=O fun i y=>by (obtain⟨cur,hc⟩:=aL K.row y;exact lt_of_block hc)
 refine((by rw[←Y.out,←qi.out];exact sL j.out x8 pv t z3.out (by rw[qi.out];exact o.pt):Ka w9 (eU w9 B l t))).mono ?_;rintro e w8 ⟨vs,rfl,qq,ql,d⟩;have N:=O qq;have x6:=O d.size;have xv:Hid (∀q,q<4->∀i,(vs q).ownBlock=some i->i≠q11/\v2.ownBlock≠some i):=O (fun q hq i y=>⟨fun e=>by (have F:=ql q hq i y;have h2:=xp.out;have h3:=s.l11.1;have h4:=M.out;omega),fun e=>by (have F:=ql q hq i y;have h2:=zz.out i e;omega)⟩);have qf:=cX ((l+1:Nat):Int) vs qq.nv;have qt:=cZ ((l+1:Nat):Int) qq.nv;obtain⟨nn,R⟩:=zX9 (bU ((l+1:Nat):Int) vs (fun i=>(t.kid i).ptr))
 have xx:Hid (∀u∈nn,u.oneCell'=true):=O (by rw[←R];exact qt);have xu:=O R;rw[R] at qf ⊢;clear qt R qq ql;replace m:=kL m d;replace o:=pK o d;replace s:=O (s.keep d fun _ e=>e.elim);replace K:=O (K.keep0 d);replace j:=O (KI.keep0 j.out d);clear d
 go_wp2_with ((with_reducible show WL _ _);refine al 98 (.agg cQ.toArray) (cQ.toArray) iM ?_)
 intro b12 w9 E qd G
 go_wp2_with ((with_reducible show WL _ _);refine sta 98 (.tmp 12) (.tmp 44) b12 0 nn G (by first|decide|(rw[List.size_toArray,qf];exact Nat.le_refl _)|simp[qf,bK]) (by rw[qf];exact dA) xx.out ?_)
 intro wa d L;rw[aI _ _ (by first|rfl|(rw[List.size_toArray,qf];rfl)|simp[qf,bK])] at L;replace d:=tX qd d (fun i y e=>by omega);have q5:=O (show w8.heap.size≤b12 from Nat.le_of_eq E);replace m:=lW m E d L;replace o:=pK o d;replace s:=O (s.keep d fun _ e=>e.elim);replace K:=O (K.keep0 d);replace j:=O (KI.keep0 j.out d);replace N:=O (bS.keep0 N.out d);clear E d L qd G;go_wp2_with fail
 have x3:Hid (∃vk qs,vR w B S c N0 g q6 q7 q11 q4 q12 x b7 b12 l t a pv v ps vs 0 wa vk qs):=O ⟨v2,[(v1,p)],j.out,s.out,K.out,by rw[qi.out];rfl,N.out,xv.out,by (have h:=m.b 3;rw[←qh.out] at h;rw[qi.out];exact h),by (have h:=m.b 0;rw[←xu.out] at h;exact h),fun i y=>by
  have h7:=zn.out;have hs:=x1.out;have h12:=m.lt 0;have hq:=zz.out i y;have vc:=q5.out;have vq:=x6.out;rcases z6.out i y with e|e
  ·have F:=qy.out i e
   exact⟨.inl e,by omega,by omega⟩
  ·exact⟨.inr (by omega),by omega,by omega⟩,⟨by have F:=(m.lt 3).1;have h2:=M.out;omega,by have F:=(m.lt 0).1;have h2:=M.out;omega,M.out⟩,m.keep⟩
 clear m j o s K N
 go_loopw [13,14] (fun e i wr=>∃k:Nat,k≤4/\e=.int .i64 0/\i=.int .i64 (k:Int)/\Hid (∃vk qs,vR w B S c N0 g q6 q7 q11 q4 q12 x b7 b12 l t a pv v ps vs k wr vk qs)) (fun _ i _=>4-(intOf i).toNat)
 case atStart=>exact⟨0,by omega,rfl,rfl,x3⟩
 case round =>
  obtain⟨k,d,rfl,rfl,q1⟩:=hrel;obtain⟨vk,qs,r⟩:=q1.out
  by_cases qj:k<4
  ·have qd:(0:Int)≤(k:Int):=by omega
   have vn:(k:Int)<4:=by omega
   have j:=O r.ki;have s:=O r.th;have K:=O r.out;have A:=O (r.old k qj);have zq:=O r;have xi:=aJ (v:=vs k) A.pt.sum;have qw:=aN A.pt;have za:=mI r.old.nv (aC r.h12) qj;obtain⟨qc,I⟩:=zX9 (aF (vs k) ((t.kid k).ptr))
   have vh:Hid (∀u∈qc,u.oneCell'=true):=O (by rw[←I];exact qw);have vi:=O I;rw[I] at xi za;have HX:=O za;have X:=O (I5 (by rw[qi.out];exact x2.out) r.h7);obtain⟨W,hW⟩:∃W:Nat,4 ^ l=W:=⟨_,rfl⟩
   have vd:W≤16/\1≤W:=by
    have:l=0\/l=1\/l=2:=by omega
    rcases this with rfl|rfl|rfl<;>omega
   have HW:=O hW;obtain⟨kw,qk⟩:∃q:Nat,k*W=q:=⟨_,rfl⟩
   have x7:kw+W≤4*W:=by rw[←qk];have F:=Nat.mul_le_mul_right W (show k+1≤4 by omega);rw[Nat.succ_mul] at F;exact F
   have ve:(k:Int)*(W:Int)=(kw:Int):=by rw[←qk];push_cast;rfl
   have vm:a+4*W≤64:=by have F:=HA.out;rw[Nat.pow_succ,hW] at F;omega
   obtain⟨ak,zd⟩:=zX9 (a+kw)
   have zs:Hid (a+k*4 ^ l=ak):=O (by rw[hW,qk,zd]);have vj:(a:Int)+(kw:Int)=(ak:Int):=by omega
   have qo:Hid ((∀i,(vs k).ownBlock=some i->i≠q11/\vk.ownBlock≠some i)/\(ps++qs).length+(thr (aZ x) l (t.kid k) ak).length≤1000/\ak+4 ^ l≤64/\N0≤wr.heap.size):=O ⟨r.off k qj,by rw[←zd,←qk,←hW];exact r.len qj zy.out qn.1 qn.2,by rw[hW];omega,by have F:=r.ge;have h2:=r.keep.size;omega⟩;have x5:=O (z3.kid qj);have m:=lN wr
   have qg:Hid (¬(b12=q11\/vk.ownBlock=some b12)/\¬(b7=q11\/vk.ownBlock=some b7)/\¬(q12=q11\/vk.ownBlock=some q12)):=O (by
    have F:=r.ge;have h2:=r.th.l11.1;have h3:=r.th.lt q12 (.inr (.inr (.inr (.inr rfl))));refine⟨fun e=>e.elim (fun e=>by omega) fun e=>(r.own _ e).2.2 rfl,fun e=>e.elim (fun e=>by omega) fun e=>(r.own _ e).2.1 rfl,fun e=>e.elim (fun e=>by omega) fun e=>?_⟩;have h4:=aU r.out.row e;omega)
   have ze:=G4 (vs k) (t.kid k).ptr (ak:Int) A.pt.sum;obtain⟨mc,zh⟩:=zX9 (dR (vs k) (t.kid k).ptr (ak:Int))
   have xr:=O zh;rw[zh,I] at ze;have xk:=O ze;clear I qw za r q1 hW qk zh ze zd;go_wp2_with fail;refine dwA (fun i=>i=q11\/vk.ownBlock=some i) (by kernel_rfl) ?_;intro wc S Z q9 P H;replace m:=kL m H;replace j:=O (KI.keep0 j.out H);replace s:=O (s.keep H fun _ e=>e.elim);replace K:=O (K.keep0 H);replace HX:=O (H.rangeAt HX.out);replace A:=pK A H;replace X:=O (H.cell X.out id);clear H;have xq:=m;have zr:=j;have z5:=s;have x0:=K;have z7:=HX;have z0:=A;have qr:=X;refine tnd 0 (dnV q6 q7 q11 q4 q12) rfl (.inl ⟨by rfl,fun w' zl=>by have c:World.cell? w' ⟨q12,0,none⟩=some (dnV q6 q7 q11 q4 q12):=(Z w' zl).cell (cell_of_one z5.c12) qg.2.2;go_simp⟩) P ?_;refine tna 1 (.int .i64 (k:Int)) rfl P ?_;refine tnb 2 (.pointer (some ⟨b12,1,none⟩)) rfl P ?_;refine tnd 3 (.pointer (some ⟨b12,1+k*35,none⟩)) rfl (.inl ⟨by rfl,fun _ _=>by go_simp<;>omega⟩) P ?_;refine tnd 4 (.agg qc.toArray) rfl (yieldsIf_load_mid (by rfl) 27 (.tmp 57) rfl b12 (1+k*35) rfl qc _ (fun w' h=>(Z w' h).rangeAt2 z7.out qg.1) aG rfl (szP9 xi)) P ?_;refine tnb 5 (.pointer (some ⟨b7,35,none⟩)) rfl P ?_;refine tnd 6 (.int .i64 (a:Int)) rfl (.inl ⟨by rfl,fun w' zl=>by have c:World.cell? w' ⟨b7,35,none⟩=some (.int .i64 (a:Int)):=(Z w' zl).cell qr.out qg.2.1;go_simp⟩) P ?_;refine tna 7 (.int .i64 (k:Int)) rfl P ?_;refine tna 8 (.int .i64 ((l+1:Nat):Int)) rfl P ?_;refine tnd 9 (.int .i64 (l:Int)) rfl (.inl ⟨by rfl,fun _ _=>by go_simp;exact IntWalk.i64_in _ (by omega)⟩) P ?_;refine tna 14 (.int .i64 ((l+1:Nat):Int)) rfl P ?_;refine tnd 15 (.int .i64 (l:Int)) rfl (.inl ⟨by rfl,fun _ _=>by go_simp;exact IntWalk.i64_in _ (by omega)⟩) P ?_;refine wA9 10 ?_;go_wp2_with fail;refine((by rw[←HW.out];exact vO wc l (by omega):Ka wc (aK wc (.int .i64 (W:Int))))).mono ?_;rintro e wd ⟨rfl,d⟩;have qb:=q9.out _ ((Z _ P).trans d.any);replace m:=kL m d;replace j:=O (KI.keep0 j.out d);replace s:=O (s.keep d fun _ e=>e.elim);replace K:=O (K.keep0 d);replace HX:=O (d.rangeAt HX.out);replace A:=pK A d;replace X:=O (d.cell X.out id);clear P d;go_wp2_with fail;refine⟨qb,?_⟩;refine tnd 11 (.int .i64 (kw:Int)) rfl (.inl ⟨by rfl,fun _ _=>by go_simp;exact IntWalk.i64_in _ (by omega)⟩) qb ?_;refine tnd 12 (.int .i64 (ak:Int)) rfl (.inl ⟨by rfl,fun _ _=>by go_simp;exact IntWalk.i64_in _ (by omega)⟩) qb ?_;refine tnd 13 (.agg mc.toArray) rfl (fI 90 #[(0,.tmp 58),(1,.tmp 66)] [(0,.agg qc.toArray),(1,.int .i64 (ak:Int))] (.agg mc.toArray) xk.out) qb ?_;refine wA9 16 ?_;go_wp2_with fail;have zt:Hid (aA aB wr wd):=O m.keep;refine((by rw[←xr.out];exact xm.out wd vk (ps++qs) (vs k) (t.kid k) ak j.out s.out K.out (Nat.le_trans qo.2.2.2 m.keep.size) qo.2.1 qo.2.2.1 x5.out A.out qo.1:Ka wd (rN N0 q11 x l (t.kid k) ak vk (ps++qs) wd))).mono ?_;rintro e we hm;obtain⟨he,xe,xf⟩:=zq.step zp.out zt.out (by rw[zs.out];exact hm);subst he;have xw:=O xf;have zb:=q9.out _ ((Z _ qb).trans xe);clear qb xe hm xf m j s HX A K X zt;go_wp2_with fail;refine⟨zb,?_⟩;refine tna 17 (.int .i64 0) rfl zb ?_;refine wpAnyH_done (by kernel_rfl) ?_ _;clear zb Z q9 xq zr z5 x0 z7 z0 qr;clear zq;go_wp2
   go_roundw
   case rel=>exact⟨k+1,by omega,rfl,by go_num,xw⟩
   case measure=>simp[intOf];omega
  ·obtain rfl:k=4:=by omega
   have HP:=O (r.fin qn.1 qn.2 (aA.refl aB wr));clear r q1;go_wp2;go_ret;exact HP.out
theorem PS:Hid (∀w,(zeroValue 132).run prog w=.ok .nilFunc w):=O fun w=>by kernel_rfl
theorem Qr:Hid (∀w,(zeroValue 22).run prog w=.ok (.slice none 0 0) w):=O fun w=>by kernel_rfl
theorem Lb(f:Nat->Value):prog.built 90 [(0,.agg ((List.range 35).map f).toArray)]=some ((List.range 35).map f++[Value.int .i64 0]).toArray:=by kernel_rfl
theorem Fl(v:Value)(p:Pt)(d:p.sum.length=32)(w:World):(Instr.build 90 #[(0,.agg (aF v p).toArray)]).run prog w=.ok (.agg (dR v p 0).toArray) w:=by
 refine run_build w 90 _ _ ?_;unfold dR;rw[yU (aF v p) (aJ d)];exact Lb _
theorem Tr.Ok.few(h:Tr.Ok S l t):t.ptr.addrs.length≤65536:=by
 have:=(iL h.pmay).1;omega
theorem Nm(z:∀i,B i->i<N0):∀l,l≤3->PP B S c N0 g q6 q7 q11 q4 q12 x l:=by
 intro l
 induction l with
 | zero =>
   intro A w v ps pv t a h m j u s y d n r;cases o:t.isHole with
   | true=>exact nH h m j pv t 0 a d n (.inl o)
   | false =>
     cases q:decide (x<t.ptr.birth) with
     | false=>exact nH h m j pv t 0 a d n (.inr q)
     | true=>exact Fe h m j u (by omega) pv t a n d.few o (by rw[d.hole_eq,o]) q
 | succ l C =>
   intro A w v ps pv t a h m j u s y d n r;cases o:t.isHole with
   | true=>exact nH h m j pv t (l+1) a d n (.inl o)
   | false =>
     cases q:decide (x<t.ptr.birth) with
     | false=>exact nH h m j pv t (l+1) a d n (.inr q)
     | true=>exact Fg h (by omega) (C (by omega)) z m j u pv t a s y d n r d.few o q
def fW(w:World)(ps:List Pt)(e:Ending)(w':World):Prop:=
 ∃(v:Value) (qs:List (Value×Pt)),e=.returned (.tuple #[v,.int .i64 0])/\qs.map (·.2)=ps/\w'.ownsRow w.heap.size 27 35 v ps.length (qs.flatMap fun x=>aF x.1 x.2)/\(∀x∈qs,PtV w' x.1 x.2/\∀i,x.1.ownBlock=some i->w.heap.size≤i/\v.ownBlock≠some i/\IsC w' i)/\aA aB w w'
theorem zX(hK:KI w c S B)(hg:w.heap[g]?=some (.cells #[.int .i64 x] 3 (0,0)))(pv:Value)(t:Tr)(ht:Tr.Ok S 3 t)(L:aX w B pv t.ptr)(hm:(thr (aZ x) 3 t 0).length≤1000):Calls prog 34 #[.pointer c,.agg (aF pv t.ptr).toArray,nwV g,owV] w (fW w ((thr (aZ x) 3 t 0).map (·.1))):=by
 have qj:=O ht;have HM:=O hm;have m:=O hK;have s:=O (fun i (e:B i)=>hK.lt e);have q:=O hg;have J:=O (lt_of_block hg);obtain⟨p,F⟩:=zX9 t.ptr
 have W:=O F;rw[F] at L ⊢;have o:=O L;have qi:Hid (p.root=true):=O (by rw[←F];exact ht.root);have E:=aJ (v:=pv) L.pt.sum;have H:=aN L.pt;have D:=Fl pv p L.pt.sum;obtain⟨P,r⟩:=zX9 (aF pv p)
 obtain⟨lc,A⟩:=zX9 (dR pv p 0)
 have ql:Hid (∀u∈P,u.oneCell'=true):=O (by rw[←r];exact H);have qh:=O r;have qg:=O A;rw[r] at E D ⊢;rw[A] at D;have qf:=O D;have X:=O (fun i z=>(L.off i z).2.lt);clear H r A L ht hK F hg hm D;have d:=lN w;go_in
 go_wp2_with ((with_reducible show WL _ _);refine bxL d 39 (.tmp 0) (#[.pointer c]) ?_)
 intro b4 w1 j d;replace o:=pK o j;replace m:=O (KI.keep0 m.out j);replace q:=O (j.blk q.out id);clear j
 go_wp2_with ((with_reducible show WL _ _);refine bxL d 27 (.tmp 1) (P.toArray) ?_)
 intro b5 w2 j d;replace o:=pK o j;replace m:=O (KI.keep0 m.out j);replace q:=O (j.blk q.out id);clear j
 go_wp2_with ((with_reducible show WL _ _);refine bxL d 85 (.tmp 2) (#[nwV g]) ?_)
 intro b6 w3 j d;replace o:=pK o j;replace m:=O (KI.keep0 m.out j);replace q:=O (j.blk q.out id);clear j
 go_wp2_with ((with_reducible show WL _ _);refine bxL d 87 (.tmp 3) (#[owV]) ?_)
 intro b7 w4 j d;replace o:=pK o j;replace m:=O (KI.keep0 m.out j);replace q:=O (j.blk q.out id);clear j;have c1:w4.cell? ⟨b4,0,none⟩=some (.pointer c):=(aD (i:=0) (d.b 3) rfl)
 go_wp2_with ((with_reducible show WL _ _);first
  | refine wpList_load_mid rfl 27 (.tmp 5) rfl b5 0 rfl P _ (aC (d.b 2)) aG rfl (szP9 E) ?_
  | refine bsA 22 27 (.tmp 15) underlying22 rO (by omega) P E (by omega) ?_)
 clear c1;intro qm w5 qd j C;replace d:=lW d qd j C;replace o:=pK o j;replace m:=O (KI.keep0 m.out j);replace q:=O (j.blk q.out id);clear qd j C;go_wp2_with fail;refine((zW m.out pv p o.pt qi.out (by rw[qh.out];exact d.b 0):Ka w5 (aK w5 (.int .i64 0)))).mono ?_;rintro e w6 ⟨rfl,j⟩;replace d:=kL d j;replace o:=pK o j;replace m:=O (KI.keep0 m.out j);replace q:=O (j.blk q.out id);clear j
 go_wp2_with ((with_reducible show WL _ _);refine alL d 22 (.slice none 0 0) (#[.slice none 0 0]) Qr ?_)
 intro b11 w7 j d;replace o:=pK o j;replace m:=O (KI.keep0 m.out j);replace q:=O (j.blk q.out id);clear j
 go_wp2_with ((with_reducible show WL _ _);refine alL d 132 (.nilFunc) (#[.nilFunc]) PS ?_)
 intro b12 w8 j d;replace o:=pK o j;replace m:=O (KI.keep0 m.out j);replace q:=O (j.blk q.out id);clear j
 go_wp2_with ((with_reducible show WL _ _);refine sta 132 (.tmp 12) (.tmp 21) b12 0 ([dnV b6 b7 b11 b4 b12]) (d.b 0) (by simp) (by kernel_rfl) (one9) ?_)
 intro G j C;replace C:G.heap[b12]?=some (.cells #[dnV b6 b7 b11 b4 b12] 132 (0,0)):=C;replace d:=O (d.set 0 j C);replace o:=O (o.keepT j fun i z e=>by have I:=X.out i z;have M:=(d.lt 0).1;omega);replace m:=O (m.keepT j fun i e C=>by have I:=s.out i C;have M:=(d.lt 0).1;omega);replace q:=O (j.blk q.out fun e=>by have I:=J.out;have M:=(d.lt 0).1;omega);clear j C;obtain⟨N0,qb⟩:=zX9 G.heap.size
 have qk:g<G.heap.size:=Nat.lt_of_lt_of_le J.out d.keep.size;have qa:∀i,B i->i<N0:=fun i e=>by have I:=s.out i e;have M:=d.keep.size;omega
 have qc:Thr B N0 c g x b6 b7 b11 b4 b12 G:=⟨q.out,d.b 4,d.b 3,d.b 6,d.b 0,fun i z=>by
  have g6:=d.lt 4;have g7:=d.lt 3;have g4:=d.lt 6;have qn:=d.lt 0;have Z:=d.lt 1;have gg:=J.out;have n6:b11≠b6:=bH d.nd (i:=4) rfl 1 (by decide) rfl;have n7:b11≠b7:=bH d.nd (i:=3) rfl 1 (by decide) rfl;have n4:b11≠b4:=bH d.nd (i:=6) rfl 1 (by decide) rfl;have qp:b11≠b12:=bH d.nd (i:=0) rfl 1 (by decide) rfl;rcases z with rfl|rfl|rfl|rfl|rfl<;>omega,⟨by have Z:=d.lt 1;omega,fun e=>by have I:=s.out _ e;have Z:=d.lt 1;omega⟩⟩
 have V:Hid (kW N0 b11 G (.slice none 0 0) []):=O ⟨d.b 1,World.ownsRow_nil _ _ _ _,fun x hx=>by cases hx⟩;have HT:=O qc;have qe:=O qa;have K:=O qb;have Y:Hid (∀i,pv.ownBlock=some i->i≠b11/\(Value.slice none 0 0).ownBlock≠some i):=O (fun i z=>⟨fun e=>by have I:=X.out i z;have M:=(d.lt 1).1;omega,fun e=>by cases e⟩);clear qk qa qc qb;have R:=O d.keep.size;have c1:G.cell? ⟨b12,0,none⟩=some (dnV b6 b7 b11 b4 b12):=(aD (i:=0) (d.b 0) rfl)
 go_wp2_with ((with_reducible show WL _ _);first
  | refine wpList_load_mid rfl 27 (.tmp 5) rfl b5 0 rfl P _ (aC (d.b 5)) aG rfl (szP9 E) ?_
  | refine bld 90 #[(0,.tmp 23)] [(0,.agg P.toArray)] (.agg lc.toArray) qf.out ?_)
 clear c1;have U:Hid (w.heap.size≤N0):=O (by have I:=K.out;have M:=R.out;omega);refine((by rw[←qg.out,←W.out];exact Nm qe.out 3 (by omega) G (.slice none 0 0) [] pv t 0 m.out HT.out V.out (by have I:=K.out;have M:=d.keep.size;omega) (by rw[List.length_nil,Nat.zero_add];exact HM.out) (by decide) qj.out (by rw[W.out];exact o.out) Y.out:Ka G (rN N0 b11 x 3 t 0 (.slice none 0 0) [] G))).mono ?_;rintro e wa ⟨v,qs,rfl,N,hq,-,j⟩;have Q:=O (cell_of_one N.cell)
 have HP:Hid (fW w ((thr (aZ x) 3 t 0).map (·.1)) (.returned (.tuple #[v,.int .i64 0])) wa):=O (by
  have qo:=d.keep.size;have hn:=K.out;have hr:=N.row;rw[List.nil_append] at hr;refine⟨v,qs,rfl,hq,?_,fun y hy=>⟨(N.at_ y hy).1,fun i z=>⟨?_,((N.at_ y hy).2 i z).2⟩⟩,d.keep.tT j (fun i z e=>?_)⟩
  ·rw[←hq,List.length_map]
   exact aW hr U.out
  ·exact Nat.le_trans U.out ((N.at_ y hy).2 i z).1
  ·rcases e with e|e
   ·have I:=(d.lt 1).1;omega
   ·cases e)
 clear d HT V m o N hq j;have c1:wa.cell? ⟨b11,0,none⟩=some (v):=Q.out;go_wp2_with fail;clear c1
 go_ret2
 exact HP.out
theorem yV(h:Tr.Ok S 3 t):(thr (aZ x) 3 t 0).length≤1000:=by
 have q:∀{l:Nat}{t:Tr}{a:Nat},(thr (aZ x) l t a).length≤2*4 ^ l-1:=by
  intro l
  induction l with
  | zero=>intro t a;rw[fU];split<;>simp
  | succ l d =>
    intro t a;rw[fN];split
    ·simp
    ·have h0:=d (t:=t.kid 0) (a:=a+0*4 ^ l);have i:=d (t:=t.kid 1) (a:=a+1*4 ^ l);have j:=d (t:=t.kid 2) (a:=a+2*4 ^ l);have m:=d (t:=t.kid 3) (a:=a+3*4 ^ l)
     rw[List.length_cons,show List.range 4=[0,1,2,3] from rfl];simp only[List.flatMap_cons,List.flatMap_nil,List.append_nil,List.length_append];have n:0<4 ^ l:=Nat.pos_of_ne_zero (by simp);rw[Nat.pow_succ];omega
 have:=q (l:=3) (t:=t) (a:=0);omega
theorem yE(V:KI w c S B)(pv:Value)(t:Tr)(Q:Tr.Ok S 3 t)(K:aX w B pv t.ptr):Calls prog 15 #[.pointer c,.agg (aF pv t.ptr).toArray] w (fW w (eP 3 t)):=by
 have I:=O Q;have L:Hid ((thr (aZ 0) 3 t 0).map (·.1)=eP 3 t):=O (by rw[vT Q];rfl);have d:=O V;obtain⟨p,A⟩:=zX9 t.ptr
 have G:=O A;rw[A] at K ⊢;have j:=O K;obtain⟨U,F,N,Z⟩:=nmPt K.pt;rw[F.out];clear K Q V A;have o:=lN w;go_in
 go_wp2_with ((with_reducible show WL _ _);refine bxL o 27 (.tmp 1) (U.toArray) ?_)
 intro b3 w1 n o;replace j:=pK j n;replace d:=O (KI.keep0 d.out n);clear n;go_wp2_with fail;refine dwA aB (by kernel_rfl) ?_;intro w2 S q u J s;replace o:=kL o s;replace j:=pK j s;replace d:=O (KI.keep0 d.out s);clear s;have E:=o;have H:=j;have D:=d;refine tna 0 (.pointer c) rfl J ?_;refine tnd 1 (.agg U.toArray) rfl (yieldsIf_load_mid (by rfl) 27 (.tmp 3) rfl b3 0 rfl U _ (fun w' h=>aC ((q w' h).blk (E.b 0) id)) aG rfl (szP9 N)) J ?_;refine wA9 2 ?_;go_wp2_with fail;refine((xZ w2 0)).mono ?_;rintro e Y ⟨g,rfl,W,-,n⟩;have C:=O W;clear W;have z:=u.out _ ((q _ J).trans n);replace o:=kL o n;replace j:=pK j n;replace d:=O (KI.keep0 d.out n);clear J n;go_wp2_with fail;refine⟨z,?_⟩;refine wA9 3 ?_;go_wp2_with fail;refine((by rw[←F.out,←G.out];exact zX d.out C.out pv t I.out (by rw[G.out];exact j.out) (yV I.out):Ka Y (fW Y ((thr (aZ 0) 3 t 0).map (·.1))))).mono ?_;rintro e w4 ⟨v,qs,rfl,P,M,r,n⟩
 have HP:Hid (fW w (eP 3 t) (.returned (.tuple #[v,.int .i64 0])) w4):=O (by
  rw[L.out] at P M;exact⟨v,qs,rfl,P,aW M o.keep.size,fun y R=>⟨(r y R).1,fun i X=>⟨Nat.le_trans o.keep.size ((r y R).2 i X).1,((r y R).2 i X).2⟩⟩,o.keep.trans n⟩)
 have m:=u.out _ ((q _ z).trans n);clear z n P M r o d j C;go_wp2_with fail;refine⟨m,?_⟩;refine tnb 4 v rfl m ?_;refine tnb 5 (.int .i64 0) rfl m ?_;refine tna 6 v rfl m ?_;refine tna 7 (.int .i64 0) rfl m ?_;refine wpAnyH_done (by kernel_rfl) ?_ _;clear m q u E H D;go_wp2
 go_ret2
 exact HP.out
abbrev bkV:Value:=.func (.func 38) #[] #[]
abbrev dbV(b6 b7 b11 b4 b12:Nat):Value:=.func (.func 69) #[] #[.pointer b6,.pointer b7,.pointer b11,.pointer b4,.pointer b12]
def bks(f:Pt->Bool):Nat->Tr->Nat->List Nat
 | 0,t,a=>if t.isHole || !f t.ptr then [] else [a]
 | l+1,t,a=>if t.isHole || !f t.ptr then [] else (List.range 4).flatMap fun i=>bks f l (t.kid i) (a+i*4 ^ l)
theorem AH(f:Pt->Bool)(t:Tr)(a:Nat):bks f 0 t a=if t.isHole || !f t.ptr then [] else [a]:=rfl
theorem AI(f:Pt->Bool)(l:Nat)(t:Tr)(a:Nat):bks f (l+1) t a=if t.isHole || !f t.ptr then [] else (List.range 4).flatMap fun i=>bks f l (t.kid i) (a+i*4 ^ l):=rfl
theorem Nn(h:t.isHole=true\/decide (x<t.ptr.birth)=false):bks (aZ x) l t a=[]:=by
 have e:(t.isHole || !aZ x t.ptr)=true:=by
  rcases h with h|h
  ·rw[h];rfl
  ·show (t.isHole || !(decide (x<t.ptr.birth)))=true
   rw[h];simp
 cases l with
 | zero=>rw[AH,if_pos e]
 | succ l=>rw[AI,if_pos e]
theorem OX(d:t.isHole=false)(h:decide (x<t.ptr.birth)=true):bks (aZ x) 0 t a=[a]:=by
 rw[AH,d];exact if_neg (by show ¬(false || !(decide (x<t.ptr.birth)))=true;rw[h];decide)
theorem Fm(h:t.isHole=false)(d:f t.ptr=true):bks f (l+1) t a=(List.range 4).flatMap fun i=>bks f l (t.kid i) (a+i*4 ^ l):=by
 rw[AI,h,d];rfl
def jN(ns:List Nat):List Value:=ns.map fun(i:Nat)=>Value.int .i64 (i:Int)
structure ThB(B:Nat->Prop)(N0 c g:Nat)(x:Int)(b6 b7 b11 b4 b12:Nat)(w:World):Prop where
 cg:w.heap[g]?=some (.cells #[.int .i64 x] 3 (0,0))
 c6:w.heap[b6]?=some (.cells #[nwV g] 85 (0,0))
 c7:w.heap[b7]?=some (.cells #[bkV] 91 (0,0))
 c4:w.heap[b4]?=some (.cells #[.pointer (some ⟨c,0,none⟩)] 39 (0,0))
 c12:w.heap[b12]?=some (.cells #[dbV b6 b7 b11 b4 b12] 132 (0,0))
 lt:∀i,i=g\/i=b6\/i=b7\/i=b4\/i=b12->i<N0/\i≠b11
 l11:b11<N0/\¬B b11
theorem ThB.keep(h:ThB B N0 c g x b6 b7 b11 b4 b12 w)(k:aA T w w')(j:∀i,T i->i=b11\/N0≤i):ThB B N0 c g x b6 b7 b11 b4 b12 w':=by
 have q:∀i,i=g\/i=b6\/i=b7\/i=b4\/i=b12->¬T i:=fun i m e=>by
  obtain⟨n,d⟩:=h.lt i m;exact(j i e).elim d fun o=>by omega
 exact⟨k.blk h.cg (q _ (.inl rfl)),k.blk h.c6 (q _ (.inr (.inl rfl))),k.blk h.c7 (q _ (.inr (.inr (.inl rfl)))),k.blk h.c4 (q _ (.inr (.inr (.inr (.inl rfl))))),k.blk h.c12 (q _ (.inr (.inr (.inr (.inr rfl))))),h.lt,h.l11⟩
structure oL(N0 b11:Nat)(w:World)(v:Value)(ns:List Nat):Prop where
 cell:w.heap[b11]?=some (.cells #[v] 42 (0,0))
 row:w.ownsRow N0 3 1 v ns.length (jN ns)
theorem oL.keep(h:oL N0 b11 w v ns)(k:aA T w w')(h11:¬T b11)(d:∀i,v.ownBlock=some i->¬T i):oL N0 b11 w' v ns:=⟨k.blk h.cell h11,k.owns h.row d⟩
theorem oL.keep0(h:oL N0 b11 w v ns)(k:aA aB w w'):oL N0 b11 w' v ns:=h.keep k id fun _ _=>id
def rP(N0 b11:Nat)(x:Int)(l:Nat)(t:Tr)(a:Nat)(v:Value)(ns:List Nat)(w:World)(e:Ending)(w':World):Prop:=
 ∃d,e=.returned (.int .i64 0)/\oL N0 b11 w' d (ns++bks (aZ x) l t a)/\(∀i,d.ownBlock=some i->v.ownBlock=some i\/w.heap.size≤i)/\aA (fun i=>i=b11\/v.ownBlock=some i) w w'
def PT(B:Nat->Prop)(S:Kor)(c N0 g q6 q7 q11 q4 q12:Nat)(x:Int)(l:Nat):Prop:=∀(w:World) (v:Value) (ns:List Nat) (pv:Value) (t:Tr) (a:Nat),KI w c S B->ThB B N0 c g x q6 q7 q11 q4 q12 w->oL N0 q11 w v ns->N0≤w.heap.size->ns.length+(bks (aZ x) l t a).length≤1000->a+4 ^ l≤64->Tr.Ok S l t->aX w B pv t.ptr->(∀i,pv.ownBlock=some i->i≠q11/\v.ownBlock≠some i) ->
 Calls prog 69 #[.agg (dR pv t.ptr (a:Int)).toArray,.int .i64 (l:Int),.pointer q6,.pointer q7,.pointer q11,.pointer q4,.pointer q12] w (rP N0 q11 x l t a v ns w)
structure vU(w:World)(B:Nat->Prop)(S:Kor)(c N0 g q6 q7 q11 q4 q12:Nat)(x:Int)(b7 b12 l:Nat)(t:Tr)(a:Nat)(pv v:Value)(ns:List Nat)(vs:Nat->Value)(k:Nat)(wr:World)(vk:Value):Prop where
 ki:KI wr c S B
 th:ThB B N0 c g x q6 q7 q11 q4 q12 wr
 out:oL N0 q11 wr vk (ns++(List.range k).flatMap fun i=>bks (aZ x) l (t.kid i) (a+i*4 ^ l))
 old:bS wr B vs (fun i=>(t.kid i).ptr)
 off:∀q,q<4->∀i,(vs q).ownBlock=some i->i≠q11/\vk.ownBlock≠some i
 h7:wr.heap[b7]?=some (.cells (dR pv t.ptr (a:Int)).toArray 90 (0,0))
 h12:wr.heap[b12]?=some (.cells (bU ((l+1:Nat):Int) vs (fun i=>(t.kid i).ptr)).toArray 98 (0,0))
 own:∀i,vk.ownBlock=some i->(v.ownBlock=some i\/w.heap.size≤i)/\i≠b7/\i≠b12
 ge:N0≤b7/\N0≤b12/\N0≤w.heap.size
 keep:aA (fun i=>i=q11\/v.ownBlock=some i) w wr
theorem OY{α:Type}(f:Nat->List α)(h:k<4):((List.range k).flatMap f).length+(f k).length≤((List.range 4).flatMap f).length:=by
 have d:((List.range (k+1)).flatMap f).length≤((List.range 4).flatMap f).length:=by
  have:∃r,(List.range 4)=List.range (k+1)++r:=by
   have:k=0\/k=1\/k=2\/k=3:=by omega
   rcases this with rfl|rfl|rfl|rfl<;>exact⟨_,rfl⟩
  obtain⟨r,e⟩:=this;rw[e,List.flatMap_append,List.length_append];omega
 rw[List.range_succ,List.flatMap_append,List.length_append] at d
 simpa only[List.flatMap_cons,List.flatMap_nil,List.append_nil] using d
theorem vU.len{wr:World}
 (h:vU w B S c N0 g q6 q7 q11 q4 q12 x b7 b12 l t a pv v ns vs k wr vk) (m:k<4) (n:ns.length+(bks (aZ x) (l+1) t a).length≤1000) (j:t.isHole=false) (d:aZ x t.ptr=true):(ns++(List.range k).flatMap fun i=>bks (aZ x) l (t.kid i) (a+i*4 ^ l)).length+(bks (aZ x) l (t.kid k) (a+k*4 ^ l)).length≤1000:=by
 rw[Fm j d] at n;have:=OY (fun i=>bks (aZ x) l (t.kid i) (a+i*4 ^ l)) m;rw[List.length_append];omega
theorem vU.step{wr:World}
 (h:vU w B S c N0 g q6 q7 q11 q4 q12 x b7 b12 l t a pv v ns vs k wr vk) (F:∀i,B i->i<N0) (s:aA aB wr w1) (I:rP N0 q11 x l (t.kid k) (a+k*4 ^ l) vk (ns++(List.range k).flatMap fun i=>bks (aZ x) l (t.kid i) (a+i*4 ^ l)) w1 e w2):e=.returned (.int .i64 0)/\aA (fun i=>i=q11\/vk.ownBlock=some i) w1 w2/\∃u,vU w B S c N0 g q6 q7 q11 q4 q12 x b7 b12 l t a pv v ns vs (k+1) w2 u:=by
 obtain⟨u,G,C,D,A⟩:=I;have n:∀i,vk.ownBlock=some i->N0≤i:=fun i d=>aU h.out.row d
 have h11:=h.th.l11;have j:aA (fun i=>i=q11\/vk.ownBlock=some i) wr w2:=s.trans' A (fun _ _ h=>h.elim) (fun _ _ h=>h);have r:∀i,(∃q,q<4/\(vs q).ownBlock=some i)->i<wr.heap.size:=fun i ⟨q,m,d⟩=>((h.old q m).off i d).2.lt
 have E:=lt_of_block h.h7;have y:=lt_of_block h.h12;have H:=h.ge
 have o:∀q,q<4->∀i,(vs q).ownBlock=some i->¬(i=q11\/vk.ownBlock=some i):=fun q m i d e=>by
  have:=h.off q m i d;exact e.elim this.1 this.2
 refine⟨G,A,u,h.ki.keepT j fun i d z=>?_,h.th.keep j fun i d=>d.imp id (n i),?_,h.old.keepT j o,fun q m i d=>⟨(h.off q m i d).1,fun e=>?_⟩,j.blk h.h7 fun e=>?_,j.blk h.h12 fun e=>?_,fun i d=>?_,H,h.keep.tT j fun i d e=>?_⟩
 ·rcases d with rfl|d
  ·exact h11.2 z
  ·have:=n i d;have:=F i z;omega
 ·rw[List.append_assoc] at C
  rw[List.range_succ,List.flatMap_append]
  simpa only[List.flatMap_cons,List.flatMap_nil,List.append_nil] using C
 ·rcases D i e with e|e
  ·exact(h.off q m i d).2 e
  ·have:=r i ⟨q,m,d⟩;have:=s.size;omega
 ·rcases e with e|e
  ·omega
  ·exact(h.own _ e).2.1 rfl
 ·rcases e with e|e
  ·omega
  ·exact(h.own _ e).2.2 rfl
 ·rcases D i d with e|e
  ·exact h.own i e
  ·have:=s.size;have:=h.keep.size
   exact⟨.inr (by omega),by omega,by omega⟩
 ·rcases e with e|e
  ·exact .inl e
  ·exact(h.own i e).1.elim .inr fun e=>absurd d (by omega)
theorem vU.fin{wr:World}
 (h:vU w B S c N0 g q6 q7 q11 q4 q12 x b7 b12 l t a pv v ns vs 4 wr vk) (j:t.isHole=false) (d:aZ x t.ptr=true) (k:aA aB wr w'):rP N0 q11 x (l+1) t a v ns w (.returned (.int .i64 0)) w':=
 ⟨vk,rfl,by rw[Fm j d];exact h.out.keep0 k,fun i m=>(h.own i m).1,h.keep.tT k (fun _ _ e=>e.elim)⟩
theorem OZ:(bks (aZ x) 3 t 0).length≤64:=by
 have q:∀{l:Nat}{t:Tr}{a:Nat},(bks (aZ x) l t a).length≤4 ^ l:=by
  intro l
  induction l with
  | zero=>intro t a;rw[AH];split<;>simp
  | succ l d =>
    intro t a;rw[AI];split
    ·simp
    ·have h0:=d (t:=t.kid 0) (a:=a+0*4 ^ l);have h:=d (t:=t.kid 1) (a:=a+1*4 ^ l);have i:=d (t:=t.kid 2) (a:=a+2*4 ^ l);have j:=d (t:=t.kid 3) (a:=a+3*4 ^ l)
     rw[show List.range 4=[0,1,2,3] from rfl];simp only[List.flatMap_cons,List.flatMap_nil,List.append_nil,List.length_append];rw[Nat.pow_succ];omega
 exact q (l:=3)
theorem QE:Hid (∀w,(zeroValue 42).run prog w=.ok (.slice none 0 0) w):=O fun w=>by kernel_rfl
theorem Fo:(prog.info? 3).map (fun i=>(i.zero,i.size,i.bytes))=some (some (.int .i64 0),1,8):=by kernel_rfl
theorem PU{a:Int}{t:TypeId}(h:w.heap[b]?=some (.cells (dR v p a).toArray t fr)):w.cell? ⟨b,2,none⟩=some (.int .i64 p.level):=aD h rfl
def yW(w:World)(p:Pt)(a:Nat)(e:Ending)(w':World):Prop:=e=.returned (.tuple #[.int .i64 (a:Int),.bool (decide (p.level=0))])/\aA aB w w'
theorem Dk(w:World)(pv:Value)(p:Pt)(z:PtV w pv p)(a:Nat):Calls prog 38 #[.agg (dR pv p (a:Int)).toArray] w (yW w p a):=by
 have E:=O z.sum;have F:=kU (v:=pv) (a:=(a:Int)) z.sum;have j:=kV (a:=(a:Int)) z;obtain⟨G,d⟩:=zX9 (dR pv p (a:Int))
 have H:Hid (∀u∈G,u.oneCell'=true):=O (by rw[←d];exact j);have s:=O d;rw[d] at F ⊢;obtain⟨lv,q⟩:=zX9 p.level
 have A:=O q;have C:Hid (∀w',aA aB w w'->yW w p a (.returned (.tuple #[.int .i64 (a:Int),.bool (decide (lv=0))])) w'):=O fun w' k=>by rw[←q];exact⟨rfl,k⟩
 have J:(lv == 0)=decide (lv=0):=by rw[Bool.eq_iff_iff];simp
 have m:=lN w;clear j d z q;go_in
 go_wp2_with ((with_reducible show WL _ _);refine bxL m 90 (.tmp 0) (G.toArray) ?_)
 intro b1 w1 K m;clear K;go_wp2_with fail;refine dwA aB (by kernel_rfl) ?_;intro w2 S o D i y;replace m:=kL m y;clear y;have n:=m;refine tnb 0 (.pointer (some ⟨b1,35,none⟩)) rfl i ?_;refine tnd 1 (.int .i64 (a:Int)) rfl (.inl ⟨by rfl,fun w' r=>by have c:World.cell? w' ⟨b1,35,none⟩=some (.int .i64 (a:Int)):=(I5 E.out (by have h:=((o w' r).blk (n.b 0) id);rw[←s.out] at h;exact h));go_simp⟩) i ?_;refine tnb 2 (.pointer b1) rfl i ?_;refine tnb 3 (.pointer (some ⟨b1,2,none⟩)) rfl i ?_;refine tnd 4 (.int .i64 lv) rfl (.inl ⟨by rfl,fun w' r=>by have c:World.cell? w' ⟨b1,2,none⟩=some (.int .i64 lv):=(by have h:=PU (by have h:=((o w' r).blk (n.b 0) id);rw[←s.out] at h;exact h:_=some (Obj.cells (dR pv p (a:Int)).toArray _ _));rw[A.out] at h;exact h);go_simp⟩) i ?_;refine tnd 5 (.bool (decide (lv=0))) rfl (.inl ⟨by rfl,fun _ _=>by go_simp⟩) i ?_;refine tna 6 (.int .i64 (a:Int)) rfl i ?_;refine tna 7 (.bool (decide (lv=0))) rfl i ?_;refine wpAnyH_done (by kernel_rfl) ?_ _;clear i o D n;have I:=C.out _ m.keep;clear m;go_wp2
 go_ret2
 exact I
theorem pA(U:KI w c S B)(W:ThB B N0 c g x q6 q7 q11 q4 q12 w)(V:oL N0 q11 w v ns)(pv:Value)(t:Tr)(l a:Nat)(X:Tr.Ok S l t)(A:aX w B pv t.ptr)(J:t.isHole=true\/decide (x<t.ptr.birth)=false):Calls prog 69 #[.agg (dR pv t.ptr (a:Int)).toArray,.int .i64 (l:Int),.pointer q6,.pointer q7,.pointer q11,.pointer q4,.pointer q12] w (rP N0 q11 x l t a v ns w):=by
 have r:=O W;have q:=O V;have R:=O U;have F:=O (Nn (a:=a) (l:=l) J);have G:=O X.hole_eq;obtain⟨p,E⟩:=zX9 t.ptr
 have qb:=O E;rw[E] at A J G ⊢;have d:=O A;have D:=aJ (v:=pv) A.pt.sum;have z:=aN A.pt;have P:=kU (v:=pv) (a:=(a:Int)) A.pt.sum;have y:=kV (a:=(a:Int)) A.pt;have qc:=O A.pt.sum;obtain⟨Q,n⟩:=zX9 (aF pv p)
 obtain⟨Y,m⟩:=zX9 (dR pv p (a:Int))
 have qa:Hid (∀u∈Q,u.oneCell'=true):=O (by rw[←n];exact z);have Z:Hid (∀u∈Y,u.oneCell'=true):=O (by rw[←m];exact y);have s:=O n;have H:=O m;rw[n] at D;rw[m] at P ⊢;have HS:=O J;clear z y n m A W V U X J E;have o:=lN w;go_in
 go_wp2_with ((with_reducible show WL _ _);refine bxL o 90 (.tmp 0) (Y.toArray) ?_)
 intro b7 w1 j o;replace d:=pK d j;replace r:=O (r.keep j fun _ e=>e.elim);replace q:=O (q.keep0 j);clear j
 go_wp2_with ((with_reducible show WL _ _);refine wpList_load_mid rfl 27 (.tmp 15) rfl b7 0 rfl Q _ (by have h:=o.b 0;rw[←H.out] at h;rw[←s.out];exact eY h) aG rfl (szP9 D) ?_)
 refine((by rw[←s.out];exact cE w1 pv p d.pt:Ka w1 (aY w1 p.hole))).mono ?_;rintro e w2 ⟨rfl,j⟩;replace o:=kL o j;replace d:=pK d j;replace r:=O (r.keep j fun _ e=>e.elim);replace q:=O (q.keep0 j);clear j;obtain⟨N,C⟩:=zX9 p.hole
 rw[C];have K:=O C;clear C;cases N with
 | true =>
   have M:Hid (rP N0 q11 x l t a v ns w (.returned (.int .i64 0)) w2):=O ⟨v,rfl,by rw[F.out,List.append_nil];exact q.out,fun i h=>.inl h,o.keep.any⟩;clear o r q d R;go_wp2;go_ret;exact M.out
 | false =>
   have I:=HS.resolve_left (by rw[←G.out,K.out];decide);have L:=O I;clear I;have c1:w2.cell? ⟨q6,0,none⟩=some (nwV g):=(cell_of_one r.c6)
   go_wp2_with ((with_reducible show WL _ _);refine aM (by rfl) 27 (.tmp 20) rfl b7 0 rfl Q _ (by have h:=o.b 0;rw[←H.out] at h;rw[←s.out];exact eY h) aG rfl (szP9 D) ?_)
   clear c1;refine((by rw[←s.out];exact lK r.cg pv p d.pt:Ka w2 (aY w2 (decide (x<p.birth))))).mono ?_;rintro e w3 ⟨rfl,j⟩;replace o:=kL o j;replace d:=pK d j;replace r:=O (r.keep j fun _ e=>e.elim);replace q:=O (q.keep0 j);clear j;rw[L.out];have M:Hid (rP N0 q11 x l t a v ns w (.returned (.int .i64 0)) w3):=O ⟨v,rfl,by rw[F.out,List.append_nil];exact q.out,fun i h=>.inl h,o.keep.any⟩;clear o r q d R;go_wp2;go_ret;exact M.out
theorem Gi(hK:KI w c S B)(hT:ThB B N0 c g x q6 q7 q11 q4 q12 w)(hO:oL N0 q11 w v ns)(hN:N0≤w.heap.size)(pv:Value)(t:Tr)(a:Nat)(qa:ns.length≤1000)(ha:a≤64)(ht:Tr.Ok S 0 t)(G:aX w B pv t.ptr)(qk:∀i,pv.ownBlock=some i->i≠q11/\v.ownBlock≠some i)(hh:t.isHole=false)(hn:decide (x<t.ptr.birth)=true):Calls prog 69 #[.agg (dR pv t.ptr (a:Int)).toArray,.int .i64 0,.pointer q6,.pointer q7,.pointer q11,.pointer q4,.pointer q12] w (rP N0 q11 x 0 t a v ns w):=by
 have J:t.ptr.hole=false:=by rw[ht.hole_eq,hh]
 have qc:=O (OX (a:=a) hh hn);have q:=O hT;have o:=O hO;have qg:=O hN;have qh:=O qa;have ql:=O ha;have y:t.ptr.level=0:=(ht.born hh).2.2;obtain⟨p,N⟩:=zX9 t.ptr
 have qp:=O N;rw[N] at G J hn y ⊢;have j:=O G;have M:=aJ (v:=pv) G.pt.sum;have D:=aN G.pt;have Z:=kU (v:=pv) (a:=(a:Int)) G.pt.sum;have C:=kV (a:=(a:Int)) G.pt;have qq:=O G.pt.sum;obtain⟨pc,s⟩:=zX9 (aF pv p)
 obtain⟨lc,r⟩:=zX9 (dR pv p (a:Int))
 have qo:Hid (∀u∈pc,u.oneCell'=true):=O (by rw[←s];exact D);have qn:Hid (∀u∈lc,u.oneCell'=true):=O (by rw[←r];exact C);have A:=O s;have H:=O r;rw[s] at M;rw[r] at Z ⊢;have qd:=O J;have qf:=O hn;have U:=O y;clear D C s r G hT hO hh J hn hN qa N hK ht y ha qk;have m:=lN w;go_in
 go_wp2_with ((with_reducible show WL _ _);refine bxL m 90 (.tmp 0) (lc.toArray) ?_)
 intro b7 w1 d m;replace j:=pK j d;replace q:=O (q.keep d fun _ e=>e.elim);replace o:=O (o.keep0 d);clear d
 go_wp2_with ((with_reducible show WL _ _);refine wpList_load_mid rfl 27 (.tmp 15) rfl b7 0 rfl pc _ (by have h:=m.b 0;rw[←H.out] at h;rw[←A.out];exact eY h) aG rfl (szP9 M) ?_)
 refine((by rw[←A.out];exact cE w1 pv p j.pt:Ka w1 (aY w1 p.hole))).mono ?_;rintro e w2 ⟨rfl,d⟩;replace m:=kL m d;replace j:=pK j d;replace q:=O (q.keep d fun _ e=>e.elim);replace o:=O (o.keep0 d);clear d;rw[qd.out];have c1:w2.cell? ⟨q6,0,none⟩=some (nwV g):=(cell_of_one q.c6)
 go_wp2_with ((with_reducible show WL _ _);refine aM (by rfl) 27 (.tmp 20) rfl b7 0 rfl pc _ (by have h:=m.b 0;rw[←H.out] at h;rw[←A.out];exact eY h) aG rfl (szP9 M) ?_)
 clear c1;refine((by rw[←A.out];exact lK q.cg pv p j.pt:Ka w2 (aY w2 (decide (x<p.birth))))).mono ?_;rintro e w3 ⟨rfl,d⟩;replace m:=kL m d;replace j:=pK j d;replace q:=O (q.keep d fun _ e=>e.elim);replace o:=O (o.keep0 d);clear d;rw[qf.out];have c1:w3.cell? ⟨q7,0,none⟩=some (bkV):=(cell_of_one q.c7)
 go_wp2_with ((with_reducible show WL _ _);refine wpList_load_mid rfl 90 (.tmp 7) rfl b7 0 rfl lc _ (aC (m.b 0)) underlying90 rfl (by rw[Z];exact yT) ?_)
 clear c1;refine((by rw[←H.out];exact Dk w3 pv p j.pt a:Ka w3 (yW w3 p a))).mono ?_;rintro e w4 ⟨rfl,d⟩;replace m:=kL m d;replace j:=pK j d;replace q:=O (q.keep d fun _ e=>e.elim);replace o:=O (o.keep0 d);clear d;rw[U.out,show decide ((0:Int)=0)=true from rfl];have c1:w4.cell? ⟨q11,0,none⟩=some (v):=(cell_of_one o.cell)
 go_wp2_with ((with_reducible show WL _ _);refine bs1 42 3 (.tmp 33) (.int .i64 (a:Int)) (by kernel_rfl) (by kernel_rfl) underlying42 rfl ?_)
 clear c1;intro W w5 Y d F;have V:Hid (Rd w5 1 (.slice W 1 1) 1 [.int .i64 (a:Int)]):=O (eQ (n:=1) (size:=1) F rfl (by unfold maxLen;omega));replace m:=lW m Y d F;replace j:=pK j d;replace q:=O (q.keep d fun _ e=>e.elim);replace o:=O (o.keep0 d);clear Y d F;have qe:=O (show N0≤w5.heap.size from Nat.le_trans qg.out m.keep.size);have E:Hid (ns.length+1≤maxLen/\(ns.length+1)*8≤140737488355328):=O (by have:=qh.out;unfold maxLen;omega)
 go_wp2_with (at_builtin;refine aP rfl (.tmp 32) (.tmp 34) 42 rfl N0 3 (.int .i64 0) 1 8 underlying42 Fo rfl (by decide) v ns.length (jN ns) rfl o.row (.slice W 1 1) 1 [.int .i64 (a:Int)] rfl V.out (by intro u hu;rcases List.mem_singleton.1 hu with rfl;rfl) E.1 E.2 qe.out ?_)
 intro v2 w8 L K qj X;obtain⟨g2,c2,rfl,-,-⟩:=(Rd.of_owns L).form;have P:=O (K.blk o.cell fun e=>by have h1:=aU o.row e;have h2:=q.l11.1;omega);have I:=O L;have Q:=O K;have qb:=O X;have R:=O m.keep;have qm:=O (fun i (z:v.ownBlock=some i)=>(aU o.row z:N0≤i));clear L K qj X V
 go_wp2_with ((with_reducible show WL _ (.store 42 _ _));refine sta 42 (.tmp 4) (.tmp 35) q11 0 [.slice g2 (ns.length+1) c2] P.out (by simp) (by kernel_rfl) (by intro u hu;rw[List.mem_singleton] at hu;subst hu;rfl) ?_)
 intro w9 d F;replace F:w9.heap[q11]?=some (.cells #[.slice g2 (ns.length+1) c2] 42 (0,0)):=F
 have HP:Hid (rP N0 q11 x 0 t a v ns w (.returned (.int .i64 0)) w9):=O (by
  have qi:=fun i (z:(Value.slice g2 (ns.length+1) c2).ownBlock=some i)=>aU I.out z
  refine⟨_,rfl,⟨F,?_⟩,fun i z=>?_,(R.any.tT Q.out (fun i _ e=>.inr e)).tT d (fun i _ e=>.inl e)⟩
  ·rw[qc.out,List.length_append]
   have e:jN (ns++[a])=jN ns++[.int .i64 (a:Int)]:=by unfold jN;rw[List.map_append];rfl
   rw[e];exact d.owns I.out fun i z e=>by have h1:=qi i z;have h2:=q.l11.1;omega
  ·rcases qb.out with e|e
   ·exact .inl (e▸z)
   ·rw[e] at z
    injection z with z
    have:=R.size;exact .inr (by omega))
 clear m o q j d F Q I P;go_wp2;go_ret;exact HP.out
theorem Gj(hK:KI w c S B)(z5:l≤2)(IH:PT B S c N0 g q6 q7 q11 q4 q12 x l)(hB:∀i,B i->i<N0)(hT:ThB B N0 c g x q6 q7 q11 q4 q12 w)(hO:oL N0 q11 w v ns)(hN:N0≤w.heap.size)(pv:Value)(t:Tr)(a:Nat)(zl:ns.length+(bks (aZ x) (l+1) t a).length≤1000)(ha:a+4 ^ (l+1)≤64)(ht:Tr.Ok S (l+1) t)(hp:aX w B pv t.ptr)(zk:∀i,pv.ownBlock=some i->i≠q11/\v.ownBlock≠some i)(hh:t.isHole=false)(hn:decide (x<t.ptr.birth)=true):Calls prog 69 #[.agg (dR pv t.ptr (a:Int)).toArray,.int .i64 ((l+1:Nat):Int),.pointer q6,.pointer q7,.pointer q11,.pointer q4,.pointer q12] w (rP N0 q11 x (l+1) t a v ns w):=by
 have qu:t.ptr.hole=false:=by rw[ht.hole_eq,hh]
 have zq:=O IH;have zn:=O hB;have zd:=O ht;have za:=O zl;have HA:=O ha;have xc:=O zk;have Y:Hid (t.isHole=false/\aZ x t.ptr=true):=O ⟨hh,hn⟩;have r:=O hT;have s:=O hO;have Z:=O hN;have j:=O hK;have ql:Hid (∀i,v.ownBlock=some i->i<w.heap.size):=O fun i hi=>by (obtain⟨cur,hc⟩:=aL hO.row hi;exact lt_of_block hc)
 have V:t.ptr.level=((l+1:Nat):Int):=(ht.born hh).2.2;obtain⟨p,qx⟩:=zX9 t.ptr
 have qb:=O qx;rw[qx] at hp qu hn V ⊢;have n:=O hp;have qe:=aJ (v:=pv) hp.pt.sum;have qj:=aN hp.pt;have zh:=kU (v:=pv) (a:=(a:Int)) hp.pt.sum;have qi:=kV (a:=(a:Int)) hp.pt;have z0:=O hp.pt.sum;obtain⟨pc,G⟩:=zX9 (aF pv p)
 obtain⟨lc,E⟩:=zX9 (dR pv p (a:Int))
 have xa:Hid (∀u∈pc,u.oneCell'=true):=O (by rw[←G];exact qj);have z9:Hid (∀u∈lc,u.oneCell'=true):=O (by rw[←E];exact qi);have I:=O G;have P:=O E;rw[G] at qe;rw[E] at zh ⊢;have zp:=O qu;have zt:=O hn;have q3:Hid (decide (p.level=0)=false):=O (decide_eq_false (by rw[V];omega));have xh:(0:Int)≤((l+1:Nat):Int):=by omega
 have xi:(((l:Int)+1) == 0)=false:=by rw[beq_eq_false_iff_ne];omega
 clear qj qi G E hp hT hO hh qu hn hN zl qx hK IH hB ht ha zk V;have o:=lN w;go_in
 go_wp2_with ((with_reducible show WL _ _);refine bxL o 90 (.tmp 0) (lc.toArray) ?_)
 intro b7 w1 d o;replace n:=pK n d;replace r:=O (r.keep d fun _ e=>e.elim);replace s:=O (s.keep0 d);replace j:=O (KI.keep0 j.out d);clear d
 go_wp2_with ((with_reducible show WL _ _);refine wpList_load_mid rfl 27 (.tmp 15) rfl b7 0 rfl pc _ (by have h:=o.b 0;rw[←P.out] at h;rw[←I.out];exact eY h) aG rfl (szP9 qe) ?_)
 refine((by rw[←I.out];exact cE w1 pv p n.pt:Ka w1 (aY w1 p.hole))).mono ?_;rintro e w2 ⟨rfl,d⟩;replace o:=kL o d;replace n:=pK n d;replace r:=O (r.keep d fun _ e=>e.elim);replace s:=O (s.keep0 d);replace j:=O (KI.keep0 j.out d);clear d;rw[zp.out];have c1:w2.cell? ⟨q6,0,none⟩=some (nwV g):=(cell_of_one r.c6)
 go_wp2_with ((with_reducible show WL _ _);refine aM (by rfl) 27 (.tmp 20) rfl b7 0 rfl pc _ (by have h:=o.b 0;rw[←P.out] at h;rw[←I.out];exact eY h) aG rfl (szP9 qe) ?_)
 clear c1;refine((by rw[←I.out];exact lK r.cg pv p n.pt:Ka w2 (aY w2 (decide (x<p.birth))))).mono ?_;rintro e w3 ⟨rfl,d⟩;replace o:=kL o d;replace n:=pK n d;replace r:=O (r.keep d fun _ e=>e.elim);replace s:=O (s.keep0 d);replace j:=O (KI.keep0 j.out d);clear d;rw[zt.out];have c1:w3.cell? ⟨q7,0,none⟩=some (bkV):=(cell_of_one r.c7)
 go_wp2_with ((with_reducible show WL _ _);refine wpList_load_mid rfl 90 (.tmp 7) rfl b7 0 rfl lc _ (aC (o.b 0)) underlying90 rfl (by rw[zh];exact yT) ?_)
 clear c1;refine((by rw[←P.out];exact Dk w3 pv p n.pt a:Ka w3 (yW w3 p a))).mono ?_;rintro e w4 ⟨rfl,d⟩;replace o:=kL o d;replace n:=pK n d;replace r:=O (r.keep d fun _ e=>e.elim);replace s:=O (s.keep0 d);replace j:=O (KI.keep0 j.out d);clear d;rw[q3.out];have c1:w4.cell? ⟨q4,0,none⟩=some (.pointer c):=(cell_of_one r.c4)
 go_wp2_with ((with_reducible show WL _ _);refine wpList_load_mid rfl 27 (.tmp 40) rfl b7 0 rfl pc _ (by have h:=o.b 0;rw[←P.out] at h;rw[←I.out];exact eY h) aG rfl (szP9 qe) ?_)
 clear c1;have q9:=O o.keep.size;refine((by rw[←I.out,←qb.out];exact sL j.out z5 pv t zd.out (by rw[qb.out];exact n.pt):Ka w4 (eU w4 B l t))).mono ?_;rintro e w5 ⟨vs,rfl,qf,X,d⟩;have C:=O qf;have zw:Hid (∀q,q<4->∀i,(vs q).ownBlock=some i->i≠q11/\v.ownBlock≠some i):=O (fun q hq i hi=>⟨fun e=>by (have Q:=X q hq i hi;have h2:=q9.out;have h3:=r.l11.1;have h4:=Z.out;omega),fun e=>by (have Q:=X q hq i hi;have h2:=ql.out i e;have h3:=q9.out;omega)⟩);have L:=cX ((l+1:Nat):Int) vs qf.nv;have qh:=cZ ((l+1:Nat):Int) qf.nv;obtain⟨nn,F⟩:=zX9 (bU ((l+1:Nat):Int) vs (fun i=>(t.kid i).ptr))
 have zy:Hid (∀u∈nn,u.oneCell'=true):=O (by rw[←F];exact qh);have zu:=O F;rw[F] at L ⊢;clear qh F qf X;replace o:=kL o d;replace n:=pK n d;replace r:=O (r.keep d fun _ e=>e.elim);replace s:=O (s.keep0 d);replace j:=O (KI.keep0 j.out d);clear d
 go_wp2_with ((with_reducible show WL _ _);refine al 98 (.agg cQ.toArray) (cQ.toArray) iM ?_)
 intro b12 w6 zg qv qm
 go_wp2_with ((with_reducible show WL _ _);refine sta 98 (.tmp 12) (.tmp 44) b12 0 nn qm (by first|decide|(rw[List.size_toArray,L];exact Nat.le_refl _)|simp[L,bK]) (by rw[L];exact dA) zy.out ?_)
 intro w7 d hb;rw[aI _ _ (by first|rfl|(rw[List.size_toArray,L];rfl)|simp[L,bK])] at hb;replace d:=tX qv d (fun i hi e=>by omega);replace o:=lW o zg d hb;replace n:=pK n d;replace r:=O (r.keep d fun _ e=>e.elim);replace s:=O (s.keep0 d);replace j:=O (KI.keep0 j.out d);replace C:=O (bS.keep0 C.out d);clear zg d hb qv qm;go_wp2_with fail
 have z1:Hid (∃vk,vU w B S c N0 g q6 q7 q11 q4 q12 x b7 b12 l t a pv v ns vs 0 w7 vk):=O ⟨v,j.out,r.out,by rw[show (List.range 0)=[] from rfl,List.flatMap_nil,List.append_nil];exact s.out,C.out,zw.out,by (have h:=o.b 1;rw[←P.out] at h;rw[qb.out];exact h),by (have h:=o.b 0;rw[←zu.out] at h;exact h),fun i hi=>by
  have h7:=o.lt 1;have h12:=o.lt 0;have Q:=ql.out i hi;exact⟨.inl hi,by omega,by omega⟩,⟨by have Q:=(o.lt 1).1;have h2:=Z.out;omega,by have Q:=(o.lt 0).1;have h2:=Z.out;omega,Z.out⟩,o.keep.any⟩
 clear o j n r s C
 go_loopw [13,14] (fun e i wr=>∃k:Nat,k≤4/\e=.int .i64 0/\i=.int .i64 (k:Int)/\Hid (∃vk,vU w B S c N0 g q6 q7 q11 q4 q12 x b7 b12 l t a pv v ns vs k wr vk)) (fun _ i _=>4-(intOf i).toNat)
 case atStart=>exact⟨0,by omega,rfl,rfl,z1⟩
 case round =>
  obtain⟨k,d,rfl,rfl,qn⟩:=hrel;obtain⟨vk,m⟩:=qn.out
  by_cases R:k<4
  ·have qv:(0:Int)≤(k:Int):=by omega
   have xg:(k:Int)<4:=by omega
   have j:=O m.ki;have r:=O m.th;have s:=O m.out;have y:=O (m.old k R);have qz:=O m;have zm:=aJ (v:=vs k) y.pt.sum;have qk:=aN y.pt;have qp:=mI m.old.nv (aC m.h12) R;obtain⟨qc,A⟩:=zX9 (aF (vs k) ((t.kid k).ptr))
   have xb:Hid (∀u∈qc,u.oneCell'=true):=O (by rw[←A];exact qk);have xd:=O A;rw[A] at zm qp;have HX:=O qp;have H:=O (I5 (by rw[qb.out];exact z0.out) m.h7);obtain⟨W,hW⟩:∃W:Nat,4 ^ l=W:=⟨_,rfl⟩
   have z6:W≤16/\1≤W:=by
    have:l=0\/l=1\/l=2:=by omega
    rcases this with rfl|rfl|rfl<;>omega
   have HW:=O hW;obtain⟨kw,U⟩:∃q:Nat,k*W=q:=⟨_,rfl⟩
   have z3:kw+W≤4*W:=by rw[←U];have Q:=Nat.mul_le_mul_right W (show k+1≤4 by omega);rw[Nat.succ_mul] at Q;exact Q
   have z7:(k:Int)*(W:Int)=(kw:Int):=by rw[←U];push_cast;rfl
   have xf:a+4*W≤64:=by have Q:=HA.out;rw[Nat.pow_succ,hW] at Q;omega
   obtain⟨M,qr⟩:=zX9 (a+kw)
   have q1:Hid (a+k*4 ^ l=M):=O (by rw[hW,U,qr]);have xe:(a:Int)+(kw:Int)=(M:Int):=by omega
   obtain⟨nk,qd⟩:=zX9 ((ns++(List.range k).flatMap fun i=>bks (aZ x) l (t.kid i) (a+i*4 ^ l)))
   have zv:=O qd;have qa:Hid ((∀i,(vs k).ownBlock=some i->i≠q11/\vk.ownBlock≠some i)/\nk.length+(bks (aZ x) l (t.kid k) M).length≤1000/\M+4 ^ l≤64/\N0≤wr.heap.size):=O ⟨m.off k R,by rw[←qd,←qr,←U,←hW];exact m.len R za.out Y.1 Y.2,by rw[hW];omega,by have Q:=m.ge;have h2:=m.keep.size;omega⟩;have z2:=O (zd.kid R);have o:=lN wr
   have N:Hid (¬(b12=q11\/vk.ownBlock=some b12)/\¬(b7=q11\/vk.ownBlock=some b7)/\¬(q12=q11\/vk.ownBlock=some q12)):=O (by
    have Q:=m.ge;have h2:=m.th.l11.1;have h3:=m.th.lt q12 (.inr (.inr (.inr (.inr rfl))));refine⟨fun e=>e.elim (fun e=>by omega) fun e=>(m.own _ e).2.2 rfl,fun e=>e.elim (fun e=>by omega) fun e=>(m.own _ e).2.1 rfl,fun e=>e.elim (fun e=>by omega) fun e=>?_⟩;have h4:=aU m.out.row e;omega)
   have qt:=G4 (vs k) (t.kid k).ptr (M:Int) y.pt.sum;obtain⟨mc,qw⟩:=zX9 (dR (vs k) (t.kid k).ptr (M:Int))
   have zs:=O qw;rw[qw,A] at qt;rw[qd] at s;have zo:=O qt;clear A qk qp m qn hW U qw qt qr qd;go_wp2_with fail;refine dwA (fun i=>i=q11\/vk.ownBlock=some i) (by kernel_rfl) ?_;intro w9 S J qo D z;replace o:=kL o z;replace j:=O (KI.keep0 j.out z);replace r:=O (r.keep z fun _ e=>e.elim);replace s:=O (s.keep0 z);replace HX:=O (z.rangeAt HX.out);replace y:=pK y z;replace H:=O (z.cell H.out id);clear z;have zr:=o;have q0:=j;have ze:=r;have zz:=s;have zf:=HX;have zb:=y;have qg:=H;refine tnd 0 (dbV q6 q7 q11 q4 q12) rfl (.inl ⟨by rfl,fun w' qy=>by have c:World.cell? w' ⟨q12,0,none⟩=some (dbV q6 q7 q11 q4 q12):=(J w' qy).cell (cell_of_one ze.c12) N.2.2;go_simp⟩) D ?_;refine tna 1 (.int .i64 (k:Int)) rfl D ?_;refine tnb 2 (.pointer (some ⟨b12,1,none⟩)) rfl D ?_;refine tnd 3 (.pointer (some ⟨b12,1+k*35,none⟩)) rfl (.inl ⟨by rfl,fun _ _=>by go_simp<;>omega⟩) D ?_;refine tnd 4 (.agg qc.toArray) rfl (yieldsIf_load_mid (by rfl) 27 (.tmp 57) rfl b12 (1+k*35) rfl qc _ (fun w' h=>(J w' h).rangeAt2 zf.out N.1) aG rfl (szP9 zm)) D ?_;refine tnb 5 (.pointer (some ⟨b7,35,none⟩)) rfl D ?_;refine tnd 6 (.int .i64 (a:Int)) rfl (.inl ⟨by rfl,fun w' qy=>by have c:World.cell? w' ⟨b7,35,none⟩=some (.int .i64 (a:Int)):=(J w' qy).cell qg.out N.2.1;go_simp⟩) D ?_;refine tna 7 (.int .i64 (k:Int)) rfl D ?_;refine tna 8 (.int .i64 ((l+1:Nat):Int)) rfl D ?_;refine tnd 9 (.int .i64 (l:Int)) rfl (.inl ⟨by rfl,fun _ _=>by go_simp;exact IntWalk.i64_in _ (by omega)⟩) D ?_;refine tna 14 (.int .i64 ((l+1:Nat):Int)) rfl D ?_;refine tnd 15 (.int .i64 (l:Int)) rfl (.inl ⟨by rfl,fun _ _=>by go_simp;exact IntWalk.i64_in _ (by omega)⟩) D ?_;refine wA9 10 ?_;go_wp2_with fail;refine((by rw[←HW.out];exact vO w9 l (by omega):Ka w9 (aK w9 (.int .i64 (W:Int))))).mono ?_;rintro e wa ⟨rfl,d⟩;have K:=qo.out _ ((J _ D).trans d.any);replace o:=kL o d;replace j:=O (KI.keep0 j.out d);replace r:=O (r.keep d fun _ e=>e.elim);replace s:=O (s.keep0 d);replace HX:=O (d.rangeAt HX.out);replace y:=pK y d;replace H:=O (d.cell H.out id);clear D d;go_wp2_with fail;refine⟨K,?_⟩;refine tnd 11 (.int .i64 (kw:Int)) rfl (.inl ⟨by rfl,fun _ _=>by go_simp;exact IntWalk.i64_in _ (by omega)⟩) K ?_;refine tnd 12 (.int .i64 (M:Int)) rfl (.inl ⟨by rfl,fun _ _=>by go_simp;exact IntWalk.i64_in _ (by omega)⟩) K ?_;refine tnd 13 (.agg mc.toArray) rfl (fI 90 #[(0,.tmp 58),(1,.tmp 66)] [(0,.agg qc.toArray),(1,.int .i64 (M:Int))] (.agg mc.toArray) zo.out) K ?_;refine wA9 16 ?_;go_wp2_with fail;have q5:Hid (aA aB wr wa):=O o.keep;refine((by rw[←zs.out];exact zq.out wa vk nk (vs k) (t.kid k) M j.out r.out s.out (Nat.le_trans qa.2.2.2 o.keep.size) qa.2.1 qa.2.2.1 z2.out y.out qa.1:Ka wa (rP N0 q11 x l (t.kid k) M vk nk wa))).mono ?_;rintro e wb hm;obtain⟨he,zi,zj⟩:=qz.step zn.out q5.out (by rw[q1.out,zv.out];exact hm);subst he;have zx:=O zj;have qq:=qo.out _ ((J _ K).trans zi);clear K zi hm zj o j r HX y s H q5;go_wp2_with fail;refine⟨qq,?_⟩;refine tna 17 (.int .i64 0) rfl qq ?_;refine wpAnyH_done (by kernel_rfl) ?_ _;clear qq J qo zr q0 ze zz zf zb qg;clear qz;go_wp2
   go_roundw
   case rel=>exact⟨k+1,by omega,rfl,by go_num,zx⟩
   case measure=>simp[intOf];omega
  ·obtain rfl:k=4:=by omega
   have HP:=O (m.fin Y.1 Y.2 (aA.refl aB wr));clear m qn;go_wp2;go_ret;exact HP.out
theorem No(z:∀i,B i->i<N0):∀l,l≤3->PT B S c N0 g q6 q7 q11 q4 q12 x l:=by
 intro l
 induction l with
 | zero =>
   intro A w v ns pv t a d j h u s y o m n;cases q:t.isHole with
   | true=>exact pA d j h pv t 0 a o m (.inl q)
   | false =>
     cases r:decide (x<t.ptr.birth) with
     | false=>exact pA d j h pv t 0 a o m (.inr r)
     | true=>exact Gi d j h u pv t a (by omega) (by omega) o m n q r
 | succ l C =>
   intro A w v ns pv t a d j h u s y o m n;cases q:t.isHole with
   | true=>exact pA d j h pv t (l+1) a o m (.inl q)
   | false =>
     cases r:decide (x<t.ptr.birth) with
     | false=>exact pA d j h pv t (l+1) a o m (.inr r)
     | true=>exact Gj d (by omega) (C (by omega)) z j h u pv t a s y o m n q r
def iB(w:World)(ns:List Nat)(e:Ending)(w':World):Prop:=∃v,e=.returned (.tuple #[v,.int .i64 0])/\w'.ownsRow w.heap.size 3 1 v ns.length (jN ns)/\aA aB w w'
end
end Go.Proofs.YtiinnfhjpaeffaaGreat
