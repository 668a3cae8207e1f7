import Derived.Test.YtoeinblfcbpcmaaGreatR30
namespace Go.Proofs.YtoeinblfcbpcmaaGreat
open Tryz
set_option maxHeartbeats 0
set_option maxRecDepth 100000
set_option linter.unusedVariables false
section
open Go.RowKit Go.Maps Go.ChangeMaps
abbrev nwV(g:Nat):Value:=.func (.func 68) #[] #[.pointer g]
abbrev owV:Value:=.func (.func 27) #[] #[]
abbrev dnV(b6 b7 b11 b4 b12:Nat):Value:=.func (.func 67) #[] #[.pointer b6,.pointer b7,.pointer b11,.pointer b4,.pointer b12]
structure Thr(B:Nat->Prop)(N0 c g:Nat)(x:Int)(b6 b7 b11 b4 b12:Nat)(w:World):Prop where
 cg:w.heap[g]?=some (.cells #[.int .i64 x] 3 (0,0))
 c6:w.heap[b6]?=some (.cells #[nwV g] 72 (0,0))
 c7:w.heap[b7]?=some (.cells #[owV] 74 (0,0))
 c4:w.heap[b4]?=some (.cells #[.pointer (some ⟨c,0,none⟩)] 24 (0,0))
 c12:w.heap[b12]?=some (.cells #[dnV b6 b7 b11 b4 b12] 139 (0,0))
 lt:∀i,i=g\/i=b6\/i=b7\/i=b4\/i=b12->i<N0/\i≠b11
 l11:b11<N0/\¬B b11
variable{B T:Nat->Prop}{N0 c g b6 b7 b11 b4 b12 l a q6 q7 q11 q4 q12 k b:Nat}{x:Int}{w w' w2 w1:World}{v pv vk:Value}{ps qs:List (Value×Pt)}{t:Tr}{S:Kor}{p:Pt}{f:Pt->Bool}{vs:Nat->Value}{e:Ending}{fr:Nat×Nat}{ns:List Nat}
theorem Thr.keep(h:Thr B N0 c g x b6 b7 b11 b4 b12 w)(k:aA T w w')(j:∀i,T i->i=b11\/N0≤i):Thr B N0 c g x b6 b7 b11 b4 b12 w':=by
 have q:∀i,i=g\/i=b6\/i=b7\/i=b4\/i=b12->¬T i:=fun i m e=>by
  obtain⟨n,d⟩:=h.lt i m;exact(j i e).elim d fun o=>by omega
 exact⟨k.blk h.cg (q _ (.inl rfl)),k.blk h.c6 (q _ (.inr (.inl rfl))),k.blk h.c7 (q _ (.inr (.inr (.inl rfl)))),k.blk h.c4 (q _ (.inr (.inr (.inr (.inl rfl))))),k.blk h.c12 (q _ (.inr (.inr (.inr (.inr rfl))))),h.lt,h.l11⟩
structure kJ(N0 b11:Nat)(w:World)(v:Value)(ps:List (Value×Pt)):Prop where
 cell:w.heap[b11]?=some (.cells #[v] 40 (0,0))
 row:w.ownsRow N0 30 35 v ps.length (ps.flatMap fun x=>aE x.1 x.2)
 at_:∀x∈ps,PtV w x.1 x.2/\∀i,x.1.ownBlock=some i->N0≤i/\v.ownBlock≠some i/\IsC w i
theorem kJ.keep(h:kJ N0 b11 w v ps)(k:aA T w w')(h11:¬T b11)(n:∀i,v.ownBlock=some i->¬T i)(m:∀x∈ps,∀i,x.1.ownBlock=some i->¬T i):kJ N0 b11 w' v ps:=
 ⟨k.blk h.cell h11,k.owns h.row n,fun x d=>⟨(h.at_ x d).1.keep k (m x d),fun i j=>⟨((h.at_ x d).2 i j).1,((h.at_ x d).2 i j).2.1,IsC.keep ((h.at_ x d).2 i j).2.2 k (m x d i j)⟩⟩⟩
theorem kJ.keep0(h:kJ N0 b11 w v ps)(k:aA aB w w'):kJ N0 b11 w' v ps:=h.keep k id (fun _ _=>id) fun _ _ _ _=>id
def rH(N0 b11:Nat)(x:Int)(l:Nat)(t:Tr)(a:Nat)(v:Value)(ps:List (Value×Pt))(w:World)(e:Ending)(w':World):Prop:=
 ∃d qs,e=.returned (.int .i64 0)/\kJ N0 b11 w' d (ps++qs)/\qs.map (·.2)=(thr (aV x) l t a).map (·.1)/\(∀i,d.ownBlock=some i->v.ownBlock=some i\/w.heap.size≤i)/\aA (fun i=>i=b11\/v.ownBlock=some i) w w'
theorem NC(h:t.isHole=true\/decide (x<t.ptr.birth)=false):thr (aV x) l t a=[]:=by
 have e:(t.isHole || !aV x t.ptr)=true:=by
  rcases h with h|h
  ·rw[h];rfl
  ·show (t.isHole || !(decide (x<t.ptr.birth)))=true
   rw[h];simp
 cases l with
 | zero=>rw[fF,if_pos e]
 | succ l=>rw[eR,if_pos e]
theorem mS(U:KI w c S B)(W:Thr B N0 c g x q6 q7 q11 q4 q12 w)(V:kJ N0 q11 w v ps)(pv:Value)(t:Tr)(l a:Nat)(X:Tr.Ok S l t)(C:aU w B pv t.ptr)(I:t.isHole=true\/decide (x<t.ptr.birth)=false):Calls prog 67 #[.agg (dN pv t.ptr (a:Int)).toArray,.int .i64 (l:Int),.pointer q6,.pointer q7,.pointer q11,.pointer q4,.pointer q12] w (rH N0 q11 x l t a v ps w):=by
 have r:=O W;have q:=O V;have R:=O U;have E:=O (NC (a:=a) (l:=l) I);have F:=O X.hole_eq;obtain⟨p,P⟩:=zX9 t.ptr
 rw[P] at C I F ⊢;have d:=O C;have D:=aF (v:=pv) C.pt.sum;have z:=aL C.pt;have N:=kH (v:=pv) (a:=(a:Int)) C.pt.sum;have y:=kI (a:=(a:Int)) C.pt;obtain⟨Q,n⟩:=zX9 (aE pv p)
 obtain⟨Y,m⟩:=zX9 (dN pv p (a:Int))
 have qa:Hid (∀u∈Q,u.oneCell'=true):=O (by rw[←n];exact z);have Z:Hid (∀u∈Y,u.oneCell'=true):=O (by rw[←m];exact y);have s:=O n;have G:=O m;rw[n] at D;rw[m] at N ⊢;have HS:=O I;clear z y n m C W V U X I;have o:=lN w;go_in
 go_wp2_with refine bxM o (Y.toArray) ?_
 intro b7 w1 j o;replace d:=pK d j;replace r:=O (r.keep j fun _ e=>e.elim);replace q:=O (q.keep0 j);clear j
 go_wp2_with ((with_reducible show WL _ _);refine ldP b7 0 Q (by have h:=o.b 0;rw[←G.out] at h;rw[←s.out];exact eQ h) D ?_)
 refine((by rw[←s.out];exact bK w1 pv p d.pt:Ka w1 (aN w1 p.hole))).mono ?_;rintro e w2 ⟨rfl,j⟩;replace o:=kL o j;replace d:=pK d j;replace r:=O (r.keep j fun _ e=>e.elim);replace q:=O (q.keep0 j);clear j;obtain⟨M,A⟩:=zX9 p.hole
 rw[A];have J:=O A;clear A;cases M with
 | true =>
   have L:Hid (rH N0 q11 x l t a v ps w (.returned (.int .i64 0)) w2):=O ⟨v,[],rfl,by rw[List.append_nil];exact q.out,by rw[E.out];rfl,fun i h=>.inl h,o.keep.any⟩;clear o r q d R;go_wp2;go_ret;exact L.out
 | false =>
   have H:=HS.resolve_left (by rw[←F.out,J.out];decide);have K:=O H;clear H;have c1:w2.cell? ⟨q6,0,none⟩=some (nwV g):=(cell_of_one r.c6)
   go_wp2_with ((with_reducible show WL _ _);refine aK (by rfl) 30 (.tmp 20) rfl b7 0 rfl Q _ (by have h:=o.b 0;rw[←G.out] at h;rw[←s.out];exact eQ h) aI rfl (szP9 D) ?_)
   clear c1;refine((by rw[←s.out];exact kZ r.cg pv p d.pt:Ka w2 (aN w2 (decide (x<p.birth))))).mono ?_;rintro e w3 ⟨rfl,j⟩;replace o:=kL o j;replace d:=pK d j;replace r:=O (r.keep j fun _ e=>e.elim);replace q:=O (q.keep0 j);clear j;rw[K.out];have L:Hid (rH N0 q11 x l t a v ps w (.returned (.int .i64 0)) w3):=O ⟨v,[],rfl,by rw[List.append_nil];exact q.out,by rw[E.out];rfl,fun i h=>.inl h,o.keep.any⟩;clear o r q d R;go_wp2;go_ret;exact L.out
theorem yJ:(prog.info? 80).map (·.size)=some 36:=by kernel_rfl
theorem kJ.grow{y:World}{m r:Value}(h:kJ N0 b11 w v ps)(h11:b11<N0)(G:PtV w m p)(q:∀i,m.ownBlock=some i->N0≤i/\v.ownBlock≠some i/\IsC w i)
 (C:w2.ownsRow N0 30 35 r (ps.length+1) ((ps.flatMap fun x=>aE x.1 x.2)++aE m p)) (k:aA (fun i=>v.ownBlock=some i) w w2) (o:r.ownBlock=v.ownBlock\/r.ownBlock=some w.heap.size) (u:aA (fun i=>i=b11) w2 y) (F:y.heap[b11]?=some (.cells #[r] 40 (0,0))):kJ N0 b11 y r (ps++[(m,p)]):=by
 have n:∀x∈ps++[(m,p)],PtV w x.1 x.2/\∀i,x.1.ownBlock=some i->N0≤i/\v.ownBlock≠some i/\IsC w i:=fun x d=>by
  rcases List.mem_append.1 d with d|d
  ·exact h.at_ x d
  ·rw[List.mem_singleton] at d
   subst d;exact⟨G,q⟩
 refine⟨F,?_,fun x d=>?_⟩
 ·have e:((ps++[(m,p)]).flatMap fun x=>aE x.1 x.2)=(ps.flatMap fun x=>aE x.1 x.2)++aE m p:=by rw[List.flatMap_append];simp
  rw[e,List.length_append];exact u.owns C fun i j e=>by have:=aW C j;omega
 ·obtain⟨E,s⟩:=n x d
  refine⟨(E.keep k fun i j=>(s i j).2.1).keep u fun i j e=>by have:=(s i j).1;omega,fun i j=>?_⟩;obtain⟨D,z,A⟩:=s i j;refine⟨D,fun e=>?_,(A.keep k z).keep u fun e=>by omega⟩;rcases o with o|o
  ·exact z (o▸e)
  ·rw[o] at e
   injection e with e
   have:=A.lt;omega
theorem Pn(d:t.isHole=false)(h:decide (x<t.ptr.birth)=true):thr (aV x) 0 t a=[(t.ptr,a)]:=by
 rw[fF,d];exact if_neg (by show ¬(false || !(decide (x<t.ptr.birth)))=true;rw[h];decide)
theorem Fl(hK:KI w c S B)(hT:Thr B N0 c g x q6 q7 q11 q4 q12 w)(hO:kJ N0 q11 w v ps)(hN:N0≤w.heap.size)(qj:ps.length≤1000)(pv:Value)(t:Tr)(a:Nat)(R:aU w B pv t.ptr)(W:t.ptr.addrs.length≤65536)(hh:t.isHole=false)(N:t.ptr.hole=false)(hn:decide (x<t.ptr.birth)=true):Calls prog 67 #[.agg (dN pv t.ptr (a:Int)).toArray,.int .i64 0,.pointer q6,.pointer q7,.pointer q11,.pointer q4,.pointer q12] w (rH N0 q11 x 0 t a v ps w):=by
 have r:=O hT;have o:=O hO;have Z:=O (fun i (e:B i)=>hK.lt e);have qb:=O hN;have qq:=O qj;have qk:=O (Pn (a:=a) hh hn);obtain⟨p,V⟩:=zX9 t.ptr
 have qo:=O V;rw[V] at R N hn W ⊢;have j:=O R;have ql:=O N;have qn:=O hn;have qp:=O W;have U:=aF (v:=pv) R.pt.sum;have J:=aL R.pt;have qi:=kH (v:=pv) (a:=(a:Int)) R.pt.sum;have I:=kI (a:=(a:Int)) R.pt;obtain⟨pc,z⟩:=zX9 (aE pv p)
 obtain⟨lc,y⟩:=zX9 (dN pv p (a:Int))
 have qv:Hid (∀u∈pc,u.oneCell'=true):=O (by rw[←z];exact J);have qu:Hid (∀u∈lc,u.oneCell'=true):=O (by rw[←y];exact I);have G:=O z;have M:=O y;rw[z] at U;rw[y] at qi ⊢;clear J I z y R hT hO hh N hn hN qj W V hK;have m:=lN w;go_in
 go_wp2_with refine bxM m (lc.toArray) ?_
 intro b7 w1 d m;replace j:=pK j d;replace r:=O (r.keep d fun _ e=>e.elim);replace o:=O (o.keep0 d);clear d
 go_wp2_with ((with_reducible show WL _ _);refine ldP b7 0 pc (by have h:=m.b 0;rw[←M.out] at h;rw[←G.out];exact eQ h) U ?_)
 refine((by rw[←G.out];exact bK w1 pv p j.pt:Ka w1 (aN w1 p.hole))).mono ?_;rintro e w2 ⟨rfl,d⟩;replace m:=kL m d;replace j:=pK j d;replace r:=O (r.keep d fun _ e=>e.elim);replace o:=O (o.keep0 d);clear d;rw[ql.out];have c1:w2.cell? ⟨q6,0,none⟩=some (nwV g):=(cell_of_one r.c6)
 go_wp2_with ((with_reducible show WL _ _);refine aK (by rfl) 30 (.tmp 20) rfl b7 0 rfl pc _ (by have h:=m.b 0;rw[←M.out] at h;rw[←G.out];exact eQ h) aI rfl (szP9 U) ?_)
 clear c1;refine((by rw[←G.out];exact kZ r.cg pv p j.pt:Ka w2 (aN w2 (decide (x<p.birth))))).mono ?_;rintro e w3 ⟨rfl,d⟩;replace m:=kL m d;replace j:=pK j d;replace r:=O (r.keep d fun _ e=>e.elim);replace o:=O (o.keep0 d);clear d;rw[qn.out];have c1:w3.cell? ⟨q7,0,none⟩=some (owV):=(cell_of_one r.c7)
 go_wp2_with ((with_reducible show WL _ _);refine ldR (m.b 0) underlying80 (by rw[qi];exact yJ) ?_)
 clear c1;have qr:=O m.keep.size;refine((by rw[←M.out];exact Fi (B:=B) (fun k d=>Nat.lt_of_lt_of_le (Z k d) m.keep.size) pv p j.pt qp.out (a:Int):Ka w3 (vK w3 B p))).mono ?_;rintro e w4 ⟨v1,rfl,A,E,d⟩;have C:Hid (PtV w4 v1 p):=O A.pt;have q:Hid (∀i,v1.ownBlock=some i->N0≤i/\v.ownBlock≠some i/\IsC w4 i):=O (fun i s=>⟨by have h1:=E i s;have h2:=qb.out;have h3:=qr.out;omega,fun e=>by (obtain⟨cur,hc⟩:=aJ o.row e;have h1:=lt_of_block hc;have h2:=E i s;omega),(A.off i s).2⟩);obtain⟨rc,qe,F,qd⟩:=nmPt A.pt;rw[qe.out];clear A E;replace m:=kL m d;replace j:=pK j d;replace r:=O (r.keep d fun _ e=>e.elim);replace o:=O (o.keep0 d);clear d
 go_wp2_with refine alW aZ F aG (szP9 F) qd.out ?_
 intro qw w6 D d H
 replace m:=lW m D d H;replace j:=pK j d;replace r:=O (r.keep d fun _ e=>e.elim);replace o:=O (o.keep0 d);replace C:=O (C.keep d fun _ _=>id);replace q:=O (fun i s=>And.intro (q i s).1 (And.intro (q i s).2.1 ((q i s).2.2.keep d id)));clear D d H;have c1:w6.cell? ⟨q11,0,none⟩=some (v):=(cell_of_one o.cell)
 go_wp2_with ((with_reducible show WL _ _);first
  | refine ldQ (m.b 0) F ?_
  | refine bsA 40 30 (.tmp 33) underlying40 lK (by omega) rc F (by omega) ?_)
 clear c1;intro qg w7 D d H;have qf:Hid (Rd w7 35 (.slice qg 1 1) 1 rc):=O (dX (n:=1) (size:=35) H (by rw[F]) (by unfold maxLen;omega));replace m:=lW m D d H;replace j:=pK j d;replace r:=O (r.keep d fun _ e=>e.elim);replace o:=O (o.keep0 d);replace C:=O (C.keep d fun _ _=>id);replace q:=O (fun i s=>And.intro (q i s).1 (And.intro (q i s).2.1 ((q i s).2.2.keep d id)));clear D d H;have qm:=O (show N0≤w7.heap.size from Nat.le_trans qb.out m.keep.size);have K:Hid (ps.length+1≤maxLen/\(ps.length+1)*72≤140737488355328):=O (by have:=qq.out;unfold maxLen;omega)
 go_wp2_with (at_builtin;refine aM rfl (.tmp 32) (.tmp 34) 40 rfl N0 30 (.agg aX.toArray) 35 72 underlying40 lK rfl (by decide) v ps.length (ps.flatMap fun x=>aE x.1 x.2) rfl o.row (.slice qg 1 1) 1 rc rfl qf.out qd.out K.1 K.2 qm.out ?_)
 intro v2 w8 Q P qt qh;obtain⟨g2,c2,rfl,-,-⟩:=(Rd.of_owns Q).form;have X:=O (P.blk o.cell fun e=>by have h1:=aW o.row e;have h2:=r.l11.1;omega);have qc:=O Q;have L:=O P;have Y:=O qh;have qa:=O m.keep;clear Q P qt qh qf
 go_wp2_with ((with_reducible show WL _ (.store 40 _ _));refine stV (.slice g2 (ps.length+1) c2) X.out ?_)
 intro w9 d H;have HP:Hid (rH N0 q11 x 0 t a v ps w (.returned (.int .i64 0)) w9):=O (by
  refine⟨_,[(v1,p)],rfl,o.grow r.l11.1 C.out q.out (by rw[qe.out];exact qc.out) L.out Y.out d H,by rw[qk.out,←qo.out];rfl,fun i s=>?_,?_⟩
  ·rcases Y.out with e|e
   ·exact .inl (e▸s)
   ·rw[e] at s
    injection s with s
    have:=qa.size;exact .inr (by omega)
  ·exact((qa.any.tT L.out (fun i _ e=>.inr e)).tT d (fun i _ e=>.inl e)))
 clear m o r j d H L qc X;go_wp2;go_ret;exact HP.out
def Ql(B:Nat->Prop)(S:Kor)(c N0 g q6 q7 q11 q4 q12:Nat)(x:Int)(l:Nat):Prop:=∀(w:World) (v:Value) (ps:List (Value×Pt)) (pv:Value) (t:Tr) (a:Nat),KI w c S B->Thr B N0 c g x q6 q7 q11 q4 q12 w->kJ N0 q11 w v ps->N0≤w.heap.size->ps.length+(thr (aV x) l t a).length≤1000->a+4 ^ l≤64->Tr.Ok S l t->aU w B pv t.ptr->(∀i,pv.ownBlock=some i->i≠q11/\v.ownBlock≠some i) ->
 Calls prog 67 #[.agg (dN pv t.ptr (a:Int)).toArray,.int .i64 (l:Int),.pointer q6,.pointer q7,.pointer q11,.pointer q4,.pointer q12] w (rH N0 q11 x l t a v ps w)
theorem Loc.onto{S:Nat->Prop}{i:World}{l:List (Nat×Array Value×TypeId)}(h:Loc aB B i w l)(k:aA S w w')(j:∀x∈l,¬S x.1):Loc S B i w' l:=
 ⟨h.keep.trans' k (fun _ _ e=>e.elim) (fun _ _ e=>e),h.ge,h.nd,fun x d=>k.blk (h.at_ x d) (j x d),h.ap⟩
theorem Fm(h:t.isHole=false)(d:f t.ptr=true):thr f (l+1) t a=(t.ptr,a)::(List.range 4).flatMap fun i=>thr f l (t.kid i) (a+i*4 ^ l):=by
 rw[eR,h,d];rfl
structure vL(w:World)(B:Nat->Prop)(S:Kor)(c N0 g q6 q7 q11 q4 q12:Nat)(x:Int)(b7 b12 l:Nat)(t:Tr)(a:Nat)(pv v:Value)(ps:List (Value×Pt))(vs:Nat->Value)(k:Nat)(wr:World)(vk:Value)(qs:List (Value×Pt)):Prop where
 ki:KI wr c S B
 th:Thr B N0 c g x q6 q7 q11 q4 q12 wr
 out:kJ N0 q11 wr vk (ps++qs)
 eq:qs.map (·.2)=((t.ptr,a)::(List.range k).flatMap fun i=>thr (aV x) l (t.kid i) (a+i*4 ^ l)).map (·.1)
 old:bL wr B vs (fun i=>(t.kid i).ptr)
 off:∀q,q<4->∀i,(vs q).ownBlock=some i->i≠q11/\vk.ownBlock≠some i
 h7:wr.heap[b7]?=some (.cells (dN pv t.ptr (a:Int)).toArray 80 (0,0))
 h12:wr.heap[b12]?=some (.cells (bS ((l+1:Nat):Int) vs (fun i=>(t.kid i).ptr)).toArray 89 (0,0))
 own:∀i,vk.ownBlock=some i->(v.ownBlock=some i\/w.heap.size≤i)/\i≠b7/\i≠b12
 ge:N0≤b7/\N0≤b12/\N0≤w.heap.size
 keep:aA (fun i=>i=q11\/v.ownBlock=some i) w wr
theorem vL.len{wr:World}
 (h:vL w B S c N0 g q6 q7 q11 q4 q12 x b7 b12 l t a pv v ps vs k wr vk qs) (o:k<4) (n:ps.length+(thr (aV x) (l+1) t a).length≤1000) (m:t.isHole=false) (j:aV x t.ptr=true):(ps++qs).length+(thr (aV x) l (t.kid k) (a+k*4 ^ l)).length≤1000:=by
 have e:=congrArg List.length h.eq;rw[List.length_map,List.length_map,List.length_cons] at e;rw[Fm m j,List.length_cons] at n
 have d:((List.range (k+1)).flatMap fun i=>thr (aV x) l (t.kid i) (a+i*4 ^ l)).length≤((List.range 4).flatMap fun i=>thr (aV x) l (t.kid i) (a+i*4 ^ l)).length:=by
  have:∃r,(List.range 4)=List.range (k+1)++r:=by
   have:k=0\/k=1\/k=2\/k=3:=by omega
   rcases this with rfl|rfl|rfl|rfl<;>exact⟨_,rfl⟩
  obtain⟨r,e⟩:=this;rw[e,List.flatMap_append,List.length_append];omega
 rw[List.range_succ,List.flatMap_append,List.length_append] at d;simp only[List.flatMap_cons,List.flatMap_nil,List.append_nil] at d;rw[List.length_append];omega
theorem vL.step{wr:World}
 (h:vL w B S c N0 g q6 q7 q11 q4 q12 x b7 b12 l t a pv v ps vs k wr vk qs) (F:∀i,B i->i<N0) (s:aA aB wr w1) (I:rH N0 q11 x l (t.kid k) (a+k*4 ^ l) vk (ps++qs) w1 e w2):e=.returned (.int .i64 0)/\aA (fun i=>i=q11\/vk.ownBlock=some i) w1 w2/\∃y u,vL w B S c N0 g q6 q7 q11 q4 q12 x b7 b12 l t a pv v ps vs (k+1) w2 y u:=by
 obtain⟨y,K,G,J,m,D,C⟩:=I;have n:∀i,vk.ownBlock=some i->N0≤i:=fun i d=>aW h.out.row d
 have h11:=h.th.l11;have j:aA (fun i=>i=q11\/vk.ownBlock=some i) wr w2:=s.trans' C (fun _ _ h=>h.elim) (fun _ _ h=>h);have r:∀i,(∃q,q<4/\(vs q).ownBlock=some i)->i<wr.heap.size:=fun i ⟨q,m,d⟩=>((h.old q m).off i d).2.lt
 have E:=lt_of_block h.h7;have z:=lt_of_block h.h12;have H:=h.ge
 have o:∀q,q<4->∀i,(vs q).ownBlock=some i->¬(i=q11\/vk.ownBlock=some i):=fun q m i d e=>by
  have:=h.off q m i d;exact e.elim this.1 this.2
 refine⟨G,C,y,qs++K,h.ki.keepT j fun i d A=>?_,h.th.keep j fun i d=>d.imp id (n i),by rw[←List.append_assoc];exact J,?_,h.old.keepT j o,fun q m i d=>⟨(h.off q m i d).1,fun e=>?_⟩,j.blk h.h7 fun e=>?_,j.blk h.h12 fun e=>?_,fun i d=>?_,H,h.keep.tT j fun i d e=>?_⟩
 ·rcases d with rfl|d
  ·exact h11.2 A
  ·have:=n i d;have:=F i A;omega
 ·rw[List.map_append,h.eq,m,←List.map_append,List.range_succ,List.flatMap_append]
  simp only[List.flatMap_cons,List.flatMap_nil,List.append_nil,List.cons_append]
 ·rcases D i e with e|e
  ·exact(h.off q m i d).2 e
  ·have:=r i ⟨q,m,d⟩;have:=s.size;omega
 ·rcases e with e|e
  ·omega
  ·exact(h.own _ e).2.1 rfl
 ·rcases e with e|e
  ·omega
  ·exact(h.own _ e).2.2 rfl
 ·rcases D i d with e|e
  ·exact h.own i e
  ·have:=s.size;have:=h.keep.size
   exact⟨.inr (by omega),by omega,by omega⟩
 ·rcases e with e|e
  ·exact .inl e
  ·exact(h.own i e).1.elim .inr fun e=>absurd d (by omega)
theorem vL.fin{wr:World}
 (h:vL w B S c N0 g q6 q7 q11 q4 q12 x b7 b12 l t a pv v ps vs 4 wr vk qs) (j:t.isHole=false) (d:aV x t.ptr=true) (k:aA aB wr w'):rH N0 q11 x (l+1) t a v ps w (.returned (.int .i64 0)) w':=
 ⟨vk,qs,rfl,h.out.keep0 k,by rw[Fm j d];exact h.eq,fun i m=>(h.own i m).1,h.keep.tT k (fun _ _ e=>e.elim)⟩
theorem Jl{a:Int}{t:TypeId}(d:p.sum.length=32)(h:w.heap[b]?=some (.cells (dN v p a).toArray t fr)):w.cell? ⟨b,35,none⟩=some (.int .i64 a):=
 aC h (by
  rw[List.getElem?_toArray];unfold dN;rw[List.getElem?_append_right (by rw[aF d];exact Nat.le_refl _),aF d];rfl)
theorem ND(f:Nat->Value)(a:Int):prog.built 80 [(0,.agg ((List.range 35).map f).toArray),(1,.int .i64 a)]=some ((List.range 35).map f++[Value.int .i64 a]).toArray:=by kernel_rfl
theorem yK(d:List Value)(h:d.length=35):d=(List.range 35).map fun i=>d.getD i undef:=by
 apply List.ext_getElem?;intro i;rw[List.getElem?_map]
 by_cases j:i<35
 ·rw[List.getElem?_range j,List.getElem?_eq_getElem (by omega)]
  simp[List.getD,List.getElem?_eq_getElem (show i<d.length by omega)]
 ·rw[List.getElem?_eq_none (by omega),List.getElem?_eq_none (by simp;omega)];rfl
theorem He(v:Value)(p:Pt)(a:Int)(d:p.sum.length=32)(w:World):(Instr.build 80 #[(0,.agg (aE v p).toArray),(1,.int .i64 a)]).run prog w=.ok (.agg (dN v p a).toArray) w:=by
 refine run_build w 80 _ _ ?_;unfold dN;rw[yK (aE v p) (aF d)];exact ND _ _
theorem Fo(hK:KI w c S B)(x5:l≤2)(IH:Ql B S c N0 g q6 q7 q11 q4 q12 x l)(hB:∀i,B i->i<N0)(hT:Thr B N0 c g x q6 q7 q11 q4 q12 w)(hO:kJ N0 q11 w v ps)(hN:N0≤w.heap.size)(pv:Value)(t:Tr)(a:Nat)(xe:ps.length+(thr (aV x) (l+1) t a).length≤1000)(ha:a+4 ^ (l+1)≤64)(ht:Tr.Ok S (l+1) t)(hp:aU w B pv t.ptr)(xd:∀i,pv.ownBlock=some i->i≠q11/\v.ownBlock≠some i)(zh:t.ptr.addrs.length≤65536)(hh:t.isHole=false)(hn:decide (x<t.ptr.birth)=true):Calls prog 67 #[.agg (dN pv t.ptr (a:Int)).toArray,.int .i64 ((l+1:Nat):Int),.pointer q6,.pointer q7,.pointer q11,.pointer q4,.pointer q12] w (rH N0 q11 x (l+1) t a v ps w):=by
 have za:t.ptr.hole=false:=by rw[ht.hole_eq,hh]
 have xj:=O IH;have zm:=O hB;have z1:=O ht;have zw:=O xe;have HA:=O ha;have zv:=O xd;have qj:Hid (t.isHole=false/\aV x t.ptr=true):=O ⟨hh,hn⟩;have qv:ps.length≤1000:=by omega
 have s:=O hT;have D:=O hO;have zl:=O (fun i (e:B i)=>hK.lt e);have J:=O hN;have xw:=O qv;have j:=O hK;have qu:Hid (∀i,v.ownBlock=some i->i<w.heap.size):=O fun i y=>by (obtain⟨cur,hc⟩:=aJ hO.row y;exact lt_of_block hc)
 obtain⟨p,zg⟩:=zX9 t.ptr
 have qd:=O zg;rw[zg] at hp za hn zh ⊢;have o:=O hp;have xi:=O za;have xp:=O hn;have xv:=O zh;have xz:=O hp.pt.sum;have ql:=aF (v:=pv) hp.pt.sum;have qq:=aL hp.pt;have xa:=kH (v:=pv) (a:=(a:Int)) hp.pt.sum;have qp:=kI (a:=(a:Int)) hp.pt;obtain⟨pc,P⟩:=zX9 (aE pv p)
 obtain⟨lc,M⟩:=zX9 (dN pv p (a:Int))
 have vd:Hid (∀u∈pc,u.oneCell'=true):=O (by rw[←P];exact qq);have vc:Hid (∀u∈lc,u.oneCell'=true):=O (by rw[←M];exact qp);have U:=O P;have qb:=O M;rw[P] at ql;rw[M] at xa ⊢;have vn:(0:Int)≤((l+1:Nat):Int):=by omega
 have vo:(((l:Int)+1) == 0)=false:=by rw[beq_eq_false_iff_ne];omega
 clear qq qp P M hp hT hO hh za hn hN xe zh zg hK IH hB ht ha xd qv;have m:=lN w;go_in
 go_wp2_with refine bxM m (lc.toArray) ?_
 intro b7 w1 d m;replace o:=pK o d;replace s:=O (s.keep d fun _ e=>e.elim);replace D:=O (D.keep0 d);replace j:=O (KI.keep0 j.out d);clear d
 go_wp2_with ((with_reducible show WL _ _);refine ldP b7 0 pc (by have h:=m.b 0;rw[←qb.out] at h;rw[←U.out];exact eQ h) ql ?_)
 refine((by rw[←U.out];exact bK w1 pv p o.pt:Ka w1 (aN w1 p.hole))).mono ?_;rintro e w2 ⟨rfl,d⟩;replace m:=kL m d;replace o:=pK o d;replace s:=O (s.keep d fun _ e=>e.elim);replace D:=O (D.keep0 d);replace j:=O (KI.keep0 j.out d);clear d;rw[xi.out];have c1:w2.cell? ⟨q6,0,none⟩=some (nwV g):=(cell_of_one s.c6)
 go_wp2_with ((with_reducible show WL _ _);refine aK (by rfl) 30 (.tmp 20) rfl b7 0 rfl pc _ (by have h:=m.b 0;rw[←qb.out] at h;rw[←U.out];exact eQ h) aI rfl (szP9 ql) ?_)
 clear c1;refine((by rw[←U.out];exact kZ s.cg pv p o.pt:Ka w2 (aN w2 (decide (x<p.birth))))).mono ?_;rintro e w3 ⟨rfl,d⟩;replace m:=kL m d;replace o:=pK o d;replace s:=O (s.keep d fun _ e=>e.elim);replace D:=O (D.keep0 d);replace j:=O (KI.keep0 j.out d);clear d;rw[xp.out];have c1:w3.cell? ⟨q7,0,none⟩=some (owV):=(cell_of_one s.c7)
 go_wp2_with ((with_reducible show WL _ _);refine ldR (m.b 0) underlying80 (by rw[xa];exact yJ) ?_)
 clear c1;have x1:=O m.keep.size;refine((by rw[←qb.out];exact Fi (B:=B) (fun k d=>Nat.lt_of_lt_of_le (zl k d) m.keep.size) pv p o.pt xv.out (a:Int):Ka w3 (vK w3 B p))).mono ?_;rintro e w4 ⟨v1,rfl,Q,qh,d⟩;have X:Hid (PtV w4 v1 p):=O Q.pt;have C:Hid (∀i,v1.ownBlock=some i->N0≤i/\v.ownBlock≠some i/\IsC w4 i):=O (fun i y=>⟨by have F:=qh i y;have h2:=J.out;have h3:=x1.out;omega,fun e=>by (obtain⟨cur,hc⟩:=aJ D.row e;have F:=lt_of_block hc;have h2:=qh i y;omega),(Q.off i y).2⟩);obtain⟨rc,zz,qi,zu⟩:=nmPt Q.pt;rw[zz.out];clear Q qh;replace m:=kL m d;replace o:=pK o d;replace s:=O (s.keep d fun _ e=>e.elim);replace D:=O (D.keep0 d);replace j:=O (KI.keep0 j.out d);clear d
 go_wp2_with refine alW aZ qi aG (szP9 qi) zu.out ?_
 intro vg w6 E d hb
 replace m:=lW m E d hb;replace o:=pK o d;replace s:=O (s.keep d fun _ e=>e.elim);replace D:=O (D.keep0 d);replace j:=O (KI.keep0 j.out d);replace X:=O (X.keep d fun _ _=>id);replace C:=O (fun i y=>And.intro (C i y).1 (And.intro (C i y).2.1 ((C i y).2.2.keep d id)));clear E d hb;have c1:w6.cell? ⟨q11,0,none⟩=some (v):=(cell_of_one D.cell)
 go_wp2_with ((with_reducible show WL _ _);first
  | refine ldQ (m.b 0) qi ?_
  | refine bsA 40 30 (.tmp 33) underlying40 lK (by omega) rc qi (by omega) ?_)
 clear c1;intro z6 w7 E d hb;have z0:Hid (Rd w7 35 (.slice z6 1 1) 1 rc):=O (dX (n:=1) (size:=35) hb (by rw[qi]) (by unfold maxLen;omega));replace m:=lW m E d hb;replace o:=pK o d;replace s:=O (s.keep d fun _ e=>e.elim);replace D:=O (D.keep0 d);replace j:=O (KI.keep0 j.out d);replace X:=O (X.keep d fun _ _=>id);replace C:=O (fun i y=>And.intro (C i y).1 (And.intro (C i y).2.1 ((C i y).2.2.keep d id)));clear E d hb;have xl:=O (show N0≤w7.heap.size from Nat.le_trans J.out m.keep.size);have qt:Hid (ps.length+1≤maxLen/\(ps.length+1)*72≤140737488355328):=O (by have:=xw.out;unfold maxLen;omega)
 go_wp2_with (at_builtin;refine aM rfl (.tmp 32) (.tmp 34) 40 rfl N0 30 (.agg aX.toArray) 35 72 underlying40 lK rfl (by decide) v ps.length (ps.flatMap fun x=>aE x.1 x.2) rfl D.row (.slice z6 1 1) 1 rc rfl z0.out zu.out qt.1 qt.2 xl.out ?_)
 intro v2 w8 zf zb x6 z9;obtain⟨g2,c2,rfl,-,-⟩:=(Rd.of_owns zf).form;have zj:=O (zb.blk D.cell fun e=>by have F:=aW D.row e;have h2:=s.l11.1;omega);have zr:=O zf;have qy:=O zb;have qw:=O z9;have xk:=O m.keep;have zk:=O (m.lt 2);have zt:=O (fun i (y:v.ownBlock=some i)=>(aW D.row y:N0≤i));clear zf zb x6 z9 z0
 go_wp2_with ((with_reducible show WL _ (.store 40 _ _));refine stV (.slice g2 (ps.length+1) c2) zj.out ?_)
 intro w9 d hb;have Z:aA (fun i=>i=q11\/v.ownBlock=some i) w7 w9:=qy.trans' d (fun i _ e=>.inr e) (fun i _ e=>.inl e);have I:Hid (kJ N0 q11 w9 (.slice g2 (ps.length+1) c2) (ps++[(v1,p)])):=O (D.grow s.l11.1 X.out C.out (by rw[zz.out];exact zr.out) qy.out qw.out d hb)
 have x7:∀i,w.heap.size≤i->¬(i=q11\/v.ownBlock=some i):=fun i y e=>by
  rcases e with rfl|e
  ·have F:=s.l11.1;have h2:=J.out;omega
  ·have F:=qu.out i e;omega
 replace m:=O (m.onto Z (fun z hz=>x7 _ (m.ge z hz)));replace s:=O (s.keep Z fun i e=>e.imp id (zt i));replace j:=O (j.keepT Z fun i e z7=>e.elim (fun e=>s.l11.2 (e▸z7)) fun e=>by (have F:=zt.out i e;have h2:=zm.out i z7;omega));replace o:=O (o.keepT Z fun i y e=>e.elim (zv i y).1 (zv i y).2)
 have z3:Hid (∀i,(Value.slice g2 (ps.length+1) c2).ownBlock=some i->v.ownBlock=some i\/i=w7.heap.size):=O (fun i y=>by
  rcases qw.out with e|e
  ·exact .inl (e▸y)
  ·rw[e] at y;injection y with y;exact .inr y.symm)
 have xy:=O (And.intro xk.size (And.intro Z.size (m.lt 2)));obtain⟨v2,xg⟩:=zX9 (Value.slice g2 (ps.length+1) c2)
 rw[xg] at I z3;clear Z d hb qy zr zj D X C qw xg;have c1:w9.cell? ⟨q4,0,none⟩=some (.pointer c):=(cell_of_one s.c4)
 go_wp2_with ((with_reducible show WL _ _);refine ldP b7 0 pc (by have h:=m.b 2;rw[←qb.out] at h;rw[←U.out];exact eQ h) ql ?_)
 clear c1;have xm:=O m.keep.size;have zx:Hid (∀i,v2.ownBlock=some i->i<w9.heap.size):=O fun i y=>by (obtain⟨cur,hc⟩:=aJ I.row y;exact lt_of_block hc)
 refine((by rw[←U.out,←qd.out];exact sB j.out x5 pv t z1.out (by rw[qd.out];exact o.pt):Ka w9 (eE w9 B l t))).mono ?_;rintro e w8 ⟨vs,rfl,qm,qg,d⟩;have K:=O qm;have x3:=O d.size;have xr:Hid (∀q,q<4->∀i,(vs q).ownBlock=some i->i≠q11/\v2.ownBlock≠some i):=O (fun q hq i y=>⟨fun e=>by (have F:=qg q hq i y;have h2:=xm.out;have h3:=s.l11.1;have h4:=J.out;omega),fun e=>by (have F:=qg q hq i y;have h2:=zx.out i e;omega)⟩);have ze:=cP ((l+1:Nat):Int) vs qm.nv;have qo:=cQ ((l+1:Nat):Int) qm.nv;obtain⟨nn,N⟩:=zX9 (bS ((l+1:Nat):Int) vs (fun i=>(t.kid i).ptr))
 have xu:Hid (∀u∈nn,u.oneCell'=true):=O (by rw[←N];exact qo);have xq:=O N;rw[N] at ze ⊢;clear qo N qm qg;replace m:=kL m d;replace o:=pK o d;replace s:=O (s.keep d fun _ e=>e.elim);replace I:=O (I.keep0 d);replace j:=O (KI.keep0 j.out d);clear d
 go_wp2_with ((with_reducible show WL _ _);refine alW gV ze cW (by rw[ze];exact cU) xu.out ?_)
 intro b12 wa E d hb
 have qz:=O (show w8.heap.size≤b12 from Nat.le_of_eq E);replace m:=lW m E d hb;replace o:=pK o d;replace s:=O (s.keep d fun _ e=>e.elim);replace I:=O (I.keep0 d);replace j:=O (KI.keep0 j.out d);replace K:=O (bL.keep0 K.out d);clear E d hb;go_wp2_with fail
 have x0:Hid (∃vk qs,vL w B S c N0 g q6 q7 q11 q4 q12 x b7 b12 l t a pv v ps vs 0 wa vk qs):=O ⟨v2,[(v1,p)],j.out,s.out,I.out,by rw[qd.out];rfl,K.out,xr.out,by (have h:=m.b 3;rw[←qb.out] at h;rw[qd.out];exact h),by (have h:=m.b 0;rw[←xq.out] at h;exact h),fun i y=>by
  have h7:=zk.out;have hs:=xy.out;have h12:=m.lt 0;have hq:=zx.out i y;have x8:=qz.out;have vp:=x3.out;rcases z3.out i y with e|e
  ·have F:=qu.out i e
   exact⟨.inl e,by omega,by omega⟩
  ·exact⟨.inr (by omega),by omega,by omega⟩,⟨by have F:=(m.lt 3).1;have h2:=J.out;omega,by have F:=(m.lt 0).1;have h2:=J.out;omega,J.out⟩,m.keep⟩
 clear m j o s I K
 go_loopw [13,14] (fun e i wr=>∃k:Nat,k≤4/\e=.int .i64 0/\i=.int .i64 (k:Int)/\Hid (∃vk qs,vL w B S c N0 g q6 q7 q11 q4 q12 x b7 b12 l t a pv v ps vs k wr vk qs)) (fun _ i _=>4-(intOf i).toNat)
 case atStart=>exact⟨0,by omega,rfl,rfl,x0⟩
 case round =>
  obtain⟨k,d,rfl,rfl,qx⟩:=hrel;obtain⟨vk,qs,r⟩:=qx.out
  by_cases qe:k<4
  ·have vj:(0:Int)≤(k:Int):=by omega
   have vm:(k:Int)<4:=by omega
   have j:=O r.ki;have s:=O r.th;have I:=O r.out;have A:=O (r.old k qe);have zn:=O r;have xf:=aF (v:=vs k) A.pt.sum;have qr:=aL A.pt;have q1:=kD r.old.nv (aD r.h12) qe;obtain⟨qc,H⟩:=zX9 (aE (vs k) ((t.kid k).ptr))
   have ve:Hid (∀u∈qc,u.oneCell'=true):=O (by rw[←H];exact qr);have vf:=O H;rw[H] at xf q1;have HX:=O q1;have R:=O (Jl (by rw[qd.out];exact xz.out) r.h7);obtain⟨W,hW⟩:∃W:Nat,4 ^ l=W:=⟨_,rfl⟩
   have x9:W≤16/\1≤W:=by
    have:l=0\/l=1\/l=2:=by omega
    rcases this with rfl|rfl|rfl<;>omega
   have HW:=O hW;obtain⟨kw,qf⟩:∃q:Nat,k*W=q:=⟨_,rfl⟩
   have x4:kw+W≤4*W:=by rw[←qf];have F:=Nat.mul_le_mul_right W (show k+1≤4 by omega);rw[Nat.succ_mul] at F;exact F
   have va:(k:Int)*(W:Int)=(kw:Int):=by rw[←qf];push_cast;rfl
   have vi:a+4*W≤64:=by have F:=HA.out;rw[Nat.pow_succ,hW] at F;omega
   obtain⟨ak,q5⟩:=zX9 (a+kw)
   have zp:Hid (a+k*4 ^ l=ak):=O (by rw[hW,qf,q5]);have vh:(a:Int)+(kw:Int)=(ak:Int):=by omega
   have qk:Hid ((∀i,(vs k).ownBlock=some i->i≠q11/\vk.ownBlock≠some i)/\(ps++qs).length+(thr (aV x) l (t.kid k) ak).length≤1000/\ak+4 ^ l≤64/\N0≤wr.heap.size):=O ⟨r.off k qe,by rw[←q5,←qf,←hW];exact r.len qe zw.out qj.1 qj.2,by rw[hW];omega,by have F:=r.ge;have h2:=r.keep.size;omega⟩;have x2:=O (z1.kid qe);have m:=lN wr
   have qa:Hid (¬(b12=q11\/vk.ownBlock=some b12)/\¬(b7=q11\/vk.ownBlock=some b7)/\¬(q12=q11\/vk.ownBlock=some q12)):=O (by
    have F:=r.ge;have h2:=r.th.l11.1;have h3:=r.th.lt q12 (.inr (.inr (.inr (.inr rfl))));refine⟨fun e=>e.elim (fun e=>by omega) fun e=>(r.own _ e).2.2 rfl,fun e=>e.elim (fun e=>by omega) fun e=>(r.own _ e).2.1 rfl,fun e=>e.elim (fun e=>by omega) fun e=>?_⟩;have h4:=aW r.out.row e;omega)
   have q9:=He (vs k) (t.kid k).ptr (ak:Int) A.pt.sum;obtain⟨mc,zd⟩:=zX9 (dN (vs k) (t.kid k).ptr (ak:Int))
   have xo:=O zd;rw[zd,H] at q9;have xh:=O q9;clear H qr q1 r qx hW qf zd q9 q5;go_wp2_with fail;refine dwA (fun i=>i=q11\/vk.ownBlock=some i) (by kernel_rfl) ?_;intro wc S V q0 L G;replace m:=kL m G;replace j:=O (KI.keep0 j.out G);replace s:=O (s.keep G fun _ e=>e.elim);replace I:=O (I.keep0 G);replace HX:=O (G.rangeAt HX.out);replace A:=pK A G;replace R:=O (G.cell R.out id);clear G;have xn:=m;have zo:=j;have z2:=s;have xx:=I;have z5:=HX;have zy:=A;have qn:=R;refine tnd 0 (dnV q6 q7 q11 q4 q12) rfl (.inl ⟨by rfl,fun w' zi=>by have c:World.cell? w' ⟨q12,0,none⟩=some (dnV q6 q7 q11 q4 q12):=(V w' zi).cell (cell_of_one z2.c12) qa.2.2;go_simp⟩) L ?_;refine tna 1 (.int .i64 (k:Int)) rfl L ?_;refine tnb 2 (.pointer (some ⟨b12,1,none⟩)) rfl L ?_;refine tnd 3 (.pointer (some ⟨b12,1+k*35,none⟩)) rfl (.inl ⟨by rfl,fun _ _=>by go_simp<;>omega⟩) L ?_;refine tnd 4 (.agg qc.toArray) rfl (yieldsIf_load_mid (by rfl) 30 (.tmp 57) rfl b12 (1+k*35) rfl qc _ (fun w' h=>(V w' h).rangeAt2 z5.out qa.1) aI rfl (szP9 xf)) L ?_;refine tnb 5 (.pointer (some ⟨b7,35,none⟩)) rfl L ?_;refine tnd 6 (.int .i64 (a:Int)) rfl (.inl ⟨by rfl,fun w' zi=>by have c:World.cell? w' ⟨b7,35,none⟩=some (.int .i64 (a:Int)):=(V w' zi).cell qn.out qa.2.1;go_simp⟩) L ?_;refine tna 7 (.int .i64 (k:Int)) rfl L ?_;refine tna 8 (.int .i64 ((l+1:Nat):Int)) rfl L ?_;refine tnd 9 (.int .i64 (l:Int)) rfl (.inl ⟨by rfl,fun _ _=>by go_simp;exact IntWalk.i64_in _ (by omega)⟩) L ?_;refine tna 14 (.int .i64 ((l+1:Nat):Int)) rfl L ?_;refine tnd 15 (.int .i64 (l:Int)) rfl (.inl ⟨by rfl,fun _ _=>by go_simp;exact IntWalk.i64_in _ (by omega)⟩) L ?_;refine wA9 10 ?_;go_wp2_with fail;refine((by rw[←HW.out];exact vJ wc l (by omega):Ka wc (aH wc (.int .i64 (W:Int))))).mono ?_;rintro e wd ⟨rfl,d⟩;have Y:=q0.out _ ((V _ L).trans d.any);replace m:=kL m d;replace j:=O (KI.keep0 j.out d);replace s:=O (s.keep d fun _ e=>e.elim);replace I:=O (I.keep0 d);replace HX:=O (d.rangeAt HX.out);replace A:=pK A d;replace R:=O (d.cell R.out id);clear L d;go_wp2_with fail;refine⟨Y,?_⟩;refine tnd 11 (.int .i64 (kw:Int)) rfl (.inl ⟨by rfl,fun _ _=>by go_simp;exact IntWalk.i64_in _ (by omega)⟩) Y ?_;refine tnd 12 (.int .i64 (ak:Int)) rfl (.inl ⟨by rfl,fun _ _=>by go_simp;exact IntWalk.i64_in _ (by omega)⟩) Y ?_;refine tnd 13 (.agg mc.toArray) rfl (fC 80 #[(0,.tmp 58),(1,.tmp 66)] [(0,.agg qc.toArray),(1,.int .i64 (ak:Int))] (.agg mc.toArray) xh.out) Y ?_;refine wA9 16 ?_;go_wp2_with fail;have zq:Hid (aA aB wr wd):=O m.keep;refine((by rw[←xo.out];exact xj.out wd vk (ps++qs) (vs k) (t.kid k) ak j.out s.out I.out (Nat.le_trans qk.2.2.2 m.keep.size) qk.2.1 qk.2.2.1 x2.out A.out qk.1:Ka wd (rH N0 q11 x l (t.kid k) ak vk (ps++qs) wd))).mono ?_;rintro e we hm;obtain⟨he,xb,xc⟩:=zn.step zm.out zq.out (by rw[zp.out];exact hm);subst he;have xt:=O xc;have q3:=q0.out _ ((V _ Y).trans xb);clear Y xb hm xc m j s HX A I R zq;go_wp2_with fail;refine⟨q3,?_⟩;refine tna 17 (.int .i64 0) rfl q3 ?_;refine wpAnyH_done (by kernel_rfl) ?_ _;clear q3 V q0 xn zo z2 xx z5 zy qn;clear zn;go_wp2
   go_roundw
   case rel=>exact⟨k+1,by omega,rfl,by go_num,xt⟩
   case measure=>simp[intOf];omega
  ·obtain rfl:k=4:=by omega
   have HP:=O (r.fin qj.1 qj.2 (aA.refl aB wr));clear r qx;go_wp2;go_ret;exact HP.out
theorem Qn:Hid (∀w,(zeroValue 139).run prog w=.ok .nilFunc w):=O fun w=>by kernel_rfl
theorem QV:Hid (∀w,(zeroValue 40).run prog w=.ok (.slice none 0 0) w):=O fun w=>by kernel_rfl
theorem Lu(f:Nat->Value):prog.built 80 [(0,.agg ((List.range 35).map f).toArray)]=some ((List.range 35).map f++[Value.int .i64 0]).toArray:=by kernel_rfl
theorem Fq(v:Value)(p:Pt)(d:p.sum.length=32)(w:World):(Instr.build 80 #[(0,.agg (aE v p).toArray)]).run prog w=.ok (.agg (dN v p 0).toArray) w:=by
 refine run_build w 80 _ _ ?_;unfold dN;rw[yK (aE v p) (aF d)];exact Lu _
theorem Tr.Ok.few(h:Tr.Ok S l t):t.ptr.addrs.length≤65536:=by
 have:=(iF h.pmay).1;omega
theorem NF(z:∀i,B i->i<N0):∀l,l≤3->Ql B S c N0 g q6 q7 q11 q4 q12 x l:=by
 intro l
 induction l with
 | zero =>
   intro A w v ps pv t a h m j u s y d n r;cases o:t.isHole with
   | true=>exact mS h m j pv t 0 a d n (.inl o)
   | false =>
     cases q:decide (x<t.ptr.birth) with
     | false=>exact mS h m j pv t 0 a d n (.inr q)
     | true=>exact Fl h m j u (by omega) pv t a n d.few o (by rw[d.hole_eq,o]) q
 | succ l C =>
   intro A w v ps pv t a h m j u s y d n r;cases o:t.isHole with
   | true=>exact mS h m j pv t (l+1) a d n (.inl o)
   | false =>
     cases q:decide (x<t.ptr.birth) with
     | false=>exact mS h m j pv t (l+1) a d n (.inr q)
     | true=>exact Fo h (by omega) (C (by omega)) z m j u pv t a s y d n r d.few o q
def dR(w:World)(ps:List Pt)(e:Ending)(w':World):Prop:=
 ∃(v:Value) (qs:List (Value×Pt)),e=.returned (.tuple #[v,.int .i64 0])/\qs.map (·.2)=ps/\w'.ownsRow w.heap.size 30 35 v ps.length (qs.flatMap fun x=>aE x.1 x.2)/\(∀x∈qs,PtV w' x.1 x.2/\∀i,x.1.ownBlock=some i->w.heap.size≤i/\v.ownBlock≠some i/\IsC w' i)/\aA aB w w'
theorem zM(hK:KI w c S B)(hg:w.heap[g]?=some (.cells #[.int .i64 x] 3 (0,0)))(pv:Value)(t:Tr)(ht:Tr.Ok S 3 t)(K:aU w B pv t.ptr)(hm:(thr (aV x) 3 t 0).length≤1000):Calls prog 25 #[.pointer c,.agg (aE pv t.ptr).toArray,nwV g,owV] w (dR w ((thr (aV x) 3 t 0).map (·.1))):=by
 have qi:=O ht;have HM:=O hm;have m:=O hK;have s:=O (fun i (e:B i)=>hK.lt e);have q:=O hg;have H:=O (lt_of_block hg);obtain⟨p,E⟩:=zX9 t.ptr
 have V:=O E;rw[E] at K ⊢;have o:=O K;have qh:Hid (p.root=true):=O (by rw[←E];exact ht.root);have D:=aF (v:=pv) K.pt.sum;have F:=aL K.pt;have C:=Fq pv p K.pt.sum;obtain⟨pc,r⟩:=zX9 (aE pv p)
 obtain⟨lc,A⟩:=zX9 (dN pv p 0)
 have qk:Hid (∀u∈pc,u.oneCell'=true):=O (by rw[←r];exact F);have qg:=O r;have qf:=O A;rw[r] at D C ⊢;rw[A] at C;have qe:=O C;have W:=O (fun i z=>(K.off i z).2.lt);clear F r A K ht hK E hg hm C;have d:=lN w;go_in
 go_wp2_with refine bxM d (#[.pointer c]) ?_
 intro b4 w1 j d;replace o:=pK o j;replace m:=O (KI.keep0 m.out j);replace q:=O (j.blk q.out id);clear j
 go_wp2_with refine bxM d (pc.toArray) ?_
 intro b5 w2 j d;replace o:=pK o j;replace m:=O (KI.keep0 m.out j);replace q:=O (j.blk q.out id);clear j
 go_wp2_with refine bxM d (#[nwV g]) ?_
 intro b6 w3 j d;replace o:=pK o j;replace m:=O (KI.keep0 m.out j);replace q:=O (j.blk q.out id);clear j
 go_wp2_with refine bxM d (#[owV]) ?_
 intro b7 w4 j d;replace o:=pK o j;replace m:=O (KI.keep0 m.out j);replace q:=O (j.blk q.out id);clear j;have c1:=cD d 3
 go_wp2_with ((with_reducible show WL _ _);first
  | refine ldQ (d.b 2) D ?_
  | refine bsA 40 30 (.tmp 15) underlying40 lK (by omega) pc D (by omega) ?_)
 clear c1;intro ql w5 qc j J;replace d:=lW d qc j J;replace o:=pK o j;replace m:=O (KI.keep0 m.out j);replace q:=O (j.blk q.out id);clear qc j J;go_wp2_with fail;refine((zL m.out pv p o.pt qh.out (by rw[qg.out];exact d.b 0):Ka w5 (aH w5 (.int .i64 0)))).mono ?_;rintro e w6 ⟨rfl,j⟩;replace d:=kL d j;replace o:=pK o j;replace m:=O (KI.keep0 m.out j);replace q:=O (j.blk q.out id);clear j
 go_wp2_with refine alS d QV ?_
 intro b11 w7 j d;replace o:=pK o j;replace m:=O (KI.keep0 m.out j);replace q:=O (j.blk q.out id);clear j
 go_wp2_with refine alS d Qn ?_
 intro b12 w8 j d;replace o:=pK o j;replace m:=O (KI.keep0 m.out j);replace q:=O (j.blk q.out id);clear j
 go_wp2_with refine stV (dnV b6 b7 b11 b4 b12) (d.b 0) ?_
 intro L j J;replace d:=O (d.set 0 j J);replace o:=O (o.keepT j fun i z e=>by have G:=W.out i z;have M:=(d.lt 0).1;omega);replace m:=O (m.keepT j fun i e J=>by have G:=s.out i J;have M:=(d.lt 0).1;omega);replace q:=O (j.blk q.out fun e=>by have G:=H.out;have M:=(d.lt 0).1;omega);clear j J;obtain⟨N0,qa⟩:=zX9 L.heap.size
 have qj:g<L.heap.size:=Nat.lt_of_lt_of_le H.out d.keep.size;have Z:∀i,B i->i<N0:=fun i e=>by have G:=s.out i e;have M:=d.keep.size;omega
 have qb:Thr B N0 c g x b6 b7 b11 b4 b12 L:=⟨q.out,d.b 4,d.b 3,d.b 6,d.b 0,fun i z=>by
  have g6:=d.lt 4;have g7:=d.lt 3;have g4:=d.lt 6;have qm:=d.lt 0;have Y:=d.lt 1;have gg:=H.out;have n6:b11≠b6:=bH d.nd (i:=4) rfl 1 (by decide) rfl;have n7:b11≠b7:=bH d.nd (i:=3) rfl 1 (by decide) rfl;have n4:b11≠b4:=bH d.nd (i:=6) rfl 1 (by decide) rfl;have qo:b11≠b12:=bH d.nd (i:=0) rfl 1 (by decide) rfl;rcases z with rfl|rfl|rfl|rfl|rfl<;>omega,⟨by have Y:=d.lt 1;omega,fun e=>by have G:=s.out _ e;have Y:=d.lt 1;omega⟩⟩
 have U:Hid (kJ N0 b11 L (.slice none 0 0) []):=O ⟨d.b 1,World.ownsRow_nil _ _ _ _,fun x hx=>by cases hx⟩;have HT:=O qb;have qd:=O Z;have I:=O qa;have X:Hid (∀i,pv.ownBlock=some i->i≠b11/\(Value.slice none 0 0).ownBlock≠some i):=O (fun i z=>⟨fun e=>by have G:=W.out i z;have M:=(d.lt 1).1;omega,fun e=>by cases e⟩);clear qj Z qb qa;have Q:=O d.keep.size;have c1:=cD d 0
 go_wp2_with ((with_reducible show WL _ _);first
  | refine ldQ (d.b 5) D ?_
  | refine bld 80 #[(0,.tmp 23)] [(0,.agg pc.toArray)] (.agg lc.toArray) qe.out ?_)
 clear c1;have R:Hid (w.heap.size≤N0):=O (by have G:=I.out;have M:=Q.out;omega);refine((by rw[←qf.out,←V.out];exact NF qd.out 3 (by omega) L (.slice none 0 0) [] pv t 0 m.out HT.out U.out (by have G:=I.out;have M:=d.keep.size;omega) (by rw[List.length_nil,Nat.zero_add];exact HM.out) (by decide) qi.out (by rw[V.out];exact o.out) X.out:Ka L (rH N0 b11 x 3 t 0 (.slice none 0 0) [] L))).mono ?_;rintro e wa ⟨v,qs,rfl,N,hq,-,j⟩;have P:=O (cell_of_one N.cell)
 have HP:Hid (dR w ((thr (aV x) 3 t 0).map (·.1)) (.returned (.tuple #[v,.int .i64 0])) wa):=O (by
  have qn:=d.keep.size;have hn:=I.out;have hr:=N.row;rw[List.nil_append] at hr;refine⟨v,qs,rfl,hq,?_,fun y hy=>⟨(N.at_ y hy).1,fun i z=>⟨?_,((N.at_ y hy).2 i z).2⟩⟩,d.keep.tT j (fun i z e=>?_)⟩
  ·rw[←hq,List.length_map]
   exact bA hr R.out
  ·exact Nat.le_trans R.out ((N.at_ y hy).2 i z).1
  ·rcases e with e|e
   ·have G:=(d.lt 1).1;omega
   ·cases e)
 clear d HT U m o N hq j;have c1:wa.cell? ⟨b11,0,none⟩=some (v):=P.out;go_wp2_with fail;clear c1
 go_ret2
 exact HP.out
theorem yL(h:Tr.Ok S 3 t):(thr (aV x) 3 t 0).length≤1000:=by
 have q:∀{l:Nat}{t:Tr}{a:Nat},(thr (aV x) l t a).length≤2*4 ^ l-1:=by
  intro l
  induction l with
  | zero=>intro t a;rw[fF];split<;>simp
  | succ l d =>
    intro t a;rw[eR];split
    ·simp
    ·have h0:=d (t:=t.kid 0) (a:=a+0*4 ^ l);have i:=d (t:=t.kid 1) (a:=a+1*4 ^ l);have j:=d (t:=t.kid 2) (a:=a+2*4 ^ l);have m:=d (t:=t.kid 3) (a:=a+3*4 ^ l)
     rw[List.length_cons,show List.range 4=[0,1,2,3] from rfl];simp only[List.flatMap_cons,List.flatMap_nil,List.append_nil,List.length_append];have n:0<4 ^ l:=Nat.pos_of_ne_zero (by simp);rw[Nat.pow_succ];omega
 have:=q (l:=3) (t:=t) (a:=0);omega
theorem rI(V:KI w c S B)(pv:Value)(t:Tr)(Q:Tr.Ok S 3 t)(K:aU w B pv t.ptr):Calls prog 8 #[.pointer c,.agg (aE pv t.ptr).toArray] w (dR w (cR 3 t)):=by
 have I:=O Q;have L:Hid ((thr (aV 0) 3 t 0).map (·.1)=cR 3 t):=O (by rw[vO Q];rfl);have d:=O V;obtain⟨p,A⟩:=zX9 t.ptr
 have G:=O A;rw[A] at K ⊢;have j:=O K;obtain⟨U,F,N,Z⟩:=nmPt K.pt;rw[F.out];clear K Q V A;have o:=lN w;go_in
 go_wp2_with refine bxM o (U.toArray) ?_
 intro b3 w1 n o;replace j:=pK j n;replace d:=O (KI.keep0 d.out n);clear n;go_wp2_with fail;refine dwA aB (by kernel_rfl) ?_;intro w2 S q u J s;replace o:=kL o s;replace j:=pK j s;replace d:=O (KI.keep0 d.out s);clear s;have E:=o;have H:=j;have D:=d;refine tna 0 (.pointer c) rfl J ?_;refine tnd 1 (.agg U.toArray) rfl (yieldsIf_load_mid (by rfl) 30 (.tmp 3) rfl b3 0 rfl U _ (fun w' h=>aD ((q w' h).blk (E.b 0) id)) aI rfl (szP9 N)) J ?_;refine wA9 2 ?_;go_wp2_with fail;refine((sC w2 0)).mono ?_;rintro e Y ⟨g,rfl,W,-,n⟩;have C:=O W;clear W;have z:=u.out _ ((q _ J).trans n);replace o:=kL o n;replace j:=pK j n;replace d:=O (KI.keep0 d.out n);clear J n;go_wp2_with fail;refine⟨z,?_⟩;refine wA9 3 ?_;go_wp2_with fail;refine((by rw[←F.out,←G.out];exact zM d.out C.out pv t I.out (by rw[G.out];exact j.out) (yL I.out):Ka Y (dR Y ((thr (aV 0) 3 t 0).map (·.1))))).mono ?_;rintro e w4 ⟨v,qs,rfl,P,M,r,n⟩
 have HP:Hid (dR w (cR 3 t) (.returned (.tuple #[v,.int .i64 0])) w4):=O (by
  rw[L.out] at P M;exact⟨v,qs,rfl,P,bA M o.keep.size,fun y R=>⟨(r y R).1,fun i X=>⟨Nat.le_trans o.keep.size ((r y R).2 i X).1,((r y R).2 i X).2⟩⟩,o.keep.trans n⟩)
 have m:=u.out _ ((q _ z).trans n);clear z n P M r o d j C;go_wp2_with fail;refine⟨m,?_⟩;refine tnb 4 v rfl m ?_;refine tnb 5 (.int .i64 0) rfl m ?_;refine tna 6 v rfl m ?_;refine tna 7 (.int .i64 0) rfl m ?_;refine wpAnyH_done (by kernel_rfl) ?_ _;clear m q u E H D;go_wp2
 go_ret2
 exact HP.out
abbrev bkV:Value:=.func (.func 34) #[] #[]
abbrev dbV(b6 b7 b11 b4 b12:Nat):Value:=.func (.func 75) #[] #[.pointer b6,.pointer b7,.pointer b11,.pointer b4,.pointer b12]
def bks(f:Pt->Bool):Nat->Tr->Nat->List Nat
 | 0,t,a=>if t.isHole || !f t.ptr then [] else [a]
 | l+1,t,a=>if t.isHole || !f t.ptr then [] else (List.range 4).flatMap fun i=>bks f l (t.kid i) (a+i*4 ^ l)
theorem vP(f:Pt->Bool)(t:Tr)(a:Nat):bks f 0 t a=if t.isHole || !f t.ptr then [] else [a]:=rfl
theorem vQ(f:Pt->Bool)(l:Nat)(t:Tr)(a:Nat):bks f (l+1) t a=if t.isHole || !f t.ptr then [] else (List.range 4).flatMap fun i=>bks f l (t.kid i) (a+i*4 ^ l):=rfl
theorem NG(h:t.isHole=true\/decide (x<t.ptr.birth)=false):bks (aV x) l t a=[]:=by
 have e:(t.isHole || !aV x t.ptr)=true:=by
  rcases h with h|h
  ·rw[h];rfl
  ·show (t.isHole || !(decide (x<t.ptr.birth)))=true
   rw[h];simp
 cases l with
 | zero=>rw[vP,if_pos e]
 | succ l=>rw[vQ,if_pos e]
theorem Po(d:t.isHole=false)(h:decide (x<t.ptr.birth)=true):bks (aV x) 0 t a=[a]:=by
 rw[vP,d];exact if_neg (by show ¬(false || !(decide (x<t.ptr.birth)))=true;rw[h];decide)
theorem Fs(h:t.isHole=false)(d:f t.ptr=true):bks f (l+1) t a=(List.range 4).flatMap fun i=>bks f l (t.kid i) (a+i*4 ^ l):=by
 rw[vQ,h,d];rfl
def jR(ns:List Nat):List Value:=ns.map fun(i:Nat)=>Value.int .i64 (i:Int)
structure ThB(B:Nat->Prop)(N0 c g:Nat)(x:Int)(b6 b7 b11 b4 b12:Nat)(w:World):Prop where
 cg:w.heap[g]?=some (.cells #[.int .i64 x] 3 (0,0))
 c6:w.heap[b6]?=some (.cells #[nwV g] 72 (0,0))
 c7:w.heap[b7]?=some (.cells #[bkV] 81 (0,0))
 c4:w.heap[b4]?=some (.cells #[.pointer (some ⟨c,0,none⟩)] 24 (0,0))
 c12:w.heap[b12]?=some (.cells #[dbV b6 b7 b11 b4 b12] 139 (0,0))
 lt:∀i,i=g\/i=b6\/i=b7\/i=b4\/i=b12->i<N0/\i≠b11
 l11:b11<N0/\¬B b11
theorem ThB.keep(h:ThB B N0 c g x b6 b7 b11 b4 b12 w)(k:aA T w w')(j:∀i,T i->i=b11\/N0≤i):ThB B N0 c g x b6 b7 b11 b4 b12 w':=by
 have q:∀i,i=g\/i=b6\/i=b7\/i=b4\/i=b12->¬T i:=fun i m e=>by
  obtain⟨n,d⟩:=h.lt i m;exact(j i e).elim d fun o=>by omega
 exact⟨k.blk h.cg (q _ (.inl rfl)),k.blk h.c6 (q _ (.inr (.inl rfl))),k.blk h.c7 (q _ (.inr (.inr (.inl rfl)))),k.blk h.c4 (q _ (.inr (.inr (.inr (.inl rfl))))),k.blk h.c12 (q _ (.inr (.inr (.inr (.inr rfl))))),h.lt,h.l11⟩
structure oA(N0 b11:Nat)(w:World)(v:Value)(ns:List Nat):Prop where
 cell:w.heap[b11]?=some (.cells #[v] 48 (0,0))
 row:w.ownsRow N0 3 1 v ns.length (jR ns)
theorem oA.keep(h:oA N0 b11 w v ns)(k:aA T w w')(h11:¬T b11)(d:∀i,v.ownBlock=some i->¬T i):oA N0 b11 w' v ns:=⟨k.blk h.cell h11,k.owns h.row d⟩
theorem oA.keep0(h:oA N0 b11 w v ns)(k:aA aB w w'):oA N0 b11 w' v ns:=h.keep k id fun _ _=>id
def rJ(N0 b11:Nat)(x:Int)(l:Nat)(t:Tr)(a:Nat)(v:Value)(ns:List Nat)(w:World)(e:Ending)(w':World):Prop:=
 ∃d,e=.returned (.int .i64 0)/\oA N0 b11 w' d (ns++bks (aV x) l t a)/\(∀i,d.ownBlock=some i->v.ownBlock=some i\/w.heap.size≤i)/\aA (fun i=>i=b11\/v.ownBlock=some i) w w'
def Qo(B:Nat->Prop)(S:Kor)(c N0 g q6 q7 q11 q4 q12:Nat)(x:Int)(l:Nat):Prop:=∀(w:World) (v:Value) (ns:List Nat) (pv:Value) (t:Tr) (a:Nat),KI w c S B->ThB B N0 c g x q6 q7 q11 q4 q12 w->oA N0 q11 w v ns->N0≤w.heap.size->ns.length+(bks (aV x) l t a).length≤1000->a+4 ^ l≤64->Tr.Ok S l t->aU w B pv t.ptr->(∀i,pv.ownBlock=some i->i≠q11/\v.ownBlock≠some i) ->
 Calls prog 75 #[.agg (dN pv t.ptr (a:Int)).toArray,.int .i64 (l:Int),.pointer q6,.pointer q7,.pointer q11,.pointer q4,.pointer q12] w (rJ N0 q11 x l t a v ns w)
structure vR(w:World)(B:Nat->Prop)(S:Kor)(c N0 g q6 q7 q11 q4 q12:Nat)(x:Int)(b7 b12 l:Nat)(t:Tr)(a:Nat)(pv v:Value)(ns:List Nat)(vs:Nat->Value)(k:Nat)(wr:World)(vk:Value):Prop where
 ki:KI wr c S B
 th:ThB B N0 c g x q6 q7 q11 q4 q12 wr
 out:oA N0 q11 wr vk (ns++(List.range k).flatMap fun i=>bks (aV x) l (t.kid i) (a+i*4 ^ l))
 old:bL wr B vs (fun i=>(t.kid i).ptr)
 off:∀q,q<4->∀i,(vs q).ownBlock=some i->i≠q11/\vk.ownBlock≠some i
 h7:wr.heap[b7]?=some (.cells (dN pv t.ptr (a:Int)).toArray 80 (0,0))
 h12:wr.heap[b12]?=some (.cells (bS ((l+1:Nat):Int) vs (fun i=>(t.kid i).ptr)).toArray 89 (0,0))
 own:∀i,vk.ownBlock=some i->(v.ownBlock=some i\/w.heap.size≤i)/\i≠b7/\i≠b12
 ge:N0≤b7/\N0≤b12/\N0≤w.heap.size
 keep:aA (fun i=>i=q11\/v.ownBlock=some i) w wr
theorem Pp{α:Type}(f:Nat->List α)(h:k<4):((List.range k).flatMap f).length+(f k).length≤((List.range 4).flatMap f).length:=by
 have d:((List.range (k+1)).flatMap f).length≤((List.range 4).flatMap f).length:=by
  have:∃r,(List.range 4)=List.range (k+1)++r:=by
   have:k=0\/k=1\/k=2\/k=3:=by omega
   rcases this with rfl|rfl|rfl|rfl<;>exact⟨_,rfl⟩
  obtain⟨r,e⟩:=this;rw[e,List.flatMap_append,List.length_append];omega
 rw[List.range_succ,List.flatMap_append,List.length_append] at d
 simpa only[List.flatMap_cons,List.flatMap_nil,List.append_nil] using d
theorem vR.len{wr:World}
 (h:vR w B S c N0 g q6 q7 q11 q4 q12 x b7 b12 l t a pv v ns vs k wr vk) (m:k<4) (n:ns.length+(bks (aV x) (l+1) t a).length≤1000) (j:t.isHole=false) (d:aV x t.ptr=true):(ns++(List.range k).flatMap fun i=>bks (aV x) l (t.kid i) (a+i*4 ^ l)).length+(bks (aV x) l (t.kid k) (a+k*4 ^ l)).length≤1000:=by
 rw[Fs j d] at n;have:=Pp (fun i=>bks (aV x) l (t.kid i) (a+i*4 ^ l)) m;rw[List.length_append];omega
theorem vR.step{wr:World}
 (h:vR w B S c N0 g q6 q7 q11 q4 q12 x b7 b12 l t a pv v ns vs k wr vk) (F:∀i,B i->i<N0) (s:aA aB wr w1) (I:rJ N0 q11 x l (t.kid k) (a+k*4 ^ l) vk (ns++(List.range k).flatMap fun i=>bks (aV x) l (t.kid i) (a+i*4 ^ l)) w1 e w2):e=.returned (.int .i64 0)/\aA (fun i=>i=q11\/vk.ownBlock=some i) w1 w2/\∃u,vR w B S c N0 g q6 q7 q11 q4 q12 x b7 b12 l t a pv v ns vs (k+1) w2 u:=by
 obtain⟨u,G,C,D,A⟩:=I;have n:∀i,vk.ownBlock=some i->N0≤i:=fun i d=>aW h.out.row d
 have h11:=h.th.l11;have j:aA (fun i=>i=q11\/vk.ownBlock=some i) wr w2:=s.trans' A (fun _ _ h=>h.elim) (fun _ _ h=>h);have r:∀i,(∃q,q<4/\(vs q).ownBlock=some i)->i<wr.heap.size:=fun i ⟨q,m,d⟩=>((h.old q m).off i d).2.lt
 have E:=lt_of_block h.h7;have y:=lt_of_block h.h12;have H:=h.ge
 have o:∀q,q<4->∀i,(vs q).ownBlock=some i->¬(i=q11\/vk.ownBlock=some i):=fun q m i d e=>by
  have:=h.off q m i d;exact e.elim this.1 this.2
 refine⟨G,A,u,h.ki.keepT j fun i d z=>?_,h.th.keep j fun i d=>d.imp id (n i),?_,h.old.keepT j o,fun q m i d=>⟨(h.off q m i d).1,fun e=>?_⟩,j.blk h.h7 fun e=>?_,j.blk h.h12 fun e=>?_,fun i d=>?_,H,h.keep.tT j fun i d e=>?_⟩
 ·rcases d with rfl|d
  ·exact h11.2 z
  ·have:=n i d;have:=F i z;omega
 ·rw[List.append_assoc] at C
  rw[List.range_succ,List.flatMap_append]
  simpa only[List.flatMap_cons,List.flatMap_nil,List.append_nil] using C
 ·rcases D i e with e|e
  ·exact(h.off q m i d).2 e
  ·have:=r i ⟨q,m,d⟩;have:=s.size;omega
 ·rcases e with e|e
  ·omega
  ·exact(h.own _ e).2.1 rfl
 ·rcases e with e|e
  ·omega
  ·exact(h.own _ e).2.2 rfl
 ·rcases D i d with e|e
  ·exact h.own i e
  ·have:=s.size;have:=h.keep.size
   exact⟨.inr (by omega),by omega,by omega⟩
 ·rcases e with e|e
  ·exact .inl e
  ·exact(h.own i e).1.elim .inr fun e=>absurd d (by omega)
theorem vR.fin{wr:World}
 (h:vR w B S c N0 g q6 q7 q11 q4 q12 x b7 b12 l t a pv v ns vs 4 wr vk) (j:t.isHole=false) (d:aV x t.ptr=true) (k:aA aB wr w'):rJ N0 q11 x (l+1) t a v ns w (.returned (.int .i64 0)) w':=
 ⟨vk,rfl,by rw[Fs j d];exact h.out.keep0 k,fun i m=>(h.own i m).1,h.keep.tT k (fun _ _ e=>e.elim)⟩
theorem Hf:(bks (aV x) 3 t 0).length≤64:=by
 have q:∀{l:Nat}{t:Tr}{a:Nat},(bks (aV x) l t a).length≤4 ^ l:=by
  intro l
  induction l with
  | zero=>intro t a;rw[vP];split<;>simp
  | succ l d =>
    intro t a;rw[vQ];split
    ·simp
    ·have h0:=d (t:=t.kid 0) (a:=a+0*4 ^ l);have h:=d (t:=t.kid 1) (a:=a+1*4 ^ l);have i:=d (t:=t.kid 2) (a:=a+2*4 ^ l);have j:=d (t:=t.kid 3) (a:=a+3*4 ^ l)
     rw[show List.range 4=[0,1,2,3] from rfl];simp only[List.flatMap_cons,List.flatMap_nil,List.append_nil,List.length_append];rw[Nat.pow_succ];omega
 exact q (l:=3)
theorem Ra:Hid (∀w,(zeroValue 48).run prog w=.ok (.slice none 0 0) w):=O fun w=>by kernel_rfl
theorem Ft:(prog.info? 3).map (fun i=>(i.zero,i.size,i.bytes))=some (some (.int .i64 0),1,8):=by kernel_rfl
theorem Qp{a:Int}{t:TypeId}(h:w.heap[b]?=some (.cells (dN v p a).toArray t fr)):w.cell? ⟨b,2,none⟩=some (.int .i64 p.level):=aC h rfl
def yM(w:World)(p:Pt)(a:Nat)(e:Ending)(w':World):Prop:=e=.returned (.tuple #[.int .i64 (a:Int),.bool (decide (p.level=0))])/\aA aB w w'
theorem Di(w:World)(pv:Value)(p:Pt)(z:PtV w pv p)(a:Nat):Calls prog 34 #[.agg (dN pv p (a:Int)).toArray] w (yM w p a):=by
 have E:=O z.sum;have F:=kH (v:=pv) (a:=(a:Int)) z.sum;have j:=kI (a:=(a:Int)) z;obtain⟨G,d⟩:=zX9 (dN pv p (a:Int))
 have H:Hid (∀u∈G,u.oneCell'=true):=O (by rw[←d];exact j);have s:=O d;rw[d] at F ⊢;obtain⟨lv,q⟩:=zX9 p.level
 have A:=O q;have C:Hid (∀w',aA aB w w'->yM w p a (.returned (.tuple #[.int .i64 (a:Int),.bool (decide (lv=0))])) w'):=O fun w' k=>by rw[←q];exact⟨rfl,k⟩
 have J:(lv == 0)=decide (lv=0):=by rw[Bool.eq_iff_iff];simp
 have m:=lN w;clear j d z q;go_in
 go_wp2_with refine bxM m (G.toArray) ?_
 intro b1 w1 K m;clear K;go_wp2_with fail;refine dwA aB (by kernel_rfl) ?_;intro w2 S o D i y;replace m:=kL m y;clear y;have n:=m;refine tnb 0 (.pointer (some ⟨b1,35,none⟩)) rfl i ?_;refine tnd 1 (.int .i64 (a:Int)) rfl (.inl ⟨by rfl,fun w' r=>by have c:World.cell? w' ⟨b1,35,none⟩=some (.int .i64 (a:Int)):=(Jl E.out (by have h:=((o w' r).blk (n.b 0) id);rw[←s.out] at h;exact h));go_simp⟩) i ?_;refine tnb 2 (.pointer b1) rfl i ?_;refine tnb 3 (.pointer (some ⟨b1,2,none⟩)) rfl i ?_;refine tnd 4 (.int .i64 lv) rfl (.inl ⟨by rfl,fun w' r=>by have c:World.cell? w' ⟨b1,2,none⟩=some (.int .i64 lv):=(by have h:=Qp (by have h:=((o w' r).blk (n.b 0) id);rw[←s.out] at h;exact h:_=some (Obj.cells (dN pv p (a:Int)).toArray _ _));rw[A.out] at h;exact h);go_simp⟩) i ?_;refine tnd 5 (.bool (decide (lv=0))) rfl (.inl ⟨by rfl,fun _ _=>by go_simp⟩) i ?_;refine tna 6 (.int .i64 (a:Int)) rfl i ?_;refine tna 7 (.bool (decide (lv=0))) rfl i ?_;refine wpAnyH_done (by kernel_rfl) ?_ _;clear i o D n;have I:=C.out _ m.keep;clear m;go_wp2
 go_ret2
 exact I
theorem oR(U:KI w c S B)(W:ThB B N0 c g x q6 q7 q11 q4 q12 w)(V:oA N0 q11 w v ns)(pv:Value)(t:Tr)(l a:Nat)(X:Tr.Ok S l t)(A:aU w B pv t.ptr)(J:t.isHole=true\/decide (x<t.ptr.birth)=false):Calls prog 75 #[.agg (dN pv t.ptr (a:Int)).toArray,.int .i64 (l:Int),.pointer q6,.pointer q7,.pointer q11,.pointer q4,.pointer q12] w (rJ N0 q11 x l t a v ns w):=by
 have r:=O W;have q:=O V;have R:=O U;have F:=O (NG (a:=a) (l:=l) J);have G:=O X.hole_eq;obtain⟨p,E⟩:=zX9 t.ptr
 have qb:=O E;rw[E] at A J G ⊢;have d:=O A;have D:=aF (v:=pv) A.pt.sum;have z:=aL A.pt;have P:=kH (v:=pv) (a:=(a:Int)) A.pt.sum;have y:=kI (a:=(a:Int)) A.pt;have qc:=O A.pt.sum;obtain⟨Q,n⟩:=zX9 (aE pv p)
 obtain⟨Y,m⟩:=zX9 (dN pv p (a:Int))
 have qa:Hid (∀u∈Q,u.oneCell'=true):=O (by rw[←n];exact z);have Z:Hid (∀u∈Y,u.oneCell'=true):=O (by rw[←m];exact y);have s:=O n;have H:=O m;rw[n] at D;rw[m] at P ⊢;have HS:=O J;clear z y n m A W V U X J E;have o:=lN w;go_in
 go_wp2_with refine bxM o (Y.toArray) ?_
 intro b7 w1 j o;replace d:=pK d j;replace r:=O (r.keep j fun _ e=>e.elim);replace q:=O (q.keep0 j);clear j
 go_wp2_with ((with_reducible show WL _ _);refine ldP b7 0 Q (by have h:=o.b 0;rw[←H.out] at h;rw[←s.out];exact eQ h) D ?_)
 refine((by rw[←s.out];exact bK w1 pv p d.pt:Ka w1 (aN w1 p.hole))).mono ?_;rintro e w2 ⟨rfl,j⟩;replace o:=kL o j;replace d:=pK d j;replace r:=O (r.keep j fun _ e=>e.elim);replace q:=O (q.keep0 j);clear j;obtain⟨N,C⟩:=zX9 p.hole
 rw[C];have K:=O C;clear C;cases N with
 | true =>
   have M:Hid (rJ N0 q11 x l t a v ns w (.returned (.int .i64 0)) w2):=O ⟨v,rfl,by rw[F.out,List.append_nil];exact q.out,fun i h=>.inl h,o.keep.any⟩;clear o r q d R;go_wp2;go_ret;exact M.out
 | false =>
   have I:=HS.resolve_left (by rw[←G.out,K.out];decide);have L:=O I;clear I;have c1:w2.cell? ⟨q6,0,none⟩=some (nwV g):=(cell_of_one r.c6)
   go_wp2_with ((with_reducible show WL _ _);refine aK (by rfl) 30 (.tmp 20) rfl b7 0 rfl Q _ (by have h:=o.b 0;rw[←H.out] at h;rw[←s.out];exact eQ h) aI rfl (szP9 D) ?_)
   clear c1;refine((by rw[←s.out];exact kZ r.cg pv p d.pt:Ka w2 (aN w2 (decide (x<p.birth))))).mono ?_;rintro e w3 ⟨rfl,j⟩;replace o:=kL o j;replace d:=pK d j;replace r:=O (r.keep j fun _ e=>e.elim);replace q:=O (q.keep0 j);clear j;rw[L.out];have M:Hid (rJ N0 q11 x l t a v ns w (.returned (.int .i64 0)) w3):=O ⟨v,rfl,by rw[F.out,List.append_nil];exact q.out,fun i h=>.inl h,o.keep.any⟩;clear o r q d R;go_wp2;go_ret;exact M.out
theorem Gq(hK:KI w c S B)(hT:ThB B N0 c g x q6 q7 q11 q4 q12 w)(hO:oA N0 q11 w v ns)(hN:N0≤w.heap.size)(pv:Value)(t:Tr)(a:Nat)(qa:ns.length≤1000)(ha:a≤64)(ht:Tr.Ok S 0 t)(F:aU w B pv t.ptr)(qk:∀i,pv.ownBlock=some i->i≠q11/\v.ownBlock≠some i)(hh:t.isHole=false)(hn:decide (x<t.ptr.birth)=true):Calls prog 75 #[.agg (dN pv t.ptr (a:Int)).toArray,.int .i64 0,.pointer q6,.pointer q7,.pointer q11,.pointer q4,.pointer q12] w (rJ N0 q11 x 0 t a v ns w):=by
 have I:t.ptr.hole=false:=by rw[ht.hole_eq,hh]
 have qc:=O (Po (a:=a) hh hn);have q:=O hT;have o:=O hO;have qg:=O hN;have qh:=O qa;have ql:=O ha;have y:t.ptr.level=0:=(ht.born hh).2.2;obtain⟨p,M⟩:=zX9 t.ptr
 have qp:=O M;rw[M] at F I hn y ⊢;have j:=O F;have L:=aF (v:=pv) F.pt.sum;have D:=aL F.pt;have Z:=kH (v:=pv) (a:=(a:Int)) F.pt.sum;have C:=kI (a:=(a:Int)) F.pt;have qq:=O F.pt.sum;obtain⟨pc,s⟩:=zX9 (aE pv p)
 obtain⟨lc,r⟩:=zX9 (dN pv p (a:Int))
 have qo:Hid (∀u∈pc,u.oneCell'=true):=O (by rw[←s];exact D);have qn:Hid (∀u∈lc,u.oneCell'=true):=O (by rw[←r];exact C);have A:=O s;have G:=O r;rw[s] at L;rw[r] at Z ⊢;have qd:=O I;have qf:=O hn;have U:=O y;clear D C s r F hT hO hh I hn hN qa M hK ht y ha qk;have m:=lN w;go_in
 go_wp2_with refine bxM m (lc.toArray) ?_
 intro b7 w1 d m;replace j:=pK j d;replace q:=O (q.keep d fun _ e=>e.elim);replace o:=O (o.keep0 d);clear d
 go_wp2_with ((with_reducible show WL _ _);refine ldP b7 0 pc (by have h:=m.b 0;rw[←G.out] at h;rw[←A.out];exact eQ h) L ?_)
 refine((by rw[←A.out];exact bK w1 pv p j.pt:Ka w1 (aN w1 p.hole))).mono ?_;rintro e w2 ⟨rfl,d⟩;replace m:=kL m d;replace j:=pK j d;replace q:=O (q.keep d fun _ e=>e.elim);replace o:=O (o.keep0 d);clear d;rw[qd.out];have c1:w2.cell? ⟨q6,0,none⟩=some (nwV g):=(cell_of_one q.c6)
 go_wp2_with ((with_reducible show WL _ _);refine aK (by rfl) 30 (.tmp 20) rfl b7 0 rfl pc _ (by have h:=m.b 0;rw[←G.out] at h;rw[←A.out];exact eQ h) aI rfl (szP9 L) ?_)
 clear c1;refine((by rw[←A.out];exact kZ q.cg pv p j.pt:Ka w2 (aN w2 (decide (x<p.birth))))).mono ?_;rintro e w3 ⟨rfl,d⟩;replace m:=kL m d;replace j:=pK j d;replace q:=O (q.keep d fun _ e=>e.elim);replace o:=O (o.keep0 d);clear d;rw[qf.out];have c1:w3.cell? ⟨q7,0,none⟩=some (bkV):=(cell_of_one q.c7)
 go_wp2_with ((with_reducible show WL _ _);refine ldR (m.b 0) underlying80 (by rw[Z];exact yJ) ?_)
 clear c1;refine((by rw[←G.out];exact Di w3 pv p j.pt a:Ka w3 (yM w3 p a))).mono ?_;rintro e w4 ⟨rfl,d⟩;replace m:=kL m d;replace j:=pK j d;replace q:=O (q.keep d fun _ e=>e.elim);replace o:=O (o.keep0 d);clear d;rw[U.out,show decide ((0:Int)=0)=true from rfl];have c1:w4.cell? ⟨q11,0,none⟩=some (v):=(cell_of_one o.cell)
 go_wp2_with ((with_reducible show WL _ _);refine bs1 48 3 (.tmp 33) (.int .i64 (a:Int)) (by kernel_rfl) (by kernel_rfl) underlying48 rfl ?_)
 clear c1;intro W w5 Y d N;have V:Hid (Rd w5 1 (.slice W 1 1) 1 [.int .i64 (a:Int)]):=O (dX (n:=1) (size:=1) N rfl (by unfold maxLen;omega));replace m:=lW m Y d N;replace j:=pK j d;replace q:=O (q.keep d fun _ e=>e.elim);replace o:=O (o.keep0 d);clear Y d N;have qe:=O (show N0≤w5.heap.size from Nat.le_trans qg.out m.keep.size);have E:Hid (ns.length+1≤maxLen/\(ns.length+1)*8≤140737488355328):=O (by have:=qh.out;unfold maxLen;omega)
 go_wp2_with (at_builtin;refine aM rfl (.tmp 32) (.tmp 34) 48 rfl N0 3 (.int .i64 0) 1 8 underlying48 Ft rfl (by decide) v ns.length (jR ns) rfl o.row (.slice W 1 1) 1 [.int .i64 (a:Int)] rfl V.out (by intro u hu;rcases List.mem_singleton.1 hu with rfl;rfl) E.1 E.2 qe.out ?_)
 intro v2 w8 K J qj X;obtain⟨g2,c2,rfl,-,-⟩:=(Rd.of_owns K).form;have P:=O (J.blk o.cell fun e=>by have h1:=aW o.row e;have h2:=q.l11.1;omega);have H:=O K;have Q:=O J;have qb:=O X;have R:=O m.keep;have qm:=O (fun i (z:v.ownBlock=some i)=>(aW o.row z:N0≤i));clear K J qj X V
 go_wp2_with ((with_reducible show WL _ (.store 48 _ _));refine stV (.slice g2 (ns.length+1) c2) P.out ?_)
 intro w9 d N;have HP:Hid (rJ N0 q11 x 0 t a v ns w (.returned (.int .i64 0)) w9):=O (by
  have qi:=fun i (z:(Value.slice g2 (ns.length+1) c2).ownBlock=some i)=>aW H.out z
  refine⟨_,rfl,⟨N,?_⟩,fun i z=>?_,(R.any.tT Q.out (fun i _ e=>.inr e)).tT d (fun i _ e=>.inl e)⟩
  ·rw[qc.out,List.length_append]
   have e:jR (ns++[a])=jR ns++[.int .i64 (a:Int)]:=by unfold jR;rw[List.map_append];rfl
   rw[e];exact d.owns H.out fun i z e=>by have h1:=qi i z;have h2:=q.l11.1;omega
  ·rcases qb.out with e|e
   ·exact .inl (e▸z)
   ·rw[e] at z
    injection z with z
    have:=R.size;exact .inr (by omega))
 clear m o q j d N Q H P;go_wp2;go_ret;exact HP.out
theorem Gs(hK:KI w c S B)(z3:l≤2)(IH:Qo B S c N0 g q6 q7 q11 q4 q12 x l)(hB:∀i,B i->i<N0)(hT:ThB B N0 c g x q6 q7 q11 q4 q12 w)(hO:oA N0 q11 w v ns)(hN:N0≤w.heap.size)(pv:Value)(t:Tr)(a:Nat)(zj:ns.length+(bks (aV x) (l+1) t a).length≤1000)(ha:a+4 ^ (l+1)≤64)(ht:Tr.Ok S (l+1) t)(hp:aU w B pv t.ptr)(zi:∀i,pv.ownBlock=some i->i≠q11/\v.ownBlock≠some i)(hh:t.isHole=false)(hn:decide (x<t.ptr.birth)=true):Calls prog 75 #[.agg (dN pv t.ptr (a:Int)).toArray,.int .i64 ((l+1:Nat):Int),.pointer q6,.pointer q7,.pointer q11,.pointer q4,.pointer q12] w (rJ N0 q11 x (l+1) t a v ns w):=by
 have qr:t.ptr.hole=false:=by rw[ht.hole_eq,hh]
 have zo:=O IH;have zl:=O hB;have za:=O ht;have q5:=O zj;have HA:=O ha;have xb:=O zi;have X:Hid (t.isHole=false/\aV x t.ptr=true):=O ⟨hh,hn⟩;have r:=O hT;have s:=O hO;have Y:=O hN;have j:=O hK;have qk:Hid (∀i,v.ownBlock=some i->i<w.heap.size):=O fun i hi=>by (obtain⟨cur,hc⟩:=aJ hO.row hi;exact lt_of_block hc)
 have U:t.ptr.level=((l+1:Nat):Int):=(ht.born hh).2.2;obtain⟨p,qv⟩:=zX9 t.ptr
 have qa:=O qv;rw[qv] at hp qr hn U ⊢;have n:=O hp;have qd:=aF (v:=pv) hp.pt.sum;have qi:=aL hp.pt;have zf:=kH (v:=pv) (a:=(a:Int)) hp.pt.sum;have qh:=kI (a:=(a:Int)) hp.pt;have zz:=O hp.pt.sum;obtain⟨pc,G⟩:=zX9 (aE pv p)
 obtain⟨lc,E⟩:=zX9 (dN pv p (a:Int))
 have z9:Hid (∀u∈pc,u.oneCell'=true):=O (by rw[←G];exact qi);have z7:Hid (∀u∈lc,u.oneCell'=true):=O (by rw[←E];exact qh);have I:=O G;have N:=O E;rw[G] at qd;rw[E] at zf ⊢;have zn:=O qr;have zr:=O hn;have q0:Hid (decide (p.level=0)=false):=O (decide_eq_false (by rw[U];omega));have xh:(0:Int)≤((l+1:Nat):Int):=by omega
 have xi:(((l:Int)+1) == 0)=false:=by rw[beq_eq_false_iff_ne];omega
 clear qi qh G E hp hT hO hh qr hn hN zj qv hK IH hB ht ha zi U;have o:=lN w;go_in
 go_wp2_with refine bxM o (lc.toArray) ?_
 intro b7 w1 d o;replace n:=pK n d;replace r:=O (r.keep d fun _ e=>e.elim);replace s:=O (s.keep0 d);replace j:=O (KI.keep0 j.out d);clear d
 go_wp2_with ((with_reducible show WL _ _);refine ldP b7 0 pc (by have h:=o.b 0;rw[←N.out] at h;rw[←I.out];exact eQ h) qd ?_)
 refine((by rw[←I.out];exact bK w1 pv p n.pt:Ka w1 (aN w1 p.hole))).mono ?_;rintro e w2 ⟨rfl,d⟩;replace o:=kL o d;replace n:=pK n d;replace r:=O (r.keep d fun _ e=>e.elim);replace s:=O (s.keep0 d);replace j:=O (KI.keep0 j.out d);clear d;rw[zn.out];have c1:w2.cell? ⟨q6,0,none⟩=some (nwV g):=(cell_of_one r.c6)
 go_wp2_with ((with_reducible show WL _ _);refine aK (by rfl) 30 (.tmp 20) rfl b7 0 rfl pc _ (by have h:=o.b 0;rw[←N.out] at h;rw[←I.out];exact eQ h) aI rfl (szP9 qd) ?_)
 clear c1;refine((by rw[←I.out];exact kZ r.cg pv p n.pt:Ka w2 (aN w2 (decide (x<p.birth))))).mono ?_;rintro e w3 ⟨rfl,d⟩;replace o:=kL o d;replace n:=pK n d;replace r:=O (r.keep d fun _ e=>e.elim);replace s:=O (s.keep0 d);replace j:=O (KI.keep0 j.out d);clear d;rw[zr.out];have c1:w3.cell? ⟨q7,0,none⟩=some (bkV):=(cell_of_one r.c7)
 go_wp2_with ((with_reducible show WL _ _);refine ldR (o.b 0) underlying80 (by rw[zf];exact yJ) ?_)
 clear c1;refine((by rw[←N.out];exact Di w3 pv p n.pt a:Ka w3 (yM w3 p a))).mono ?_;rintro e w4 ⟨rfl,d⟩;replace o:=kL o d;replace n:=pK n d;replace r:=O (r.keep d fun _ e=>e.elim);replace s:=O (s.keep0 d);replace j:=O (KI.keep0 j.out d);clear d;rw[q0.out];have c1:w4.cell? ⟨q4,0,none⟩=some (.pointer c):=(cell_of_one r.c4)
 go_wp2_with ((with_reducible show WL _ _);refine ldP b7 0 pc (by have h:=o.b 0;rw[←N.out] at h;rw[←I.out];exact eQ h) qd ?_)
 clear c1;have q3:=O o.keep.size;refine((by rw[←I.out,←qa.out];exact sB j.out z3 pv t za.out (by rw[qa.out];exact n.pt):Ka w4 (eE w4 B l t))).mono ?_;rintro e w5 ⟨vs,rfl,qe,V,d⟩;have C:=O qe;have zv:Hid (∀q,q<4->∀i,(vs q).ownBlock=some i->i≠q11/\v.ownBlock≠some i):=O (fun q hq i hi=>⟨fun e=>by (have P:=V q hq i hi;have h2:=q3.out;have h3:=r.l11.1;have h4:=Y.out;omega),fun e=>by (have P:=V q hq i hi;have h2:=qk.out i e;have h3:=q3.out;omega)⟩);have qu:=cP ((l+1:Nat):Int) vs qe.nv;have qg:=cQ ((l+1:Nat):Int) qe.nv;obtain⟨nn,F⟩:=zX9 (bS ((l+1:Nat):Int) vs (fun i=>(t.kid i).ptr))
 have zx:Hid (∀u∈nn,u.oneCell'=true):=O (by rw[←F];exact qg);have zt:=O F;rw[F] at qu ⊢;clear qg F qe V;replace o:=kL o d;replace n:=pK n d;replace r:=O (r.keep d fun _ e=>e.elim);replace s:=O (s.keep0 d);replace j:=O (KI.keep0 j.out d);clear d
 go_wp2_with ((with_reducible show WL _ _);refine alW gV qu cW (by rw[qu];exact cU) zx.out ?_)
 intro b12 w7 ze d hb
 replace o:=lW o ze d hb;replace n:=pK n d;replace r:=O (r.keep d fun _ e=>e.elim);replace s:=O (s.keep0 d);replace j:=O (KI.keep0 j.out d);replace C:=O (bL.keep0 C.out d);clear ze d hb;go_wp2_with fail
 have z0:Hid (∃vk,vR w B S c N0 g q6 q7 q11 q4 q12 x b7 b12 l t a pv v ns vs 0 w7 vk):=O ⟨v,j.out,r.out,by rw[show (List.range 0)=[] from rfl,List.flatMap_nil,List.append_nil];exact s.out,C.out,zv.out,by (have h:=o.b 1;rw[←N.out] at h;rw[qa.out];exact h),by (have h:=o.b 0;rw[←zt.out] at h;exact h),fun i hi=>by
  have h7:=o.lt 1;have h12:=o.lt 0;have P:=qk.out i hi;exact⟨.inl hi,by omega,by omega⟩,⟨by have P:=(o.lt 1).1;have h2:=Y.out;omega,by have P:=(o.lt 0).1;have h2:=Y.out;omega,Y.out⟩,o.keep.any⟩
 clear o j n r s C
 go_loopw [13,14] (fun e i wr=>∃k:Nat,k≤4/\e=.int .i64 0/\i=.int .i64 (k:Int)/\Hid (∃vk,vR w B S c N0 g q6 q7 q11 q4 q12 x b7 b12 l t a pv v ns vs k wr vk)) (fun _ i _=>4-(intOf i).toNat)
 case atStart=>exact⟨0,by omega,rfl,rfl,z0⟩
 case round =>
  obtain⟨k,d,rfl,rfl,ql⟩:=hrel;obtain⟨vk,m⟩:=ql.out
  by_cases Q:k<4
  ·have xf:(0:Int)≤(k:Int):=by omega
   have xg:(k:Int)<4:=by omega
   have j:=O m.ki;have r:=O m.th;have s:=O m.out;have y:=O (m.old k Q);have qx:=O m;have zk:=aF (v:=vs k) y.pt.sum;have qj:=aL y.pt;have qn:=kD m.old.nv (aD m.h12) Q;obtain⟨qc,A⟩:=zX9 (aE (vs k) ((t.kid k).ptr))
   have xa:Hid (∀u∈qc,u.oneCell'=true):=O (by rw[←A];exact qj);have xc:=O A;rw[A] at zk qn;have HX:=O qn;have H:=O (Jl (by rw[qa.out];exact zz.out) m.h7);obtain⟨W,hW⟩:∃W:Nat,4 ^ l=W:=⟨_,rfl⟩
   have z5:W≤16/\1≤W:=by
    have:l=0\/l=1\/l=2:=by omega
    rcases this with rfl|rfl|rfl<;>omega
   have HW:=O hW;obtain⟨kw,R⟩:∃q:Nat,k*W=q:=⟨_,rfl⟩
   have z2:kw+W≤4*W:=by rw[←R];have P:=Nat.mul_le_mul_right W (show k+1≤4 by omega);rw[Nat.succ_mul] at P;exact P
   have z6:(k:Int)*(W:Int)=(kw:Int):=by rw[←R];push_cast;rfl
   have xe:a+4*W≤64:=by have P:=HA.out;rw[Nat.pow_succ,hW] at P;omega
   obtain⟨L,qp⟩:=zX9 (a+kw)
   have qz:Hid (a+k*4 ^ l=L):=O (by rw[hW,R,qp]);have xd:(a:Int)+(kw:Int)=(L:Int):=by omega
   obtain⟨nk,qb⟩:=zX9 ((ns++(List.range k).flatMap fun i=>bks (aV x) l (t.kid i) (a+i*4 ^ l)))
   have zu:=O qb;have Z:Hid ((∀i,(vs k).ownBlock=some i->i≠q11/\vk.ownBlock≠some i)/\nk.length+(bks (aV x) l (t.kid k) L).length≤1000/\L+4 ^ l≤64/\N0≤wr.heap.size):=O ⟨m.off k Q,by rw[←qb,←qp,←R,←hW];exact m.len Q q5.out X.1 X.2,by rw[hW];omega,by have P:=m.ge;have h2:=m.keep.size;omega⟩;have z1:=O (za.kid Q);have o:=lN wr
   have M:Hid (¬(b12=q11\/vk.ownBlock=some b12)/\¬(b7=q11\/vk.ownBlock=some b7)/\¬(q12=q11\/vk.ownBlock=some q12)):=O (by
    have P:=m.ge;have h2:=m.th.l11.1;have h3:=m.th.lt q12 (.inr (.inr (.inr (.inr rfl))));refine⟨fun e=>e.elim (fun e=>by omega) fun e=>(m.own _ e).2.2 rfl,fun e=>e.elim (fun e=>by omega) fun e=>(m.own _ e).2.1 rfl,fun e=>e.elim (fun e=>by omega) fun e=>?_⟩;have h4:=aW m.out.row e;omega)
   have qq:=He (vs k) (t.kid k).ptr (L:Int) y.pt.sum;obtain⟨mc,qt⟩:=zX9 (dN (vs k) (t.kid k).ptr (L:Int))
   have zq:=O qt;rw[qt,A] at qq;rw[qb] at s;have zm:=O qq;clear A qj qn m ql hW R qt qq qp qb;go_wp2_with fail;refine dwA (fun i=>i=q11\/vk.ownBlock=some i) (by kernel_rfl) ?_;intro w9 S J qm D z;replace o:=kL o z;replace j:=O (KI.keep0 j.out z);replace r:=O (r.keep z fun _ e=>e.elim);replace s:=O (s.keep0 z);replace HX:=O (z.rangeAt HX.out);replace y:=pK y z;replace H:=O (z.cell H.out id);clear z;have zp:=o;have qy:=j;have zb:=r;have zy:=s;have zd:=HX;have q9:=y;have qf:=H;refine tnd 0 (dbV q6 q7 q11 q4 q12) rfl (.inl ⟨by rfl,fun w' qw=>by have c:World.cell? w' ⟨q12,0,none⟩=some (dbV q6 q7 q11 q4 q12):=(J w' qw).cell (cell_of_one zb.c12) M.2.2;go_simp⟩) D ?_;refine tna 1 (.int .i64 (k:Int)) rfl D ?_;refine tnb 2 (.pointer (some ⟨b12,1,none⟩)) rfl D ?_;refine tnd 3 (.pointer (some ⟨b12,1+k*35,none⟩)) rfl (.inl ⟨by rfl,fun _ _=>by go_simp<;>omega⟩) D ?_;refine tnd 4 (.agg qc.toArray) rfl (yieldsIf_load_mid (by rfl) 30 (.tmp 57) rfl b12 (1+k*35) rfl qc _ (fun w' h=>(J w' h).rangeAt2 zd.out M.1) aI rfl (szP9 zk)) D ?_;refine tnb 5 (.pointer (some ⟨b7,35,none⟩)) rfl D ?_;refine tnd 6 (.int .i64 (a:Int)) rfl (.inl ⟨by rfl,fun w' qw=>by have c:World.cell? w' ⟨b7,35,none⟩=some (.int .i64 (a:Int)):=(J w' qw).cell qf.out M.2.1;go_simp⟩) D ?_;refine tna 7 (.int .i64 (k:Int)) rfl D ?_;refine tna 8 (.int .i64 ((l+1:Nat):Int)) rfl D ?_;refine tnd 9 (.int .i64 (l:Int)) rfl (.inl ⟨by rfl,fun _ _=>by go_simp;exact IntWalk.i64_in _ (by omega)⟩) D ?_;refine tna 14 (.int .i64 ((l+1:Nat):Int)) rfl D ?_;refine tnd 15 (.int .i64 (l:Int)) rfl (.inl ⟨by rfl,fun _ _=>by go_simp;exact IntWalk.i64_in _ (by omega)⟩) D ?_;refine wA9 10 ?_;go_wp2_with fail;refine((by rw[←HW.out];exact vJ w9 l (by omega):Ka w9 (aH w9 (.int .i64 (W:Int))))).mono ?_;rintro e wa ⟨rfl,d⟩;have K:=qm.out _ ((J _ D).trans d.any);replace o:=kL o d;replace j:=O (KI.keep0 j.out d);replace r:=O (r.keep d fun _ e=>e.elim);replace s:=O (s.keep0 d);replace HX:=O (d.rangeAt HX.out);replace y:=pK y d;replace H:=O (d.cell H.out id);clear D d;go_wp2_with fail;refine⟨K,?_⟩;refine tnd 11 (.int .i64 (kw:Int)) rfl (.inl ⟨by rfl,fun _ _=>by go_simp;exact IntWalk.i64_in _ (by omega)⟩) K ?_;refine tnd 12 (.int .i64 (L:Int)) rfl (.inl ⟨by rfl,fun _ _=>by go_simp;exact IntWalk.i64_in _ (by omega)⟩) K ?_;refine tnd 13 (.agg mc.toArray) rfl (fC 80 #[(0,.tmp 58),(1,.tmp 66)] [(0,.agg qc.toArray),(1,.int .i64 (L:Int))] (.agg mc.toArray) zm.out) K ?_;refine wA9 16 ?_;go_wp2_with fail;have q1:Hid (aA aB wr wa):=O o.keep;refine((by rw[←zq.out];exact zo.out wa vk nk (vs k) (t.kid k) L j.out r.out s.out (Nat.le_trans Z.2.2.2 o.keep.size) Z.2.1 Z.2.2.1 z1.out y.out Z.1:Ka wa (rJ N0 q11 x l (t.kid k) L vk nk wa))).mono ?_;rintro e wb hm;obtain⟨he,zg,zh⟩:=qx.step zl.out q1.out (by rw[qz.out,zu.out];exact hm);subst he;have zw:=O zh;have qo:=qm.out _ ((J _ K).trans zg);clear K zg hm zh o j r HX y s H q1;go_wp2_with fail;refine⟨qo,?_⟩;refine tna 17 (.int .i64 0) rfl qo ?_;refine wpAnyH_done (by kernel_rfl) ?_ _;clear qo J qm zp qy zb zy zd q9 qf;clear qx;go_wp2
   go_roundw
   case rel=>exact⟨k+1,by omega,rfl,by go_num,zw⟩
   case measure=>simp[intOf];omega
  ·obtain rfl:k=4:=by omega
   have HP:=O (m.fin X.1 X.2 (aA.refl aB wr));clear m ql;go_wp2;go_ret;exact HP.out
theorem NH(z:∀i,B i->i<N0):∀l,l≤3->Qo B S c N0 g q6 q7 q11 q4 q12 x l:=by
 intro l
 induction l with
 | zero =>
   intro A w v ns pv t a d j h u s y o m n;cases q:t.isHole with
   | true=>exact oR d j h pv t 0 a o m (.inl q)
   | false =>
     cases r:decide (x<t.ptr.birth) with
     | false=>exact oR d j h pv t 0 a o m (.inr r)
     | true=>exact Gq d j h u pv t a (by omega) (by omega) o m n q r
 | succ l C =>
   intro A w v ns pv t a d j h u s y o m n;cases q:t.isHole with
   | true=>exact oR d j h pv t (l+1) a o m (.inl q)
   | false =>
     cases r:decide (x<t.ptr.birth) with
     | false=>exact oR d j h pv t (l+1) a o m (.inr r)
     | true=>exact Gs d (by omega) (C (by omega)) z j h u pv t a s y o m n q r
def fR(w:World)(ns:List Nat)(e:Ending)(w':World):Prop:=∃v,e=.returned (.tuple #[v,.int .i64 0])/\w'.ownsRow w.heap.size 3 1 v ns.length (jR ns)/\aA aB w w'
theorem Fu(hK:KI w c S B)(hg:w.heap[g]?=some (.cells #[.int .i64 x] 3 (0,0)))(pv:Value)(t:Tr)(ht:Tr.Ok S 3 t)(J:aU w B pv t.ptr):Calls prog 33 #[.pointer c,.agg (aE pv t.ptr).toArray,nwV g,bkV] w (fR w (bks (aV x) 3 t 0)):=by
 have qg:=O ht;have m:=O hK;have s:=O (fun i (e:B i)=>hK.lt e);have q:=O hg;have G:=O (lt_of_block hg);obtain⟨p,D⟩:=zX9 t.ptr
 have Q:=O D;rw[D] at J ⊢;have o:=O J;have qf:Hid (p.root=true):=O (by rw[←D];exact ht.root);have C:=aF (v:=pv) J.pt.sum;have E:=aL J.pt;have A:=Fq pv p J.pt.sum;obtain⟨pc,r⟩:=zX9 (aE pv p)
 obtain⟨lc,y⟩:=zX9 (dN pv p 0)
 have qi:Hid (∀u∈pc,u.oneCell'=true):=O (by rw[←r];exact E);have qe:=O r;have qc:=O y;rw[r] at C A ⊢;rw[y] at A;have qb:=O A;have R:=O (fun i F=>(J.off i F).2.lt);clear E r y J ht hK D hg A;have d:=lN w;go_in
 go_wp2_with refine bxM d (#[.pointer c]) ?_
 intro b4 w1 j d;replace o:=pK o j;replace m:=O (KI.keep0 m.out j);replace q:=O (j.blk q.out id);clear j
 go_wp2_with refine bxM d (pc.toArray) ?_
 intro b5 w2 j d;replace o:=pK o j;replace m:=O (KI.keep0 m.out j);replace q:=O (j.blk q.out id);clear j
 go_wp2_with refine bxM d (#[nwV g]) ?_
 intro b6 w3 j d;replace o:=pK o j;replace m:=O (KI.keep0 m.out j);replace q:=O (j.blk q.out id);clear j
 go_wp2_with refine bxM d (#[bkV]) ?_
 intro b7 w4 j d;replace o:=pK o j;replace m:=O (KI.keep0 m.out j);replace q:=O (j.blk q.out id);clear j;have c1:=cD d 3
 go_wp2_with ((with_reducible show WL _ _);first
  | refine ldQ (d.b 2) C ?_
  | refine bsA 40 30 (.tmp 15) underlying40 lK (by omega) pc C (by omega) ?_)
 clear c1;intro qj w5 Z j I;replace d:=lW d Z j I;replace o:=pK o j;replace m:=O (KI.keep0 m.out j);replace q:=O (j.blk q.out id);clear Z j I;go_wp2_with fail;refine((zL m.out pv p o.pt qf.out (by rw[qe.out];exact d.b 0):Ka w5 (aH w5 (.int .i64 0)))).mono ?_;rintro e w6 ⟨rfl,j⟩;replace d:=kL d j;replace o:=pK o j;replace m:=O (KI.keep0 m.out j);replace q:=O (j.blk q.out id);clear j
 go_wp2_with refine alS d Ra ?_
 intro b11 w7 j d;replace o:=pK o j;replace m:=O (KI.keep0 m.out j);replace q:=O (j.blk q.out id);clear j
 go_wp2_with refine alS d Qn ?_
 intro b12 w8 j d;replace o:=pK o j;replace m:=O (KI.keep0 m.out j);replace q:=O (j.blk q.out id);clear j
 go_wp2_with refine stV (dbV b6 b7 b11 b4 b12) (d.b 0) ?_
 intro K j I;replace d:=O (d.set 0 j I);replace o:=O (o.keepT j fun i F e=>by have z:=R.out i F;have L:=(d.lt 0).1;omega);replace m:=O (m.keepT j fun i e I=>by have z:=s.out i I;have L:=(d.lt 0).1;omega);replace q:=O (j.blk q.out fun e=>by have z:=G.out;have L:=(d.lt 0).1;omega);clear j I;obtain⟨N0,X⟩:=zX9 K.heap.size
 have qh:g<K.heap.size:=Nat.lt_of_lt_of_le G.out d.keep.size;have W:∀i,B i->i<N0:=fun i e=>by have z:=s.out i e;have L:=d.keep.size;omega
 have Y:ThB B N0 c g x b6 b7 b11 b4 b12 K:=⟨q.out,d.b 4,d.b 3,d.b 6,d.b 0,fun i F=>by
  have g6:=d.lt 4;have g7:=d.lt 3;have g4:=d.lt 6;have qk:=d.lt 0;have V:=d.lt 1;have gg:=G.out;have n6:b11≠b6:=bH d.nd (i:=4) rfl 1 (by decide) rfl;have n7:b11≠b7:=bH d.nd (i:=3) rfl 1 (by decide) rfl;have n4:b11≠b4:=bH d.nd (i:=6) rfl 1 (by decide) rfl;have qm:b11≠b12:=bH d.nd (i:=0) rfl 1 (by decide) rfl;rcases F with rfl|rfl|rfl|rfl|rfl<;>omega,⟨by have V:=d.lt 1;omega,fun e=>by have z:=s.out _ e;have V:=d.lt 1;omega⟩⟩
 have P:Hid (oA N0 b11 K (.slice none 0 0) []):=O ⟨d.b 1,World.ownsRow_nil _ _ _ _⟩;have HT:=O Y;have qa:=O W;have H:=O X;have U:Hid (∀i,pv.ownBlock=some i->i≠b11/\(Value.slice none 0 0).ownBlock≠some i):=O (fun i F=>⟨fun e=>by have z:=R.out i F;have L:=(d.lt 1).1;omega,fun e=>by cases e⟩);clear qh W Y X;have N:=O d.keep.size;have c1:=cD d 0
 go_wp2_with ((with_reducible show WL _ _);first
  | refine ldQ (d.b 5) C ?_
  | refine bld 80 #[(0,.tmp 23)] [(0,.agg pc.toArray)] (.agg lc.toArray) qb.out ?_)
 clear c1;have qd:Hid (w.heap.size≤N0):=O (by have z:=H.out;have L:=N.out;omega);refine((by rw[←qc.out,←Q.out];exact NH qa.out 3 (by omega) K (.slice none 0 0) [] pv t 0 m.out HT.out P.out (by have z:=H.out;have L:=d.keep.size;omega) (by have z:=Hf (x:=x) (t:=t);rw[List.length_nil];omega) (by decide) qg.out (by rw[Q.out];exact o.out) U.out:Ka K (rJ N0 b11 x 3 t 0 (.slice none 0 0) [] K))).mono ?_;rintro e wa ⟨v,rfl,ho,-,j⟩;have M:=O (cell_of_one ho.cell)
 have HP:Hid (fR w (bks (aV x) 3 t 0) (.returned (.tuple #[v,.int .i64 0])) wa):=O (by
  have ql:=d.keep.size;have hn:=H.out;have hr:=ho.row;rw[List.nil_append] at hr;refine⟨v,rfl,bA hr qd.out,d.keep.tT j (fun i F e=>?_)⟩;rcases e with e|e
  ·have z:=(d.lt 1).1;omega
  ·cases e)
 clear d HT P m o ho j;have c1:wa.cell? ⟨b11,0,none⟩=some (v):=M.out;go_wp2_with fail;clear c1
 go_ret2
 exact HP.out
theorem vS(K:KI w c S B)(pv:Value)(t:Tr)(N:Tr.Ok S 3 t)(G:aU w B pv t.ptr)(x:Int):Calls prog 12 #[.pointer c,.agg (aE pv t.ptr).toArray,.int .i64 x] w (fR w (bks (aV x) 3 t 0)):=by
 have H:=O N;have d:=O K;obtain⟨p,u⟩:=zX9 t.ptr
 have D:=O u;rw[u] at G ⊢;have i:=O G;obtain⟨J,C,I,Q⟩:=nmPt G.pt;rw[C.out];clear G N K u;have n:=lN w;go_in
 go_wp2_with refine bxM n (J.toArray) ?_
 intro b4 w1 m n;replace i:=pK i m;replace d:=O (KI.keep0 d.out m);clear m;go_wp2_with fail;refine dwA aB (by kernel_rfl) ?_;intro w2 S o r F q;replace n:=kL n q;replace i:=pK i q;replace d:=O (KI.keep0 d.out q);clear q;have A:=n;have E:=i;have z:=d;refine tna 0 (.pointer c) rfl F ?_;refine tnd 1 (.agg J.toArray) rfl (yieldsIf_load_mid (by rfl) 30 (.tmp 4) rfl b4 0 rfl J _ (fun w' h=>aD ((o w' h).blk (A.b 0) id)) aI rfl (szP9 I)) F ?_;refine tna 2 (.int .i64 x) rfl F ?_;refine wA9 3 ?_;go_wp2_with fail;refine((sC w2 x)).mono ?_;rintro e P ⟨g,rfl,L,-,m⟩;have y:=O L;clear L;have s:=r.out _ ((o _ F).trans m);replace n:=kL n m;replace i:=pK i m;replace d:=O (KI.keep0 d.out m);clear F m;go_wp2_with fail;refine⟨s,?_⟩;refine wA9 4 ?_;go_wp2_with fail;refine((by rw[←C.out,←D.out];exact Fu d.out y.out pv t H.out (by rw[D.out];exact i.out):Ka P (fR P (bks (aV x) 3 t 0)))).mono ?_;rintro e U ⟨v,rfl,M,m⟩;have R:Hid (fR w (bks (aV x) 3 t 0) (.returned (.tuple #[v,.int .i64 0])) U):=O ⟨v,rfl,bA M n.keep.size,n.keep.trans m⟩;have j:=r.out _ ((o _ s).trans m);clear s m M n d i y;go_wp2_with fail;refine⟨j,?_⟩;refine tnb 5 v rfl j ?_;refine tnb 6 (.int .i64 0) rfl j ?_;refine tna 7 v rfl j ?_;refine tna 8 (.int .i64 0) rfl j ?_;refine wpAnyH_done (by kernel_rfl) ?_ _;clear j o r A E z;go_wp2
 go_ret2
 exact R.out
theorem xX(P:KI w c S B)(pv:Value)(t:Tr)(W:Tr.Ok S 3 t)(K:aU w B pv t.ptr)(x:Int):Calls prog 9 #[.pointer c,.agg (aE pv t.ptr).toArray,.int .i64 x] w (dR w ((thr (aV x) 3 t 0).map (·.1))):=by
 have I:=O W;have d:=O P;obtain⟨p,A⟩:=zX9 t.ptr
 have G:=O A;rw[A] at K ⊢;have j:=O K;obtain⟨N,F,L,Y⟩:=nmPt K.pt;rw[F.out];clear K W P A;have o:=lN w;go_in
 go_wp2_with refine bxM o (N.toArray) ?_
 intro b4 w1 n o;replace j:=pK j n;replace d:=O (KI.keep0 d.out n);clear n;go_wp2_with fail;refine dwA aB (by kernel_rfl) ?_;intro w2 S q u J s;replace o:=kL o s;replace j:=pK j s;replace d:=O (KI.keep0 d.out s);clear s;have E:=o;have H:=j;have D:=d;refine tna 0 (.pointer c) rfl J ?_;refine tnd 1 (.agg N.toArray) rfl (yieldsIf_load_mid (by rfl) 30 (.tmp 4) rfl b4 0 rfl N _ (fun w' h=>aD ((q w' h).blk (E.b 0) id)) aI rfl (szP9 L)) J ?_;refine tna 2 (.int .i64 x) rfl J ?_;refine wA9 3 ?_;go_wp2_with fail;refine((sC w2 x)).mono ?_;rintro e X ⟨g,rfl,Q,-,n⟩;have C:=O Q;clear Q;have z:=u.out _ ((q _ J).trans n);replace o:=kL o n;replace j:=pK j n;replace d:=O (KI.keep0 d.out n);clear J n;go_wp2_with fail;refine⟨z,?_⟩;refine wA9 4 ?_;go_wp2_with fail;refine((by rw[←F.out,←G.out];exact zM d.out C.out pv t I.out (by rw[G.out];exact j.out) (yL I.out):Ka X (dR X ((thr (aV x) 3 t 0).map (·.1))))).mono ?_;rintro e w4 ⟨v,qs,rfl,V,U,r,n⟩;have Z:Hid (dR w ((thr (aV x) 3 t 0).map (·.1)) (.returned (.tuple #[v,.int .i64 0])) w4):=O ⟨v,qs,rfl,V,bA U o.keep.size,fun y M=>⟨(r y M).1,fun i R=>⟨Nat.le_trans o.keep.size ((r y M).2 i R).1,((r y M).2 i R).2⟩⟩,o.keep.trans n⟩;have m:=u.out _ ((q _ z).trans n);clear z n V U r o d j C;go_wp2_with fail;refine⟨m,?_⟩;refine tnb 5 v rfl m ?_;refine tnb 6 (.int .i64 0) rfl m ?_;refine tna 7 v rfl m ?_;refine tna 8 (.int .i64 0) rfl m ?_;refine wpAnyH_done (by kernel_rfl) ?_ _;clear m q u E H D;go_wp2
 go_ret2
 exact Z.out
end
end Go.Proofs.YtoeinblfcbpcmaaGreat
