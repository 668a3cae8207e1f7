import Derived.Test.YtiinnfhjpaeffaaGreatU27
import Derived.Deep.DeepAppendRoom
namespace Go.Proofs.YtiinnfhjpaeffaaGreat
open Tryz
set_option maxHeartbeats 0
set_option maxRecDepth 100000
set_option linter.unusedVariables false
section
open Go.RowKit Go.Maps Go.ChangeMaps
variable{P:Program}{w w' w0 w1:World}{ops:Array Oper}{xT:List Oper}{o:Oper}{a:Act}{Q:Exit->Act->World->Prop}{A C:List Value}{vs:Nat->Value}{k lv g c l D Z:Nat}{v:Value}{T B:Nat->Prop}{bs:List UInt8}{S:Kor}{t:Tr}
theorem DF(w:World)(T e:TypeId)(len size i:Nat)(m:Array Value)(k:IntKind)(d:TypeDesc)(q:P.underlying T=some (.array len e))(x:i<len)(j:P.underlying e=some d)(u:(match d with|.struct _|.array _ _=>true|_=>false)=true)(n:(P.info? e).map (·.size)=some size) :
 (Instr.index T (.agg m) (.int k (i:Int))).run P w=.ok (.agg (m.extract (i*size) (i*size+size))) w:=by
 cases f:P.info? e with
 | none=>simp[f] at n
 | some r =>
   have h:r.size=size:=by simpa [f] using n
   have b:(isAgg e).run P w=.ok true w:=by
    unfold isAgg;rw[Sem.run_bind,run_underlying j w];cases d<;>simp_all
   have p:(0:Int)≤(i:Int)/\(i:Int)<(len:Int):=by omega
   simp[Instr.index,asIntOf,run_underlying q,sizeOf,typeInfo,f,h,p,part,b,Sem.run_bind];intro s;omega
theorem idx(T e:TypeId)(len size i:Nat)(b:Array Value)(k:IntKind)(d:TypeDesc)(x y:Operand)(s:P.underlying T=some (.array len e))(p:i<len)(f:P.underlying e=some d)(m:(match d with|.struct _|.array _ _=>true|_=>false)=true)(r:(P.info? e).map (·.size)=some size)
 (h:wpList P ops Q xT (a.put o.dst (.agg (b.extract (i*size) (i*size+size)))) w) (u:a.eval x=.agg b:=by rfl) (z:a.eval y=.int k (i:Int):=by rfl) (n:o.guard=none:=by rfl) (q:o.op=.index T x y:=by rfl):wpList P ops Q (o::xT) a w:=by
 refine wpList_plain n fun K j=>?_
 unfold Oper.wp execOp;simp only[q,u,z,Sem.run_bind,DF w T e len size i b k d s p f m r,Result.andThen_ok];exact j _ _ h
theorem AB(h:A.length=35):(A++C).take 35=A:=by rw[←h,List.take_left]
theorem oE(h:A.length=35):(A++C).drop 35=C:=by rw[←h,List.drop_left]
def tQ(vs:Nat->Value)(b:Nat->Pt):List Value:=aF (vs 0) (b 0)++(aF (vs 1) (b 1)++(aF (vs 2) (b 2)++aF (vs 3) (b 3)))
theorem GQ{f:Nat->Pt}(b:dM w vs f)(h:k<4):(tQ vs f).toArray.extract (k*35) (k*35+35)=(aF (vs k) (f k)).toArray:=by
 have d:=aJ (v:=vs 0) (b 0 (by omega)).sum;have e:=aJ (v:=vs 1) (b 1 (by omega)).sum;have l2:=aJ (v:=vs 2) (b 2 (by omega)).sum;have l3:=aJ (v:=vs 3) (b 3 (by omega)).sum;rw[List.extract_toArray,List.extract_eq_take_drop,Nat.add_sub_cancel_left]
 congr 1
 unfold tQ;rcases k with _|_|_|_|k
 ·exact AB d
 ·rw[show (0+1)*35=35 from rfl,oE d];exact AB e
 ·rw[show (0+1+1)*35=35+35 from rfl,←List.drop_drop,oE d,oE e];exact AB l2
 ·rw[show (0+1+1+1)*35=35+(35+35) from rfl,←List.drop_drop,←List.drop_drop,oE d,oE e,oE l2,←l3,List.take_length]
 ·omega
theorem AC(z:o.guard=none)(s x:Operand)(t:TypeId)
 (L:o.op=.call { callee:=.builtin .append,args:=#[s,x],argTypes:=#[t,t] })
 (e:TypeId) (i:TypeInfo) (R:P.underlying t=some (.slice e)) (I:P.info? e=some i) (d:i.size=1)
 (g n f:Nat) (cur:Array Value) (F:w.heap[g]?=some (.cells cur e (0,0))) (N:a.eval s=.slice g n f)
 (y:Addr) (m c:Nat) (b:List Value) (U:a.eval x=.slice (some y) m c) (E:b.length=m) (q:∀j u,b[j]?=some u->w.cell? (y.add j)=some u) (G:∀u∈b,u.oneCell'=true)
 (r:n+m≤f) (p:n+m≤cur.size)
 (h:∀w',w'.heap[g]?=some (.cells (spl cur n b) e (0,0))->aA (fun k=>k=g) w w'->wpList P ops Q xT (a.put o.dst (.slice g (n+m) f)) w'):wpList P ops Q (o::xT) a w:=by
 have M:=run_append_room (P:=P) w t o.type e i R I g n f cur F y m c b (by rw[d,Nat.mul_one];exact E) q G r (by rw[d,Nat.mul_one,E];exact p);refine wpList_plain z fun K H=>?_
 unfold Oper.wp execOp;simp only[L,resolve,invoke,builtin,Sem.run_bind,Sem.run_pure,Result.andThen_ok,List.map_toArray,List.map_cons,List.map_nil,N,U,M];refine H _ _ (h _ ?_ ⟨rfl,rfl,rfl,by simp,fun k _ J=>setRow_other w g k _ J⟩);rw[setRow_heap w g cur _ e _ F,←wM cur n b (by rw[E];exact p)];simp[d]
theorem Ql(w:World):(Instr.makeSlice 109 (.int .i64 1) (.int .i64 256)).run prog w=.ok (.slice (w.heap.size) 1 256) (w.alloc (.cells dK.toArray 5)):=by kernel_rfl
theorem mks(x y:Operand)(h:∀b w',w.heap.size=b->aA aB w w'->w'.heap[b]?=some (.cells dK.toArray 5 (0,0))->wpList prog ops Q xT (a.put o.dst (.slice (some ⟨b,0,none⟩) 1 256)) w')(i:a.eval x=.int .i64 1:=by rfl)(j:a.eval y=.int .i64 256:=by rfl)(e:o.guard=none:=by rfl)(f:o.op=.makeSlice 109 x y:=by rfl):wpList prog ops Q (o::xT) a w:=by
 refine wpList_plain e fun K d=>?_
 unfold Oper.wp execOp;simp only[f,i,j,Sem.run_bind,Ql,Result.andThen_ok];exact d _ _ (h _ _ rfl ((aA.refl _ _).alloc _) (heap_alloc_new _ _))
theorem PH(w:World):(Instr.makeSlice 109 (.int .i64 256) (.int .i64 256)).run prog w=.ok (.slice (w.heap.size) 256 256) (w.alloc (.cells dK.toArray 5)):=by kernel_rfl
theorem mkz(x y:Operand)(h:∀b w',w.heap.size=b->aA aB w w'->w'.heap[b]?=some (.cells dK.toArray 5 (0,0))->wpList prog ops Q xT (a.put o.dst (.slice (some ⟨b,0,none⟩) 256 256)) w')(i:a.eval x=.int .i64 256:=by rfl)(j:a.eval y=.int .i64 256:=by rfl)(e:o.guard=none:=by rfl)(f:o.op=.makeSlice 109 x y:=by rfl):wpList prog ops Q (o::xT) a w:=by
 refine wpList_plain e fun K d=>?_
 unfold Oper.wp execOp;simp only[f,i,j,Sem.run_bind,PH,Result.andThen_ok];exact d _ _ (h _ _ rfl ((aA.refl _ _).alloc _) (heap_alloc_new _ _))
def oF(lv:Nat)(b:Nat->Pt)(k:Nat):List UInt8:=UInt8.ofNat lv::(List.range k).flatMap fun j=>ptB (b j)
theorem CZ(lv:Nat)(b:Nat->Pt)(k:Nat):oF lv b (k+1)=oF lv b k++ptB (b k):=by unfold oF;rw[List.range_succ,List.flatMap_append,List.flatMap_cons,List.flatMap_nil,List.append_nil];rfl
theorem vG(lv:Nat)(b:Nat->Pt)(h:∀k,k<4->(ptB (b k)).length=47):∀k,k≤4->(oF lv b k).length=1+k*47
 | 0,_=>rfl
 | k+1,d=>by rw[CZ,List.length_append,vG lv b h k (by omega),h k (by omega)];omega
def rJ(lv:Nat)(b:Nat->Pt)(k:Nat):List Value:=(oF lv b k).map vb++List.replicate (255-k*47) (.int .u8 0)
theorem AD(lv:Nat)(b:Nat->Pt)(h:∀k,k<4->(ptB (b k)).length=47)(k:Nat)(d:k≤4):(rJ lv b k).length=256:=by
 unfold rJ;rw[List.length_append,List.length_map,vG lv b h k d,List.length_replicate];omega
theorem KA(lv:Nat)(b:Nat->Pt)(h:∀k,k<4->(ptB (b k)).length=47)(k:Nat)(f:k<4):spl (rJ lv b k).toArray (1+k*47) ((ptB (b k)).map vb)=(rJ lv b (k+1)).toArray:=by
 have d:=vG lv b h k (by omega);have h7:=h k f;rw[←wM _ _ _ (by rw[List.size_toArray,AD lv b h k (by omega),List.length_map,h7];omega)]
 congr 1
 unfold rJ;rw[CZ,List.map_append,List.append_assoc];have e:(oF lv b k).map vb=((oF lv b k).map vb++List.replicate (255-k*47) (Value.int .u8 0)).take (1+k*47):=by rw[List.take_left' (by rw[List.length_map,d])]
 simp only[];rw[←e,List.length_map,h7]
 congr 2
 rw[←List.drop_drop,List.drop_left' (by rw[List.length_map,d]),List.drop_replicate]
 congr 1
 omega
theorem NH:(prog.info? 96).map (·.size)=some 140:=by kernel_rfl
theorem KB(lv:Nat)(b:lv<256)(d:Nat->Pt):spl dK.toArray 0 [.int .u8 (lv:Int)]=(rJ lv d 0).toArray:=by
 rw[←wM _ _ _ (by simp[mZ])]
 congr 1
 unfold rJ oF;rw[List.map_cons,ND b];rfl
def xV(w:World)(lv:Nat)(b:Nat->Pt)(e:Ending)(w':World):Prop:=
 ∃v,e=.returned (.tuple #[v,.int .i64 0])/\w'.ownsRow w.heap.size 5 1 v 256 (rJ lv b 4)/\aA aB w w'
theorem OF{b:Nat->Pt}{lv:Int}(h:dM w vs b)(e:∀k,k<4->Cd lv (b k)):∀k,k<4->(ptB (b k)).length=47:=fun k d=>by
 have f:(b k).may=true:=(e k d).elim kN fun h=>h.2.1
 unfold ptB;rw[if_pos f,eM (h k d).sum]
theorem oG{base b:Nat}{d:List Value}(h:w.heap[b]?=some (.cells d.toArray 5 (0,0)))(f:d.length=256)(e:base≤b):w.ownsRow base 5 1 (.slice b 256 256) 256 d:=by
 refine⟨by simp[f],.inr ⟨b,256,d.toArray,rfl,e,h,Nat.le_refl _,by unfold maxLen;omega,by simp[f],?_⟩⟩;rw[List.toList_toArray,←f];simp
theorem C3(w:World)(lv:Nat)(vs:Nat->Value)(m:Nat->Pt)(h:dM w vs m)(V:1≤lv)(h3:lv≤3)(hf:∀k,k<4->Cd (lv:Int) (m k)):Calls prog 113 #[.agg (bU (lv:Int) vs m).toArray] w (xV w lv m):=by
 have U:=cX (lv:Int) vs h
 have qf:(tQ vs m).length=140:=by
  have:=U;unfold bU at this;rw[List.length_cons] at this;unfold tQ;omega
 obtain⟨tc,E⟩:=zX9 (tQ vs m)
 obtain⟨nc,q⟩:=zX9 (bU (lv:Int) vs m)
 have qb:Hid (nc=.int .i64 (lv:Int)::tc):=O (by rw[←q,←E];rfl);have qp:=O E;have qu:Hid (∀u∈nc,u.oneCell'=true):=O (by rw[←q];exact cZ (lv:Int) h);have ql:=O q;have I:=O (OF h hf);rw[q] at U ⊢;rw[E] at qf;have f:=O h;have HF:=O hf;have h10:0≤(lv:Int):=by omega
 have qv:(lv:Int)≤3:=by omega
 have d:=lN w;clear h q hf E;have n:=f;go_in
 go_wp2_with ((with_reducible show WL _ _);refine bxL d 98 (.tmp 0) (nc.toArray) ?_)
 intro b1 w1 b d;replace f:=O (dM.keep f.out b);clear b
 go_wp2_with ((with_reducible show WL _ _);refine wpList_load_mid rfl 98 (.tmp 1) rfl b1 0 rfl nc _ (aC (d.b 0)) underlying98 rfl (by rw[U];exact dA) ?_)
 refine((by rw[←ql.out];exact IM w1 (lv:Int) vs m f.out (by omega) (by omega) HF.out:Ka w1 (aK w1 (.int .i64 0)))).mono ?_;rintro e w2 ⟨rfl,b⟩;replace d:=kL d b;replace f:=O (dM.keep f.out b);clear b
 go_wp2_with ((with_reducible show WL _ _);refine mks (.const (.int .i64 1)) (.const (.int .i64 256)) ?_)
 intro G w3 H b y;replace d:=lW d H b y;replace f:=O (dM.keep f.out b);clear H b y;have c1:w3.cell? ⟨b1,0,none⟩=some (.int .i64 (lv:Int)):=(aD (i:=0) (d.b 1) (by rw[qb.out];rfl))
 go_wp2_with ((with_reducible show WL _ _);refine sta 5 (.tmp 20) (.tmp 19) G 0 ([.int .u8 (lv:Int)]) (d.b 0) (by simp[mZ]) (by kernel_rfl) (one9) ?_)
 clear c1;intro w4 b y;rw[KB lv (by omega) m] at y;replace d:=O (d.set 0 b y);replace f:=O (dM.keep n.out d.keep);clear b y
 go_wp2_with ((with_reducible show WL _ _);refine wpList_load_mid rfl 96 (.tmp 21) rfl b1 1 rfl tc _ (by have h:=aC (d.b 1);rw[qb.out] at h;exact vF h) underlying96 rfl (by rw[qf];exact NH) ?_)
 have HB:=O (d.b 1);have J:=O (d.b 0);have Y:=O (d.lt 0);have qt:Hid (b1≠G):=O (fun e=>by have V:=HB.out;rw[e,J.out] at V;injection V with V;injection V with V h2;revert h2;decide);have qi:=O d.keep
 obtain⟨iu,qc,qe⟩:∃i,prog.info? 5=some i/\i.size=1:=by
  cases hq:prog.info? 5 with
  | none=>have:=AV;rw[hq] at this;cases this
  | some i=>exact⟨i,rfl,by have:=AV;rw[hq] at this;simpa using this⟩
 have qh:=O qc;have qo:=O qe;clear d f qc qe
 go_loopw [5,23] (fun s i wr=>∃k:Nat,k≤4/\s=.slice G (1+k*47) 256/\i=.int .i64 k/\Hid (aA aB w wr)/\Hid (wr.heap[G]?=some (.cells (rJ lv m k).toArray 5 (0,0)))) (fun _ i _=>4-(intOf i).toNat)
 case atStart=>exact⟨0,by omega,rfl,rfl,qi,J⟩
 case round =>
  obtain⟨k,b,rfl,rfl,HK,r⟩:=hrel
  by_cases p:k<4
  ·have F:=O (dM.keep n.out HK.out)
   have x:=aJ (v:=vs k) (n k p).sum;have L:=O (GQ n.out p);rw[qp.out] at L;have qk:Hid ((m k).may=true):=O ((HF k p).elim kN fun h=>h.2.1);have M:=O (I k p);obtain⟨pk,z⟩:=zX9 (aF (vs k) (m k))
   have qm:Hid (∀u∈pk,u.oneCell'=true):=O (by rw[←z];exact aN (n k p));have qn:=O z;rw[z] at x L;have d:=lN wr;have R:(0:Int)≤(k:Int):=by omega
   have qw:(k:Int)<4:=by omega
   clear z
   go_wp2_with ((with_reducible show WL _ _);first
    | refine idx 96 27 4 35 k _ .i64 _ (.tmp 22) (.tmp 23) underlying96 p aG rfl xB ?_;rw[L.out]
    | refine al 27 (.agg aH.toArray) (aH.toArray) bA ?_)
   intro b7 w5 H R K
   go_wp2_with ((with_reducible show WL _ _);refine sta 27 (.tmp 7) (.tmp 25) b7 0 pk K (by first|decide|(rw[List.size_toArray,x];exact Nat.le_refl _)|simp[x]) (szP9 x) qm.out ?_)
   intro w6 b y;rw[aI _ _ (by first|rfl|(rw[List.size_toArray,x];rfl)|simp[x])] at y;replace b:=tX R b (fun i hi e=>by omega);replace d:=lW d H b y;replace F:=O (dM.keep F.out b);replace r:=O (b.blk r.out id);clear H b y R K
   go_wp2_with ((with_reducible show WL _ _);refine wpList_load_mid rfl 27 (.tmp 7) rfl b7 0 rfl pk _ (aC (d.b 0)) aG rfl (szP9 x) ?_)
   refine((by rw[←qn.out];exact xC w6 (vs k) (m k) (F k p):Ka w6 (CM w6 (m k)))).mono ?_;rintro e w7 ⟨v1,rfl,ho,b⟩;rw[if_pos qk.out];rw[M.out] at ho;obtain⟨pa,pc,rfl,-,-⟩:=(Rd.of_owns ho).form;have HO:=O ho;clear ho;replace d:=kL d b;replace F:=O (dM.keep F.out b);replace r:=O (b.blk r.out id);clear b
   obtain⟨pg,po,qr,qq,qd⟩:∃g o N,Value.slice pa 47 pc=.slice (some ⟨g,o,none⟩) 47 N/\∀j u,((ptB (m k)).map vb)[j]?=some u->w7.cell? ⟨g,o+j,none⟩=some u:=by
    obtain⟨_,a',N,he,-,-,-,h4⟩:=Rd.of_owns HO.out;obtain⟨g,o,rfl,hc⟩:=h4 (by rw[List.length_map,M.out];decide);exact⟨g,o,N,he,hc⟩
   injection qq with e1 e2 e3
   subst e1;subst e3;have X:=O qd;clear qd e2;have W:=r;have qa:=O d.keep
   go_wp2_with (first
    | (at_builtin;refine AC rfl (.tmp 31) (.tmp 32) 109 rfl 5 iu underlying109 qh.out qo.out G (1+k*47) 256 _ W.out rfl ⟨pg,po,none⟩ 47 pc ((ptB (m k)).map vb) rfl (by rw[List.length_map,M.out]) (fun j u hj=>by rw[jU];exact X.out j u hj) (bT _) (by omega) (by rw[List.size_toArray,AD lv m I.out k (by omega)];omega) ?_))
   intro w9 y b;rw[KA lv m I.out k p] at y;have qj:Hid (aA aB w w9):=O ((HK.trans qa.out).tT b (fun i hi e=>by have:=Y.1;omega));have qg:=O y;clear y b d F r HO X W qa;go_wp2
   go_roundw
   case rel=>exact⟨k+1,by omega,(by rw[show 1+(k+1)*47=1+k*47+47 by omega]),by go_num,qj,qg⟩
   case measure=>simp[intOf];omega
  ·obtain rfl:k=4:=by omega
   go_wp2
   go_ret2
   exact⟨_,rfl,oG r.out (AD lv m I.out 4 (by omega)) Y.1,HK.out⟩
def nb(lv:Nat)(b:Nat->Pt):List UInt8:=oF lv b 4++List.replicate 67 0
theorem KD(lv:Nat)(b:Nat->Pt):(nb lv b).map vb=rJ lv b 4:=by unfold nb rJ;rw[List.map_append,List.map_replicate];rfl
theorem PI(lv:Nat)(b:Nat->Pt)(h:∀k,k<4->(ptB (b k)).length=47):(nb lv b).length=256:=by
 unfold nb;rw[List.length_append,vG lv b h 4 (by omega),List.length_replicate]
def fT{α:Type}(f:Nat->α)(k:Nat)(v:α):Nat->α:=fun j=>if j=k then v else f j
theorem oH{α:Type}(f:Nat->α)(k:Nat)(v:α):fT f k v k=v:=if_pos rfl
theorem oI{α:Type}(f:Nat->α){j:Nat}(v:α)(h:j≠k):fT f k v j=f j:=if_neg h
theorem jA(P A B R:List Value)(h:B.length=A.length):spl (P++(A++R)).toArray P.length B=(P++(B++R)).toArray:=by
 rw[←wM _ _ _ (by simp;omega)]
 congr 1
 rw[List.toList_toArray,List.take_left,←List.drop_drop,List.drop_left,h,List.drop_left]
theorem EZ{b:Nat->Pt}(d:dM w vs b)(lv:Int)(m:k<4){p:Pt}(j:p.sum.length=32):spl (bU lv vs b).toArray (1+k*35) (aF v p)=(bU lv (fT vs k v) (fT b k p)).toArray:=by
 have e:=aJ (v:=vs 0) (d 0 (by omega)).sum;have i:=aJ (v:=vs 1) (d 1 (by omega)).sum;have l2:=aJ (v:=vs 2) (d 2 (by omega)).sum;have l3:=aJ (v:=vs 3) (d 3 (by omega)).sum;have f:=aJ (v:=v) j;rcases k with _|_|_|_|k
 ·exact jA [.int .i64 lv] (aF (vs 0) (b 0)) (aF v p) (aF (vs 1) (b 1)++(aF (vs 2) (b 2)++aF (vs 3) (b 3))) (by rw[f,e])
 ·have h:=jA (.int .i64 lv::aF (vs 0) (b 0)) (aF (vs 1) (b 1)) (aF v p) (aF (vs 2) (b 2)++aF (vs 3) (b 3)) (by rw[f,i])
  rw[List.length_cons,e] at h;exact h
 ·have h:=jA (.int .i64 lv::(aF (vs 0) (b 0)++aF (vs 1) (b 1))) (aF (vs 2) (b 2)) (aF v p) (aF (vs 3) (b 3)) (by rw[f,l2])
  rw[List.length_cons,List.length_append,e,i,List.cons_append,List.cons_append,List.append_assoc,List.append_assoc] at h;exact h
 ·have h:=jA (.int .i64 lv::(aF (vs 0) (b 0)++(aF (vs 1) (b 1)++aF (vs 2) (b 2)))) (aF (vs 3) (b 3)) (aF v p) [] (by rw[f,l3])
  rw[List.length_cons,List.length_append,List.length_append,e,i,l2,List.cons_append,List.cons_append,List.append_assoc,List.append_assoc,List.append_assoc,List.append_assoc,List.append_nil,List.append_nil] at h;exact h
 ·omega
def vH(b:Nat->Pt)(k:Nat):Nat->Pt:=fun j=>if j<k then b j else zPt
theorem C4(b:Nat->Pt)(k:Nat):vH b (k+1)=fT (vH b k) k (b k):=by
 funext j
 unfold vH fT
 by_cases e:j=k
 ·subst e;rw[if_pos (by omega),if_pos rfl]
 ·rw[if_neg e]
  show _=if j<k then b j else zPt
  by_cases h:j<k
  ·rw[if_pos h,if_pos (by omega)]
  ·rw[if_neg h,if_neg (by omega)]
def IsC(w:World)(k:Nat):Prop:=∃b t,w.heap[k]?=some (.cells b t (0,0))
theorem IsC.lt(h:IsC w k):k<w.heap.size:=by obtain⟨b,t,h⟩:=h;exact lt_of_block h
theorem IsC.keep(h:IsC w k)(e:aA T w w')(d:¬T k):IsC w' k:=by obtain⟨b,t,h⟩:=h;exact⟨b,t,e.blk h d⟩
def sZ(w0 w:World)(v:Value):Prop:=∀i,v.ownBlock=some i->w0.heap.size≤i/\IsC w i
theorem sZ.keep(h:sZ w0 w v)(k:aA T w w')(d:∀i,v.ownBlock=some i->¬T i):sZ w0 w' v:=fun i b=>⟨(h i b).1,(h i b).2.keep k (d i b)⟩
def fZ(w0 w:World)(vs:Nat->Value)(b:Nat->Pt):Prop:=∀k,k<4->PtV w (vs k) (b k)/\sZ w0 w (vs k)
theorem fZ.nv{b:Nat->Pt}(h:fZ w0 w vs b):dM w vs b:=fun k d=>(h k d).1
theorem fZ.keep{m:Nat->Pt}(h:fZ w0 w vs m)(k:aA T w w')(f:∀i,T i->¬(w0.heap.size≤i/\∃j,j<4/\(vs j).ownBlock=some i)):fZ w0 w' vs m:=fun i b =>
 ⟨(h i b).1.keep k fun j d e=>f j e ⟨((h i b).2 j d).1,i,b,d⟩,fun j d=>⟨((h i b).2 j d).1,((h i b).2 j d).2.keep k fun e=>f j e ⟨((h i b).2 j d).1,i,b,d⟩⟩⟩
theorem fZ.keep0{b:Nat->Pt}(h:fZ w0 w vs b)(k:aA aB w w'):fZ w0 w' vs b:=h.keep k fun _ e=>e.elim
theorem vI(w:World):PtV w (.slice none 0 0) zPt:=⟨Rd.nil w 2,fun x b=>(by cases b),rfl⟩
theorem fZ.zero(w0 w:World):fZ w0 w (fun _=>.slice none 0 0) (fun _=>zPt):=fun _ _=>⟨vI w,fun i b=>by cases b⟩
theorem fZ.put{b:Nat->Pt}(h:fZ w0 w vs b){p:Pt}(j:PtV w v p)(f:sZ w0 w v):fZ w0 w (fT vs k v) (fT b k p):=fun i d=>by
 by_cases e:i=k
 ·subst e;rw[oH,oH];exact⟨j,f⟩
 ·rw[oI _ _ e,oI _ _ e];exact h i d
def zR(w:World)(lv:Nat)(b:Nat->Pt)(e:Ending)(w':World):Prop:=
 ∃vs,e=.returned (.tuple #[.agg (bU (lv:Int) vs b).toArray,.int .i64 0])/\fZ w w' vs b/\aA aB w w'
theorem MY(lv:Int):prog.built 98 [(0,.int .i64 lv)]=some (bU lv (fun _=>.slice none 0 0) (fun _=>zPt)).toArray:=by kernel_rfl
theorem Cf(lv:Int)(w:World):(Instr.build 98 #[(0,.int .i64 lv)]).run prog w=.ok (.agg (bU lv (fun _=>.slice none 0 0) (fun _=>zPt)).toArray) w:=run_build w 98 _ _ (MY lv)
theorem OH{o a n:Nat}{l:List UInt8}(p:∀j u,(l.map vb)[j]?=some u->w.cell? ⟨g,o+j,none⟩=some u)(r:(l.drop k).take 47=bs)(d:bs.length=47)(m:a=o+k)(q:n=47)(f:47≤c)(h:c≤maxLen):Rd w 1 (.slice (some ⟨g,a,none⟩) n c) bs.length (bs.map vb):=by
 subst m q;rw[d];refine⟨by rw[List.length_map,d],_,_,rfl,f,h,(fun e=>by cases e),fun _=>⟨g,_,rfl,fun i u b=>?_⟩⟩;rw[show o+k+i=o+(k+i) by omega];refine p _ _ ?_;rw[←r,List.getElem?_map,List.getElem?_take] at b;split at b
 ·rw[List.getElem?_drop] at b
  rw[List.getElem?_map];exact b
 ·cases b
theorem OI(lv:Nat)(b:Nat->Pt)(h:∀k,k<4->(ptB (b k)).length=47)(m:k<4):((nb lv b).drop (1+k*47)).take 47=ptB (b k):=by
 have e:oF lv b 4=UInt8.ofNat lv::(ptB (b 0)++(ptB (b 1)++(ptB (b 2)++ptB (b 3)))):=by
  unfold oF;simp[List.range_succ]
 have d:=h 0 (by omega);have f:=h 1 (by omega);have l2:=h 2 (by omega);have l3:=h 3 (by omega);unfold nb;rw[e]
 have cut:∀(A B C:List UInt8) (n:Nat),A.length=n->B.length=47->((A++(B++C)).drop n).take 47=B:=fun A B C n i j=>by
  rw[←i,List.drop_left,←j,List.take_left]
 rcases k with _|_|_|_|k
 ·exact(congrArg (fun l=>(List.drop 1 l).take 47) (by simp[List.append_assoc])).trans (cut [UInt8.ofNat lv] (ptB (b 0)) (ptB (b 1)++(ptB (b 2)++(ptB (b 3)++List.replicate 67 0))) 1 rfl d)
 ·exact(congrArg (fun l=>(List.drop 48 l).take 47) (by simp[List.append_assoc])).trans (cut (UInt8.ofNat lv::ptB (b 0)) (ptB (b 1)) (ptB (b 2)++(ptB (b 3)++List.replicate 67 0)) 48 (by simp[d]) f)
 ·exact(congrArg (fun l=>(List.drop 95 l).take 47) (by simp[List.append_assoc])).trans (cut (UInt8.ofNat lv::(ptB (b 0)++ptB (b 1))) (ptB (b 2)) (ptB (b 3)++List.replicate 67 0) 95 (by simp[d,f]) l2)
 ·exact(congrArg (fun l=>(List.drop 142 l).take 47) (by simp[List.append_assoc])).trans (cut (UInt8.ofNat lv::(ptB (b 0)++(ptB (b 1)++ptB (b 2)))) (ptB (b 3)) (List.replicate 67 0) 142 (by simp[d,f,l2]) l3)
 ·omega
theorem MZ{p:Pt}(e:p.sum.length=32)(b:p.may=true):lZ (ptB p)=true/\gZ (ptB p)=p:=by
 have d:=xW e b;have f:=eM e;unfold ptB;rw[if_pos b,d];unfold lZ;rw[d,f,b];unfold ptB;rw[if_pos b];simp
theorem zS(w:World)(bv:Value)(lv:Nat)(q:Nat->Pt)(h1:1≤lv)(h3:lv≤3)(hs:∀k,k<4->(q k).sum.length=32)(hf:∀k,k<4->Cd (lv:Int) (q k))(hr:Rd w 1 bv 256 ((nb lv q).map vb)):Calls prog 75 #[bv] w (zR w lv q):=by
 have qr:∀k,k<4->(q k).may=true:=fun k b=>(hf k b).elim kN fun h=>h.2.1
 have qn:∀k,k<4->(ptB (q k)).length=47:=fun k b=>by unfold ptB;rw[if_pos (qr k b),eM (hs k b)]
 have ql:=O (PI lv q qn);obtain⟨_,oa,ca,rfl,zt,q1,-,q0⟩:=id hr;obtain⟨g,o,rfl,qp⟩:=q0 (by rw[List.length_map,ql.out];decide);unfold maxLen at q1;have HC:=O qp;have zr:=O (show ca≤maxLen from q1);have HR:=O hr;have zo:=HR;have qz:w.cell? ⟨g,o,none⟩=some (.int .u8 (lv:Int))  :=qp 0 _ (by unfold nb oF;rw[List.cons_append,List.map_cons,ND (by omega)];rfl);have I:=O qz;have zh:=O qr;have M:=O hs;have HF:=O hf;have qt:=O qn;have J:(bU (lv:Int) (fun _=>.slice none 0 0) (fun _=>zPt)).length=141:=rfl;have qg:Hid (∀u∈bU (lv:Int) (fun _=>.slice none 0 0) (fun _=>zPt),u.oneCell'=true):=O (cZ (w:=w) (lv:Int) fun _ _=>vI w);have qo:=Cf (lv:Int);obtain⟨nz,G⟩:=zX9 (bU (lv:Int) (fun _=>.slice none 0 0) (fun _=>zPt))
 have zl:Hid (∀u∈nz,u.oneCell'=true):=O (by rw[←G];exact qg.out);have zj:=O G;rw[G] at J qo;have za:=O qo;have h10:0≤(lv:Int):=by omega
 have zs:(lv:Int)≤3:=by omega
 have d:=lN w;clear hr q0 qp qz qr hs hf qn G qo qg;go_in
 go_wp2_with ((with_reducible show WL _ _);refine alL d 98 (.agg cQ.toArray) (cQ.toArray) iM ?_)
 intro b2 w1 b d;replace I:=O (b.cell I.out id);replace HR:=O (HR.keep b fun _ _=>id);clear b;have c1:w1.cell? ⟨g,o,none⟩=some (.int .u8 (lv:Int)):=I.out
 go_wp2_with ((with_reducible show WL _ _);first
  | refine bld 98 #[(0,.tmp 17)] [(0,.int .i64 (lv:Int))] (.agg nz.toArray) za.out ?_
  | refine al 98 (.agg cQ.toArray) (cQ.toArray) iM ?_)
 clear c1;intro U w2 qy qq qi
 go_wp2_with ((with_reducible show WL _ _);refine sta 98 (.tmp 4) (.tmp 18) U 0 nz qi (by first|decide|(rw[List.size_toArray,J];exact Nat.le_refl _)|simp[J,bK]) (by rw[J];exact dA) zl.out ?_)
 intro w3 b x;rw[aI _ _ (by first|rfl|(rw[List.size_toArray,J];rfl)|simp[J,bK])] at x;replace b:=tX qq b (fun i X e=>by omega);replace d:=lW d qy b x;replace I:=O (b.cell I.out id);replace HR:=O (HR.keep b fun _ _=>id);clear qy b x qq qi;go_wp2_with fail;have n:=O (d.b 1);have m:=O (d.b 0);have qu:=O (And.intro (d.lt 1).1 (d.lt 0).1);have zi:Hid (b2≠U):=O (fun e=>bH (i:=0) d.nd rfl 1 (by decide) rfl e);have zd:=O d.keep;clear d HR I
 go_loopw [19] (fun i wr=>∃k:Nat,k≤4/\i=.int .i64 k/\Hid (aA aB w wr)/\Hid (∃vs,fZ w wr vs (vH q k)/\(∀j,j<4->(vs j).ownBlock≠some b2/\(vs j).ownBlock≠some U)/\wr.heap[U]?=some (.cells (bU (lv:Int) vs (vH q k)).toArray 98 (0,0)))/\Hid (wr.heap[b2]?=some (.cells cQ.toArray 98 (0,0)))) (fun i _=>4-(intOf i).toNat)
 case atStart=>exact⟨0,by omega,rfl,zd,O ⟨_,fZ.zero w _,fun j N=>⟨(by intro e;cases e),(by intro e;cases e)⟩,by rw[m.out,←zj.out];rfl⟩,n⟩
 case round =>
  obtain⟨k,b,rfl,HK,HQ,n⟩:=hrel;obtain⟨vs,qk,q3,qx⟩:=HQ.out;have f:=O qk;have qm:=O q3;have m:=O qx;clear qk q3 qx HQ
  by_cases y:k<4
  ·have zb:=O (fun j u h=>HK.cell (HC j u h) id)
   have V:=O (MZ (M k y) (zh k y));have zg:=O (qt k y);have s:=aJ (v:=.slice none 0 0) (M k y);have d:=lN wr;have zp:=O HK.size;have qq:(0:Int)≤(k:Int):=by omega
   have zu:(k:Int)<4:=by omega
   have zq:(256:Int)≤(ca:Int):=by omega
   clear s;go_wp2_with fail;refine(Mr wr _ (ptB (q k)) (OH (o:=o) (fun j u h=>d.keep.cell (zb j u h) id) (OI lv q qt.out y) zg.out (by omega) (by omega) (by omega) (by unfold maxLen;omega)) V.1).mono ?_;rintro e w4 ⟨b,hm⟩;rw[V.1,if_pos rfl,V.2] at hm;obtain⟨v1,rfl,R⟩:=hm;have r:=O (show PtV w4 v1 (q k) from⟨Rd.of_owns R,(by rw[←V.2];exact Ew _ _),M k y⟩);have p:Hid (sZ w w4 v1):=O (fun i X=>⟨by have:=aU R X;have:=d.keep.size;have:=zp.out;omega,by obtain⟨cur,hc⟩:=aL R X;exact⟨_,_,hc⟩⟩);have E:Hid (v1.ownBlock≠some b2/\v1.ownBlock≠some U):=O ⟨fun e=>by have:=aU R e;have:=lt_of_block n.out;omega,fun e=>by have:=aU R e;have:=lt_of_block m.out;omega⟩;have s:=aJ (v:=v1) (M k y);obtain⟨pk,H⟩:=zX9 (aF v1 (q k))
   have qw:Hid (∀u∈pk,u.oneCell'=true):=O (by rw[←H];exact aN r.out);have zm:=O H;rw[H] at s ⊢;clear H R;replace d:=kL d b;replace f:=O (f.keep0 b);replace m:=O (b.blk m.out id);replace n:=O (b.blk n.out id);clear b;have zf:=O d.keep;replace d:=O (Loc.nil aB aB w4);have qf:=f;have qd:=m;have Y:=n;have qh:=r;have L:=p
   go_wp2_with ((with_reducible show WL _ _);refine alL d 27 (.agg aH.toArray) (aH.toArray) bA ?_)
   intro b6 w5 b d;replace f:=O (f.keep0 b);replace m:=O (b.blk m.out id);replace n:=O (b.blk n.out id);replace r:=O (r.keep b fun _ _=>id);replace p:=O (sZ.keep p.out b fun _ _=>id);clear b
   go_wp2_with ((with_reducible show WL _ _);refine alL d 182 (.agg #[.int .i64 0,.int .i64 0]) (#[.int .i64 0,.int .i64 0]) (O GM) ?_)
   intro b7 w6 b d;replace f:=O (f.keep0 b);replace m:=O (b.blk m.out id);replace n:=O (b.blk n.out id);replace r:=O (r.keep b fun _ _=>id);replace p:=O (sZ.keep p.out b fun _ _=>id);clear b
   go_wp2_with ((with_reducible show WL _ _);refine sta 27 (.tmp 6) (.tmp 33) b6 0 pk (d.b 1) (by first|decide|(rw[s];exact Nat.le_refl _)|simp[s,aE]) (szP9 s) qw.out ?_)
   intro w7 b x;rw[aI _ _ (by first|rfl|simp[s,aE])] at x;replace d:=O (d.set 1 b x);replace f:=O (qf.keep0 d.keep);replace m:=O (d.keep.blk qd.out id);replace n:=O (d.keep.blk Y.out id);replace r:=O (qh.keep d.keep fun _ _=>id);replace p:=O (sZ.keep L.out d.keep fun _ _=>id);clear b x
   go_wp2_with ((with_reducible show WL _ _);refine sta 182 (.tmp 7) (.tmp 34) b7 0 ([.int .i64 0,.int .i64 0]) (d.b 0) (by first|decide|(rw[rfl];exact Nat.le_refl _)|simp[]) (by kernel_rfl) (by intro v hv;simp only[List.mem_cons,List.not_mem_nil,or_false] at hv;rcases hv with rfl|rfl<;>rfl) ?_)
   intro w8 b x;rw[aI _ _ (by first|rfl|simp[])] at x;replace d:=O (d.set 0 b x);replace f:=O (qf.keep0 d.keep);replace m:=O (d.keep.blk qd.out id);replace n:=O (d.keep.blk Y.out id);replace r:=O (qh.keep d.keep fun _ _=>id);replace p:=O (sZ.keep L.out d.keep fun _ _=>id);clear b x;have qe:=m;have c1:w8.cell? ⟨b7,0,none⟩=some (.int .i64 0):=(aD (i:=0) (d.b 0) rfl)
   go_wp2_with ((with_reducible show WL _ _);first
    | refine wpList_load_mid rfl 27 (.tmp 6) rfl b6 0 rfl pk _ (aC (d.b 1)) aG rfl (szP9 s) ?_
    | refine sta 27 (.tmp 42) (.tmp 40) U (1+k*35) pk qe.out (by rw[List.size_toArray,cX (lv:Int) vs f.nv,s];omega) (szP9 s) qw.out ?_)
   clear c1;intro w9 b x;rw[←zm.out,EZ f.nv (lv:Int) y (M k y),←C4] at x;have ze:Hid (aA aB w w9):=O (((HK.trans zf.out).trans d.keep).tT b (fun i X e=>by have:=qu.2;omega));have q5:Hid (w9.heap[b2]?=some (.cells cQ.toArray 98 (0,0))):=O (b.blk n.out zi.out)
   have zn:Hid (∃vs,fZ w w9 vs (vH q (k+1))/\(∀j,j<4->(vs j).ownBlock≠some b2/\(vs j).ownBlock≠some U)/\w9.heap[U]?=some (.cells (bU (lv:Int) vs (vH q (k+1))).toArray 98 (0,0))):=O ⟨fT vs k v1,by
    rw[C4];refine fZ.put (f.keep b ?_) (r.keep b fun i X e=>E.2 (e▸X)) (p.keep b fun i X e=>E.2 (e▸X));rintro i rfl ⟨-,j,N,e⟩;exact(qm j N).2 e,fun j N=>by
    by_cases e:j=k
    ·subst e;rw[oH];exact E.out
    ·rw[oI _ _ e];exact qm.out j N,x⟩
   clear x b d f m n r p qe E;go_wp2
   go_roundw
   case rel=>exact⟨k+1,by omega,by go_num,ze,zn,q5⟩
   case measure=>simp[intOf];omega
  ·obtain rfl:k=4:=by omega
   have K:∀j,j<4->vH q 4 j=q j:=fun j N=>if_pos N
   have qj:bU (lv:Int) vs (vH q 4)=bU (lv:Int) vs q:=by unfold bU;rw[K 0 (by omega),K 1 (by omega),K 2 (by omega),K 3 (by omega)]
   replace f:Hid (fZ w wr vs q):=O (fun j N=>by have:=f.out j N;rw[K j N] at this;exact this);rw[qj] at m;have z:=cX (lv:Int) vs f.nv;have d:=lN wr;obtain⟨nn,F⟩:=zX9 (bU (lv:Int) vs q)
   have zk:Hid (∀u∈nn,u.oneCell'=true):=O (by rw[←F];exact cZ (lv:Int) f.nv);have qv:=O F;rw[F] at z m;have W:=O (zo.keep HK.out fun _ _=>id);clear K qj F
   go_wp2_with ((with_reducible show WL _ _);refine wpList_load_mid rfl 98 (.tmp 4) rfl U 0 rfl nn _ (aC m.out) underlying98 rfl (by rw[z];exact dA) ?_)
   refine((by rw[←qv.out];exact C3 wr lv vs q f.nv (by omega) (by omega) HF.out:Ka wr (xV wr lv q))).mono ?_;rintro e wb ⟨v2,rfl,R,b⟩;obtain⟨qa,qc,rfl,-,-⟩:=(Rd.of_owns R).form;rw[←KD] at R;have HO:=O R;clear R;replace d:=kL d b;replace f:=O (f.keep0 b);replace m:=O (b.blk m.out id);replace n:=O (b.blk n.out id);replace W:=O (W.keep b fun _ _=>id);clear b;go_wp2_with fail;refine(oA wb _ _ (nb lv q) (nb lv q) (by rw[ql.out];exact Rd.of_owns HO.out) (by rw[ql.out];exact W.out) true (decide_eq_true rfl)).mono ?_;rintro e wc ⟨rfl,rfl⟩;have qb:=n
   go_wp2_with ((with_reducible show WL _ _);first
    | refine wpList_load_mid rfl 98 (.tmp 4) rfl U 0 rfl nn _ (aC m.out) underlying98 rfl (by rw[z];exact dA) ?_
    | refine sta 98 (.tmp 2) (.tmp 58) b2 0 nn qb.out (by rw[List.size_toArray,bK,z];omega) (by rw[z];exact dA) zk.out ?_)
   intro w9 b x;rw[aI _ _ (by rw[List.size_toArray,bK,z])] at x;have HP:Hid (zR w lv q (.returned (.tuple #[.agg nn.toArray,.int .i64 0])) w9):=O ⟨vs,by rw[qv.out],f.keep b (by rintro i rfl ⟨-,j,N,e⟩;exact(qm j N).1 e),(HK.trans d.keep).tT b (fun i X e=>by have:=qu.1;omega)⟩;have q9:=O x;clear x b d f m n qb W HO;go_wp2_with fail;refine bodyPost_ret (aT rfl _ _ b2 _ _ _ _ rfl q9.out underlying98 rfl (by rw[List.size_toArray,z];exact dA)) rfl ?_;exact HP.out
def KI(w:World)(c:Nat)(S:Kor)(B:Nat->Prop):Prop:=
 S.Bd/\∃a m lb g e f b d h t,t.u.txg=S.txg/\iN w c a m lb g e f b S.cp t d S.D S.Z S.M h S.L/\B=fun k=>k=c\/k=m\/k=lb\/d k\/Own g e f S.D k\/t.Own k
theorem KI.bd(h:KI w c S B):S.Bd:=h.1
theorem KI.keepT(h:KI w c S B)(k:aA T w w')(p:∀i,T i->¬B i):KI w' c S B:=by
 obtain⟨q,a,m,lb,g,j,r,d,f,s,t,b,n,rfl⟩:=h;refine⟨q,a,m,lb,g,j,r,d,f,s,t,b,n.keepT k (fun i e=>?_),rfl⟩;have:=p i e;exact⟨fun e=>this (.inl e),fun e=>this (.inr (.inl e)),fun e=>this (.inr (.inr (.inl e))),fun e=>this (.inr (.inr (.inr (.inl e)))),fun e=>this (.inr (.inr (.inr (.inr (.inl e))))),fun e=>this (.inr (.inr (.inr (.inr (.inr e)))))⟩
theorem KI.keep0(h:KI w c S B)(k:aA aB w w'):KI w' c S B:=h.keepT k fun _ e=>e.elim
theorem KI.lt(h:KI w c S B)(b:B k):k<w.heap.size:=by
 obtain⟨n,a,m,lb,g,j,p,f,i,q,t,e,d,rfl⟩:=h;rcases b with rfl|rfl|rfl|b|b|b
 ·exact lt_of_block d.cor.cor.top
 ·exact lt_of_block d.cor.mir
 ·exact lt_of_block d.cor.liv
 ·exact d.lt (.inl b)
 ·exact d.lt (.inr b)
 ·exact d.cor.cor.lst.lt b
theorem bP.isC{a m:Nat}{M:Nat->Nat->List UInt8}(h:bP w a B D Z M m)(i:B k):IsC w k:=by
 obtain⟨p,n,lv,st,f,F,W,b,rfl,q,r⟩:=h;rcases i with rfl|rfl|i|⟨d,j,rfl⟩
 ·exact⟨_,_,b.top⟩
 ·obtain⟨cur,e⟩:=aL b.devs (k:=k) rfl
  exact⟨_,_,e⟩
 ·obtain⟨cur,e⟩:=aL b.loose i
  exact⟨_,_,e⟩
 ·exact⟨_,_,b.firm d j⟩
theorem dU.isC{lo b:Nat}{f:Nat->Option Nat}{L n:List Ad}(h:dU w lo g b f D Z L)(j:dU w' lo g b f D Z n)(x:Own g b f D k):IsC w' k\/¬IsC w k:=by
 rcases x with rfl|rfl|⟨d,u,q⟩
 ·exact .inl ⟨_,_,j.top⟩
 ·obtain⟨p,e,-⟩:=j.words.row
  exact .inl ⟨_,_,e⟩
 ·right
  obtain⟨y,i,s,r,e⟩:=h.chans d u;rw[q] at i;cases i
  rintro⟨p,t,m⟩;rw[e] at m;cases m
def Cl(w w':World)(B b:Nat->Prop):Prop:=∀k,b k->IsC w' k\/(B k/\¬IsC w k)
theorem Cl.refl(w w':World)(B:Nat->Prop)(k:aA aB w w'):Cl w w' B B:=fun i d=>by
 by_cases h:IsC w i
 ·obtain⟨b,t,h⟩:=h
  exact .inl ⟨b,t,k.blk h id⟩
 ·exact .inr ⟨d,h⟩
theorem Cl.trans{j:World}{e f:Nat->Prop}(h:Cl w w1 B e)(k:Cl w1 j e f):Cl w j B f:=fun i n=>by
 rcases k i n with b|⟨b,m⟩
 ·exact .inl b
 ·rcases h i b with d|d
  ·exact absurd d m
  ·exact .inr d
structure aX(w:World)(B:Nat->Prop)(v:Value)(p:Pt):Prop where
 pt:PtV w v p
 off:∀k,v.ownBlock=some k->¬B k/\IsC w k
theorem aX.keep{d:Nat->Prop}{p:Pt}(h:aX w B v p)(k:aA B w w')(f:∀k,d k->B k\/w.heap.size≤k):aX w' d v p:=
 ⟨h.pt.keep k fun i b=>(h.off i b).1,fun i b=>⟨fun e=>(f i e).elim (h.off i b).1 fun e=>by have:=(h.off i b).2.lt;omega,(h.off i b).2.keep k (h.off i b).1⟩⟩
theorem aX.keepT{p:Pt}(h:aX w B v p)(k:aA T w w')(d:∀i,v.ownBlock=some i->¬T i):aX w' B v p:=
 ⟨h.pt.keep k d,fun i b=>⟨(h.off i b).1,(h.off i b).2.keep k (d i b)⟩⟩
theorem aX.keep0{p:Pt}(h:aX w B v p)(k:aA aB w w'):aX w' B v p:=h.keepT k fun _ _=>id
theorem aX.hole(w:World)(B:Nat->Prop):aX w B (.slice none 0 0) zPt:=⟨⟨Rd.nil w 2,fun x d=>(by cases d),rfl⟩,fun k b=>by cases b⟩
theorem Bn(i:D≤8)(f:Z≤4096):∀x,eN x D Z->dS x:=fun x ⟨b,d,e,h⟩=>⟨⟨by omega,by omega⟩,by omega,by omega⟩
theorem KI.get(h:KI w c S B){pv:Value}{p:Pt}(q:PtV w pv p){b:List UInt8}(e:gP S p lv b):Calls prog 74 #[.pointer c,.agg (aF pv p).toArray] w (gJ w b):=by
 obtain⟨H,a,m,lb,g,F,I,z,E,J,t,u,n,rfl⟩:=h;have f:∀x∈p.addrs,eN x S.D S.Z:=fun x y=>(e.lies x y).1
 have G:=(iL e.may).1;cases i:p.addrs with
 | nil=>exact absurd i e.ne
 | cons x r =>
   obtain⟨d,s,rfl,-,-,-⟩:=nA (f x (by rw[i];exact List.mem_cons_self ..));have j:S.M d s=b:=(e.lies ⟨(d:Int),(s:Int)⟩ (by rw[i];exact List.mem_cons_self ..)).2.2;have:=MS n.cor pv p q e.may e.ne_hole f (by omega) i (by rw[j];exact e.sum);rw[j] at this;exact this
theorem KI.copies(h:KI w c S B):Calls prog 70 #[.pointer c] w (aK w (.int .i64 (S.cp:Int))):=by
 obtain⟨j,a,m,lb,g,i,n,e,f,p,t,d,b,rfl⟩:=h;exact F7 b.cor.cor
def dQ(w:World)(v:Value):Prop:=∀k,v.ownBlock=some k->w.heap.size≤k
def rK(w:World)(c:Nat)(B:Nat->Prop)(r:Option (Pt×Kor))(S:Kor)(e:Ending)(w':World):Prop:=
 match r with
 | none=>e=.returned (.tuple #[.agg (aF (.slice none 0 0) zPt).toArray,.int .i64 15])/\KI w' c S B/\aA aB w w'
 | some (p,T)=>∃v b,e=.returned (.tuple #[.agg (aF v p).toArray,.int .i64 0])/\aX w' b v p/\KI w' c T b/\(∀k,b k->B k\/w.heap.size≤k)/\Cl w w' B b/\dQ w v/\aA B w w'
theorem KI.put(h:KI w c S B)(r:lv≤3){vv:Value}(q:bs.length=256)(M:Rd w 1 vv 256 (bs.map vb))(z:∀i,vv.ownBlock=some i->¬B i):Calls prog 124 #[.pointer c,.int .i64 (lv:Int),vv] w (rK w c B (S.put lv bs) S):=by
 have F:=h;obtain⟨b,a,m,lb,g,E,I,J,R,W,t,f,n,rfl⟩:=h;have j:∀i,vv.ownBlock=some i->¬R i/\¬Own g E I S.D i:=fun i L=>⟨fun e=>z i L (.inr (.inr (.inr (.inl e)))),fun e=>z i L (.inr (.inr (.inr (.inr (.inl e)))))⟩
 cases s:cI (cJ S.L S.D S.Z) (List.replicate S.D true) S.cp with
 | none =>
   have e:S.put lv bs=none:=by unfold Kor.put Kor.allUp;rw[s]
   rw[e];refine(OE n (by rw[f];exact⟨b.t0,b.t1⟩) lv r vv bs q M j s).mono ?_;rintro e w' ⟨rfl,u⟩;exact⟨rfl,F.keep0 u,u⟩
 | some l =>
   have e:S.put lv bs=some (⟨bF S.L S.Z l,S.txg+1,(lv:Int),dD bs⟩,⟨S.D,S.Z,S.cp,S.L++bF S.L S.Z l,mF bs (bF S.L S.Z l) S.M,S.txg⟩):=by unfold Kor.put Kor.allUp;rw[s]
   have G:=rD b r q e;rw[e];refine(Kw n (by rw[f];exact⟨b.t0,b.t1⟩) lv r vv bs q M j (Bn b.d8 b.z4) s).mono ?_;rintro e w' ⟨v,K,rfl,H,p,U,N,u⟩;have y:∀k,v.ownBlock=some k->w.heap.size≤k:=fun k u=>aU H u
   refine⟨v,fun k=>k=c\/k=m\/k=lb\/K k\/Own g E I S.D k\/t.Own k,by rw[f],⟨⟨Rd.of_owns H,fun x V=>Bn b.d8 b.z4 x (G.1.lies x V).1,G.1.sl⟩,fun k d=>⟨?_,?_⟩⟩,⟨G.2.2.1,a,m,lb,g,E,I,J,K,W+(bF S.L S.Z l).length,t,f,p,rfl⟩,?_,?_,y,u.mono fun k _ e=>.inr (.inr (.inr (e.imp id .inl)))⟩
   ·have X:=y k d
    rintro (rfl|rfl|rfl|e|e|e)
    ·have:=lt_of_block n.cor.cor.top;omega
    ·have:=lt_of_block n.cor.mir;omega
    ·have:=lt_of_block n.cor.liv;omega
    ·exact(N k d).1 e
    ·exact(N k d).2 e
    ·have:=n.cor.cor.lst.lt e;omega
   ·obtain⟨cur,s⟩:=aL H d
    exact⟨_,_,s⟩
   ·rintro k (e|e|e|e|e|e)
    ·exact .inl (.inl e)
    ·exact .inl (.inr (.inl e))
    ·exact .inl (.inr (.inr (.inl e)))
    ·exact(U k e).imp (fun h=>.inr (.inr (.inr (.inl h)))) id
    ·exact .inl (.inr (.inr (.inr (.inr (.inl e)))))
    ·exact .inl (.inr (.inr (.inr (.inr (.inr e)))))
   ·rintro k (rfl|rfl|rfl|e|e|e)
    ·exact .inl ⟨_,_,p.cor.cor.top⟩
    ·exact .inl ⟨_,_,p.cor.mir⟩
    ·exact .inl ⟨_,_,p.cor.liv⟩
    ·exact .inl (p.cor.arr.isC e)
    ·exact(n.led.isC p.led e).imp id fun h=>⟨.inr (.inr (.inr (.inr (.inl e)))),h⟩
    ·exact .inl (p.cor.cor.lst.isc k e)
def M0:Option (Pt×Kor)->Pt
 | none=>zPt
 | some x=>x.1
def M4:Option (Pt×Kor)->Int
 | none=>15
 | some _=>0
def M5(S:Kor):Option (Pt×Kor)->Kor
 | none=>S
 | some x=>x.2
def OJ(w:World)(c:Nat)(B:Nat->Prop)(p:Pt)(d:Int)(T:Kor)(e:Ending)(w':World):Prop:=
 ∃v b,e=.returned (.tuple #[.agg (aF v p).toArray,.int .i64 d])/\aX w' b v p/\KI w' c T b/\(∀k,b k->B k\/w.heap.size≤k)/\Cl w w' B b/\dQ w v/\aA B w w'
theorem rK.all{r:Option (Pt×Kor)}{e:Ending}(h:rK w c B r S e w'):OJ w c B (M0 r) (M4 r) (M5 S r) e w':=by
 cases r with
 | none =>
   obtain⟨d,f,b⟩:=h;exact⟨_,B,d,aX.hole w' B,f,fun k h=>.inl h,Cl.refl w w' B b,(fun k i=>by cases i),b.any⟩
 | some x=>exact h
theorem pK{p:Pt}(h:Hid (aX w B v p))(k:aA aB w w'):Hid (aX w' B v p):=O (aX.keep0 h.out k)
def bS(w:World)(B:Nat->Prop)(vs:Nat->Value)(b:Nat->Pt):Prop:=∀k,k<4->aX w B (vs k) (b k)
theorem bS.nv{b:Nat->Pt}(h:bS w B vs b):dM w vs b:=fun k d=>(h k d).pt
theorem bS.keep0{b:Nat->Pt}(h:bS w B vs b)(k:aA aB w w'):bS w' B vs b:=fun i d=>(h i d).keep0 k
theorem bS.hole(w:World)(B:Nat->Prop):bS w B (fun _=>.slice none 0 0) (fun _=>zPt):=fun _ _=>aX.hole w B
def eS:Option Tr->Pt
 | none=>zPt
 | some t=>t.ptr
def fG:Option Tr->Int
 | none=>15
 | some _=>0
def bI(w:World)(c:Nat)(B:Nat->Prop)(d:Value)(r:Option Tr)(T:Kor)(e:Ending)(w':World):Prop:=
 ∃v b,e=.returned (.tuple #[.agg (aF v (eS r)).toArray,.int .i64 (fG r)])/\aX w' b v (eS r)/\KI w' c T b/\(∀k,b k->B k\/w.heap.size≤k)/\Cl w w' B b/\(v=d\/dQ w v)/\aA B w w'
theorem dQ.from(h:dQ w1 v)(k:w.heap.size≤w1.heap.size):dQ w v:=fun i b=>Nat.le_trans k (h i b)
theorem dQ.nil(w:World):dQ w (.slice none 0 0):=fun k b=>by cases b
theorem bI.still{T:Kor}(b:aX w' B v t.ptr)(h:KI w' c T B)(k:aA aB w w'):bI w c B v (some t) T (.returned (.tuple #[.agg (aF v t.ptr).toArray,.int .i64 0])) w':=
 ⟨v,B,rfl,b,h,fun _ h=>.inl h,Cl.refl w w' B k,.inl rfl,k.any⟩
theorem bI.hole{T:Kor}{b:Value}(h:KI w' c T B)(k:aA aB w w'):bI w c B b (some .hole) T (.returned (.tuple #[.agg (aF (.slice none 0 0) zPt).toArray,.int .i64 0])) w':=
 ⟨_,B,rfl,aX.hole w' B,h,fun _ h=>.inl h,Cl.refl w w' B k,.inr (dQ.nil w),k.any⟩
theorem Tr.Ok.fit(h:Tr.Ok S l t):Cd ((l:Int)+1) t.ptr:=by
 cases t with
 | hole=>exact .inl jM
 | leaf p b=>cases l with
   | zero=>exact .inr ⟨h.1.ne_hole,h.1.may,by have:=h.1.lev;show p.level=_;omega⟩
   | succ l=>exact h.elim
 | node p k=>cases l with
   | zero=>exact h.elim
   | succ l=>exact .inr ⟨h.1.ne_hole,h.1.may,by have:=h.1.lev;show p.level=_;omega⟩
theorem Tr.Ok.empty_eq{k:Nat->Tr}(h:∀i,i<4->Tr.Ok S l (k i)):kR (fun i=>(k i).ptr)=gM k:=by
 unfold kR gM;rw[(h 0 (by omega)).hole_eq,(h 1 (by omega)).hole_eq,(h 2 (by omega)).hole_eq,(h 3 (by omega)).hole_eq]
theorem ixv(T:TypeId)(x y:Operand)(b d u:Value)(j:∀w,(Instr.index T b d).run P w=.ok u w)(h:wpList P ops Q xT (a.put o.dst u) w)(m:a.eval x=b:=by rfl)(n:a.eval y=d:=by rfl)(f:o.guard=none:=by rfl)(i:o.op=.index T x y:=by rfl):wpList P ops Q (o::xT) a w:=by
 refine wpList_plain f fun K e=>?_
 unfold Oper.wp execOp;simp only[i,m,n,Sem.run_bind,j,Result.andThen_ok];exact e _ _ h
def shV:Value:=.agg #[.int .i64 0,.int .i64 0,.int .i64 2,.int .i64 4]
theorem Cg(w:World):(Instr.build 306 #[(0,.int .i64 0),(1,.int .i64 0),(2,.int .i64 2),(3,.int .i64 4)]).run prog w=.ok shV w:=by kernel_rfl
theorem Qm(w:World):(Instr.index 306 shV (.int .i64 1)).run prog w=.ok (.int .i64 0) w:=by kernel_rfl
theorem Qn(w:World):(Instr.index 306 shV (.int .i64 2)).run prog w=.ok (.int .i64 2) w:=by kernel_rfl
theorem Qo(w:World):(Instr.index 306 shV (.int .i64 3)).run prog w=.ok (.int .i64 4) w:=by kernel_rfl
theorem IR(w:World)(l:Nat)(d:l<3):Calls prog 184 #[.int .i64 ((l+1:Nat):Int)] w (aK w (.int .i64 ((2*l:Nat):Int))):=by
 have b:=lN w;rcases l with _|_|_|l
 ·go_in
  go_wp2_with ((with_reducible show WL _ _);first
   | refine bld 306 #[(0,.const (.int .i64 0)),(1,.const (.int .i64 0)),(2,.const (.int .i64 2)),(3,.const (.int .i64 4))] [(0,.int .i64 0),(1,.int .i64 0),(2,.int .i64 2),(3,.int .i64 4)] shV Cg ?_
   | refine ixv 306 (.tmp 3) (.tmp 4) shV (.int .i64 1) (.int .i64 0) Qm ?_)
  go_ret;exact aK.of b.keep
 ·go_in
  go_wp2_with ((with_reducible show WL _ _);first
   | refine bld 306 #[(0,.const (.int .i64 0)),(1,.const (.int .i64 0)),(2,.const (.int .i64 2)),(3,.const (.int .i64 4))] [(0,.int .i64 0),(1,.int .i64 0),(2,.int .i64 2),(3,.int .i64 4)] shV Cg ?_
   | refine ixv 306 (.tmp 3) (.tmp 4) shV (.int .i64 2) (.int .i64 2) Qn ?_)
  go_ret;exact aK.of b.keep
 ·go_in
  go_wp2_with ((with_reducible show WL _ _);first
   | refine bld 306 #[(0,.const (.int .i64 0)),(1,.const (.int .i64 0)),(2,.const (.int .i64 2)),(3,.const (.int .i64 4))] [(0,.int .i64 0),(1,.int .i64 0),(2,.int .i64 2),(3,.int .i64 4)] shV Cg ?_
   | refine ixv 306 (.tmp 3) (.tmp 4) shV (.int .i64 3) (.int .i64 4) Qo ?_)
  go_ret;exact aK.of b.keep
 ·omega
theorem OK:∀l:Fin 3,∀n:Fin 64,bits .and .i64 ((n.val:Int) / 2 ^ (2*l.val)) 3=((n.val / 4 ^ l.val % 4:Nat):Int):=by decide +kernel
theorem C5(w:World)(n l:Nat)(i:n<64)(f:l<3):Calls prog 125 #[.int .i64 (n:Int),.int .i64 ((l+1:Nat):Int)] w (aK w (.int .i64 ((n / 4 ^ l % 4:Nat):Int))):=by
 have b:=lN w;have h:Hid (bits .and .i64 ((n:Int) / 2 ^ (2*l)) 3=((n / 4 ^ l % 4:Nat):Int)):=O (OK ⟨l,f⟩ ⟨n,i⟩);have j:0≤(n:Int):=by omega
 have m:(n:Int)<64:=by omega
 go_in;go_wp2_with fail;refine(IR _ l f).mono ?_;rintro e w1 ⟨rfl,d⟩;replace b:=kL b d;clear d;have h0:(0:Int)≤((2*l:Nat):Int):=by omega
 go_wp2;go_ret;refine⟨?_,b.keep⟩;show Ending.returned (.int .i64 (bits .and .i64 ((n:Int) / 2 ^ (2*l)) 3))=_;rw[h.out]
theorem kS(w:World)(l:Nat)(d:l≤3):Calls prog 86 #[.int .i64 (l:Int)] w (aK w (.int .i64 ((4 ^ l:Nat):Int))):=by
 have b:=lN w;rcases l with _|_|_|_|l
 ·go_in
  go_wp2;go_ret;exact aK.of b.keep
 ·go_in
  go_wp2;go_ret;exact aK.of b.keep
 ·go_in
  go_wp2;go_ret;exact aK.of b.keep
 ·go_in
  go_wp2;go_ret;exact aK.of b.keep
 ·omega
theorem KE(b:KI w c S B):Calls prog 107 #[.pointer c] w (aK w (.bool false)):=by
 have d:=O b;have i:((S.cp:Int) == 0)=false:=by rw[beq_eq_false_iff_ne];have:=b.bd.c1;omega
 have j:decide (S.cp=0)=false:=by have:=b.bd.c1;exact decide_eq_false (by omega)
 have f:=lN w;clear b;go_in;go_wp2_with fail;refine(KI.copies d.out).mono ?_;rintro e w1 ⟨rfl,h⟩;replace f:=kL f h;replace d:=O (d.keep0 h);clear h;go_wp2;go_ret;exact aK.of f.keep
def Pt.root(p:Pt):Bool:=p.hole || (p.may && decide (p.level=3))
theorem Gb(w:World)(pv:Value)(p:Pt)(i:PtV w pv p)(m:p.hole=true):Calls prog 71 #[.agg (aF pv p).toArray] w (aK w (.int .i64 0)):=by
 have q:=O m;clear m;have b:=O i;obtain⟨n,h,j,r⟩:=nmPt i;rw[h.out];have d:=lN w;clear i;go_in
 go_wp2_with ((with_reducible show WL _ _);refine bxL d 27 (.tmp 0) (n.toArray) ?_)
 intro b1 w1 f d;replace b:=O (b.keep f fun _ _=>id);clear f
 go_wp2_with ((with_reducible show WL _ _);refine wpList_load_mid rfl 27 (.tmp 1) rfl b1 0 rfl n _ (aC (d.b 0)) aG rfl (szP9 j) ?_)
 refine((by rw[←h.out];exact cE w1 pv p b.out:Ka w1 (aY w1 p.hole))).mono ?_;rintro e s ⟨rfl,f⟩;replace d:=kL d f;replace b:=O (b.keep f fun _ _=>id);clear f;rw[q.out];go_wp2;go_ret;exact aK.of d.keep
theorem KF(w:World)(pv:Value)(p:Pt)(n:PtV w pv p)(s:p.hole=false)(x:p.may=true)(u:p.level=3):Calls prog 71 #[.agg (aF pv p).toArray] w (aK w (.int .i64 0)):=by
 have y:=O s;have z:=O x;have m:=O u;clear s x u;have b:=O n;obtain⟨q,i,j,E⟩:=nmPt n;rw[i.out];have d:=lN w;clear n;go_in
 go_wp2_with ((with_reducible show WL _ _);refine bxL d 27 (.tmp 0) (q.toArray) ?_)
 intro b1 w1 f d;replace b:=O (b.keep f fun _ _=>id);clear f
 go_wp2_with ((with_reducible show WL _ _);refine wpList_load_mid rfl 27 (.tmp 1) rfl b1 0 rfl q _ (aC (d.b 0)) aG rfl (szP9 j) ?_)
 refine((by rw[←i.out];exact cE w1 pv p b.out:Ka w1 (aY w1 p.hole))).mono ?_;rintro e r ⟨rfl,f⟩;replace d:=kL d f;replace b:=O (b.keep f fun _ _=>id);clear f;rw[y.out]
 go_wp2_with ((with_reducible show WL _ _);refine aM (by rfl) 27 (.tmp 1) rfl b1 0 rfl q _ (aC (d.b 0)) aG rfl (szP9 j) ?_)
 refine((by rw[←i.out];exact lF r pv p b.out:Ka r (mY r p.may))).mono ?_;rintro e F ⟨rfl,f⟩;replace d:=kL d f;replace b:=O (b.keep f fun _ _=>id);clear f;rw[z.out];rw[if_pos rfl];have c1:F.cell? ⟨b1,2,none⟩=some (.int .i64 3):=(by have h:=(bW (v:=pv) (p:=p) (by rw[i.out];exact aC (d.b 0))).2.2.1;rw[m.out] at h;exact h)
 go_wp2_with fail;clear c1;go_ret;exact aK.of d.keep
theorem tA(w:World)(pv:Value)(p:Pt)(d:PtV w pv p)(h:p.root=true):Calls prog 71 #[.agg (aF pv p).toArray] w (aK w (.int .i64 0)):=by
 unfold Pt.root at h;cases b:p.hole with
 | true=>exact Gb w pv p d b
 | false =>
   rw[b,Bool.false_or,Bool.and_eq_true,decide_eq_true_eq] at h;exact KF w pv p d b h.1 h.2
theorem vJ(r:KI w c S B)(pv:Value)(p:Pt)(m:PtV w pv p)(h:p.root=true):Calls prog 62 #[.pointer c,.agg (aF pv p).toArray] w (aK w (.int .i64 0)):=by
 have u:=O h;clear h;have b:=O m;have i:=O r;obtain⟨s,j,n,x⟩:=nmPt m;rw[j.out];have f:=lN w;clear m r;go_in
 go_wp2_with ((with_reducible show WL _ _);refine bxL f 27 (.tmp 1) (s.toArray) ?_)
 intro y w1 d f;replace b:=O (b.keep d fun _ _=>id);replace i:=O (i.keep0 d);clear d;go_wp2_with fail;refine(KE i.out).mono ?_;rintro e q ⟨rfl,d⟩;replace f:=kL f d;replace b:=O (b.keep d fun _ _=>id);replace i:=O (i.keep0 d);clear d
 go_wp2_with ((with_reducible show WL _ _);refine wpList_load_mid rfl 27 (.tmp 3) rfl y 0 rfl s _ (aC (f.b 0)) aG rfl (szP9 n) ?_)
 refine((by rw[←j.out];exact tA q pv p b.out u.out:Ka q (aK q (.int .i64 0)))).mono ?_;rintro e z ⟨rfl,d⟩;replace f:=kL f d;replace b:=O (b.keep d fun _ _=>id);replace i:=O (i.keep0 d);clear d;go_wp2;go_ret;exact aK.of f.keep
theorem Gc(pv:Value)(p:Pt)(j:PtV w pv p)(q:p.hole=true):Calls prog 91 #[.pointer c,.agg (aF pv p).toArray] w (gJ w zB):=by
 have s:=O q;clear q;have b:=O j;obtain⟨r,h,m,u⟩:=nmPt j;rw[h.out];have d:=lN w;clear j;go_in
 go_wp2_with ((with_reducible show WL _ _);refine bxL d 27 (.tmp 1) (r.toArray) ?_)
 intro x w1 f d;replace b:=O (b.keep f fun _ _=>id);clear f
 go_wp2_with ((with_reducible show WL _ _);refine wpList_load_mid rfl 27 (.tmp 3) rfl x 0 rfl r _ (aC (d.b 0)) aG rfl (szP9 m) ?_)
 refine((by rw[←h.out];exact cE w1 pv p b.out:Ka w1 (aY w1 p.hole))).mono ?_;rintro e z ⟨rfl,f⟩;replace d:=kL d f;replace b:=O (b.keep f fun _ _=>id);clear f;rw[s.out]
 go_wp2_with ((with_reducible show WL _ _);refine mkz (.const (.int .i64 256)) (.const (.int .i64 256)) ?_)
 intro y E i f n;replace d:=lW d i f n;replace b:=O (b.keep f fun _ _=>id);clear i f n;go_wp2
 go_ret2
 exact⟨_,rfl,oG (d.b 0) rfl (d.lt 0).1,d.keep⟩
theorem IS(x:KI w c S B)(pv:Value)(p:Pt)(r:PtV w pv p)(n:gP S p lv bs):Calls prog 91 #[.pointer c,.agg (aF pv p).toArray] w (gJ w bs):=by
 have E:=O n.ne_hole;have z:=O n;have h:=O x;have b:=O r;obtain⟨s,i,j,G⟩:=nmPt r;rw[i.out];have f:=lN w;clear r n x;go_in
 go_wp2_with ((with_reducible show WL _ _);refine bxL f 27 (.tmp 1) (s.toArray) ?_)
 intro u w1 d f;replace b:=O (b.keep d fun _ _=>id);replace h:=O (h.keep0 d);clear d
 go_wp2_with ((with_reducible show WL _ _);refine wpList_load_mid rfl 27 (.tmp 3) rfl u 0 rfl s _ (aC (f.b 0)) aG rfl (szP9 j) ?_)
 refine((by rw[←i.out];exact cE w1 pv p b.out:Ka w1 (aY w1 p.hole))).mono ?_;rintro e y ⟨rfl,d⟩;replace f:=kL f d;replace b:=O (b.keep d fun _ _=>id);replace h:=O (h.keep0 d);clear d;rw[E.out]
 go_wp2_with ((with_reducible show WL _ _);refine wpList_load_mid rfl 27 (.tmp 3) rfl u 0 rfl s _ (aC (f.b 0)) aG rfl (szP9 j) ?_)
 have m:=O f.keep.size;refine((by rw[←i.out];exact KI.get h.out b.out z.out:Ka y (gJ y bs))).mono ?_;rintro e K ⟨H,rfl,q,d⟩;obtain⟨I,J,rfl,-,-⟩:=(Rd.of_owns q).form;have F:=O (aW q m.out);clear q;replace f:=kL f d;replace b:=O (b.keep d fun _ _=>id);replace h:=O (h.keep0 d);clear d;go_wp2
 go_ret2
 exact⟨_,rfl,F.out,f.keep⟩
theorem kT(w:World):(Instr.build 27 #[]).run prog w=.ok (.agg (aF (.slice none 0 0) zPt).toArray) w:=by kernel_rfl
def eU(w:World)(B:Nat->Prop)(l:Nat)(t:Tr)(e:Ending)(w':World):Prop:=
 ∃vs,e=.returned (.tuple #[.agg (bU ((l+1:Nat):Int) vs (fun i=>(t.kid i).ptr)).toArray,.int .i64 0])/\bS w' B vs (fun i=>(t.kid i).ptr)/\(∀q,q<4->dQ w (vs q))/\aA aB w w'
theorem IT(pv:Value)(y:PtV w pv zPt)(l:Nat):Calls prog 87 #[.pointer c,.agg (aF pv zPt).toArray,.int .i64 ((l+1:Nat):Int)] w (eU w B l .hole):=by
 obtain⟨p,m⟩:=zX9 zPt
 have N:Hid (p.hole=true):=O (by rw[←m];exact jM);rw[m] at y ⊢;have b:=O y;obtain⟨M,q,I,R⟩:=nmPt y;rw[q.out];have h:(bU ((l+1:Nat):Int) (fun _=>.slice none 0 0) (fun _=>zPt)).length=141:=rfl;have j:=Cf ((l+1:Nat):Int);obtain⟨J,f⟩:=zX9 (bU ((l+1:Nat):Int) (fun _=>.slice none 0 0) (fun _=>zPt))
 have G:Hid (∀u∈J,u.oneCell'=true):=O (by rw[←f];exact cZ (w:=w) _ fun _ _=>vI w);have F:=O f;rw[f] at h j;have n:=O j;obtain⟨lv,s⟩:=zX9 (((l+1:Nat):Int))
 rw[s] at n ⊢;have d:=lN w;clear y f j m s;have r:=b;go_in
 go_wp2_with ((with_reducible show WL _ _);refine bxL d 27 (.tmp 1) (M.toArray) ?_)
 intro U w1 i d;replace b:=O (b.keep i fun _ _=>id);clear i
 go_wp2_with ((with_reducible show WL _ _);refine alL d 98 (.agg cQ.toArray) (cQ.toArray) iM ?_)
 intro L K i d;replace b:=O (b.keep i fun _ _=>id);clear i
 go_wp2_with ((with_reducible show WL _ _);refine wpList_load_mid rfl 27 (.tmp 4) rfl U 0 rfl M _ (aC (d.b 1)) aG rfl (szP9 I) ?_)
 refine((by rw[←q.out];exact cE K pv p b.out:Ka K (aY K p.hole))).mono ?_;rintro e V ⟨rfl,i⟩;replace d:=kL d i;replace b:=O (b.keep i fun _ _=>id);clear i;rw[N.out]
 go_wp2_with ((with_reducible show WL _ _);first
  | refine bld 98 #[(0,.tmp 14)] [(0,.int .i64 lv)] (.agg J.toArray) n.out ?_
  | refine sta 98 (.tmp 6) (.tmp 15) L 0 J (d.b 0) (by first|decide|(rw[h];exact Nat.le_refl _)|simp[h,bK]) (by rw[h];exact dA) G.out ?_)
 intro W i H;rw[aI _ _ (by first|rfl|simp[h,bK])] at H;replace d:=O (d.set 0 i H);replace b:=O (r.keep d.keep fun _ _=>id);clear i H;have z:=O (d.b 0);have E:=O d.keep;clear d b;go_wp2_with fail;refine bodyPost_ret (aT rfl _ _ L _ _ _ _ rfl z.out underlying98 rfl (by rw[List.size_toArray,h];exact dA)) rfl ?_;exact⟨fun _=>.slice none 0 0,(by rw[←F.out];rfl),bS.hole _ B,fun _ _=>dQ.nil w,E.out⟩
theorem Q5{b:Nat->Pt}(lv:Nat)(h:∀k,k<4->(b k).may=true):nb lv b=cL lv [b 0,b 1,b 2,b 3]:=by
 unfold nb oF cL ptB;simp[List.range_succ,h 0 (by omega),h 1 (by omega),h 2 (by omega),h 3 (by omega)]
theorem Tr.Ok.nb_eq{k:Nat->Tr}(lv:Nat)(h:∀i,i<4->Tr.Ok S l (k i)):nb lv (fun i=>(k i).ptr)=cL lv (eX k):=
 Go.Proofs.YtiinnfhjpaeffaaGreat.Q5 lv fun i b=>((h i b).fit).elim kN fun h=>h.2.1
theorem fZ.nval{f:Nat->Pt}(h:fZ w w' vs f)(j:∀k,B k->k<w.heap.size):bS w' B vs f:=fun k b =>
 ⟨(h k b).1,fun i d=>⟨fun e=>by have:=j i e;have:=((h k b).2 i d).1;omega,((h k b).2 i d).2⟩⟩
theorem IU(hK:KI w c S B)(pv:Value)(p:Pt)(hp:PtV w pv p)(l:Nat)(hl:l≤2)(k:Nat->Tr)(hg:gP S p (l+1) (cL (l+1) (eX k)))(K:∀i,i<4->Tr.Ok S l (k i)):Calls prog 87 #[.pointer c,.agg (aF pv p).toArray,.int .i64 ((l+1:Nat):Int)] w (eU w B l (.node p k)):=by
 have HH:Hid (p.hole=false):=O hg.ne_hole;have d:=O hp;have s:=O hK;have HG:=O hg;have M:=O K;have L:=O (fun i (e:B i)=>hK.lt e);obtain⟨pc,H,Y,qj⟩:=nmPt hp;rw[H.out];have qe:Hid (cL (l+1) (eX k)=nb (l+1) (fun i=>(k i).ptr)):=O (Tr.Ok.nb_eq (l+1) K).symm;have qi:0≤((l+1:Nat):Int):=by omega
 have f:=lN w;clear hp hg K hK;go_in
 go_wp2_with ((with_reducible show WL _ _);refine bxL f 27 (.tmp 1) (pc.toArray) ?_)
 intro b4 w1 b f;replace d:=O (d.keep b fun _ _=>id);replace s:=O (s.keep0 b);clear b
 go_wp2_with ((with_reducible show WL _ _);refine alL f 98 (.agg cQ.toArray) (cQ.toArray) iM ?_)
 intro b6 w2 b f;replace d:=O (d.keep b fun _ _=>id);replace s:=O (s.keep0 b);clear b
 go_wp2_with ((with_reducible show WL _ _);refine wpList_load_mid rfl 27 (.tmp 4) rfl b4 0 rfl pc _ (aC (f.b 1)) aG rfl (szP9 Y) ?_)
 refine((by rw[←H.out];exact cE w2 pv p d.out:Ka w2 (aY w2 p.hole))).mono ?_;rintro e w3 ⟨rfl,b⟩;replace f:=kL f b;replace d:=O (d.keep b fun _ _=>id);replace s:=O (s.keep0 b);clear b;rw[HH.out]
 go_wp2_with ((with_reducible show WL _ _);refine wpList_load_mid rfl 27 (.tmp 4) rfl b4 0 rfl pc _ (aC (f.b 1)) aG rfl (szP9 Y) ?_)
 refine((by rw[←H.out];exact KI.get s.out d.out HG.out:Ka w3 (gJ w3 (cL (l+1) (eX k))))).mono ?_;rintro e w4 ⟨v1,rfl,ho,b⟩;rw[qe.out] at ho;obtain⟨va,vc,rfl,-,-⟩:=(Rd.of_owns ho).form;have HO:=O ho;clear ho;replace f:=kL f b;replace d:=O (d.keep b fun _ _=>id);replace s:=O (s.keep0 b);clear b;go_wp2_with fail;have V:=O f.keep.size;have qd:=O (f.lt 0).2;refine((zS w4 (.slice va 256 vc) (l+1) (fun i=>(k i).ptr) (by omega) (by omega) (fun i y=>(M i y).sl) (fun i y=>by have:=(M i y).fit;exact this) (Rd.of_owns HO.out))).mono ?_;rintro e w5 ⟨vs,rfl,r,b⟩;have qf:=O (fun j (hj:j<4) i (y:(vs j).ownBlock=some i) (e:i=b6)=>by have h1:=((r j hj).2 i y).1;have h2:=qd.out;omega:∀j,j<4->∀i,(vs j).ownBlock=some i->¬i=b6);have N:=O (fun q (hq:q<4) i (y:(vs q).ownBlock=some i)=>by have:=((r q hq).2 i y).1;have:=V.out;omega:∀q,q<4->dQ w (vs q));have E:=O (r.nval (B:=B) (fun i e=>by have:=L.out i e;have:=V.out;omega));have m:=cX ((l+1:Nat):Int) vs r.nv;have F:=cZ ((l+1:Nat):Int) r.nv;obtain⟨nn,n⟩:=zX9 (bU ((l+1:Nat):Int) vs (fun i=>(k i).ptr))
 have U:Hid (∀u∈nn,u.oneCell'=true):=O (by rw[←n];exact F);have R:=O n;rw[n] at m ⊢;clear F n r;replace f:=kL f b;replace d:=O (d.keep b fun _ _=>id);replace s:=O (s.keep0 b);replace HO:=O (b.owns HO.out fun _ _=>id);clear b;have qc:=O f.keep;have z:=O (f.b 0);have qb:=O (f.lt 0);replace f:=O (Loc.nil aB aB w5);have qh:=E;have qg:=z;clear d s HO
 go_wp2_with ((with_reducible show WL _ _);refine al 98 (.agg cQ.toArray) (cQ.toArray) iM ?_)
 intro I w6 W X G
 go_wp2_with ((with_reducible show WL _ _);refine sta 98 (.tmp 10) (.tmp 29) I 0 nn G (by first|decide|(rw[List.size_toArray,m];exact Nat.le_refl _)|simp[m,bK]) (by rw[m];exact dA) U.out ?_)
 intro w7 b J;rw[aI _ _ (by first|rfl|(rw[List.size_toArray,m];rfl)|simp[m,bK])] at J;replace b:=tX X b (fun i y e=>by omega);replace f:=lW f W b J;replace E:=O (bS.keep0 E.out b);replace z:=O (b.blk z.out id);clear W b J X G;have c1:w7.cell? ⟨I,0,none⟩=some (.int .i64 ((l+1:Nat):Int)):=aD (i:=0) (f.b 0) (by rw[←R.out];rfl)
 go_wp2_with ((with_reducible show WL _ _);first
  | refine wpList_load_mid rfl 98 (.tmp 10) rfl I 0 rfl nn _ (aC (f.b 0)) underlying98 rfl (by rw[m];exact dA) ?_
  | refine sta 98 (.tmp 6) (.tmp 40) b6 0 nn z.out (by rw[List.size_toArray,bK,m];omega) (by rw[m];exact dA) U.out ?_)
 clear c1;intro w9 b J;rw[aI _ _ (by rw[List.size_toArray,bK,m])] at J;have HP:Hid (eU w B l (.node p k) (.returned (.tuple #[.agg nn.toArray,.int .i64 0])) w9):=O ⟨vs,by rw[←R.out];rfl,fun i y=>(E i y).keepT b (fun j hj e=>qf.out i y j hj e),N.out,(qc.trans f.keep).tT b (fun i y e=>by have:=qb.1;omega)⟩;have qa:=O J;clear J b f E z;go_wp2_with fail;refine bodyPost_ret (aT rfl _ _ b6 _ _ _ _ rfl qa.out underlying98 rfl (by rw[List.size_toArray,m];exact dA)) rfl ?_;exact HP.out
theorem C6(f:KI w c S B)(h:l≤2)(pv:Value)(t:Tr)(d:Tr.Ok S (l+1) t)(e:PtV w pv t.ptr):Calls prog 87 #[.pointer c,.agg (aF pv t.ptr).toArray,.int .i64 ((l+1:Nat):Int)] w (eU w B l t):=by
 cases t with
 | hole=>exact IT pv e l
 | leaf p b=>exact d.elim
 | node p k=>exact IU f pv p e l h k d.1 d.2.1
def tR(w:World)(B:Nat->Prop)(p:Pt)(e:Ending)(w':World):Prop:=∃v,e=.returned (.agg (aF v p).toArray)/\aX w' B v p/\dQ w v/\aA aB w w'
theorem AE(hB:∀k,B k->k<w.heap.size)(pv:Value)(p:Pt)(hp:PtV w pv p)(hl:p.addrs.length≤65536):Calls prog 89 #[.agg (aF pv p).toArray] w (tR w B p):=by
 have M:=O hB;have qd:=O hl;have J:=O hp.ads;have y:=O hp.sum;have f:=O hp;obtain⟨pc,E,qh,qj⟩:=nmPt hp;rw[E.out];have qf:Hid (∃r,pc=pv::r):=O ⟨_,E.symm⟩;have d:=lN w;clear hp hl hB;have qi:=f;go_in
 go_wp2_with ((with_reducible show WL _ _);refine bxL d 27 (.tmp 0) (pc.toArray) ?_)
 intro b1 w1 b d;replace f:=O (f.keep b fun _ _=>id);clear b
 go_wp2_with ((with_reducible show WL _ _);refine alL d 27 (.agg aH.toArray) (aH.toArray) bA ?_)
 intro b2 w2 b d;replace f:=O (f.keep b fun _ _=>id);clear b;have c1:w2.cell? ⟨b1,0,none⟩=some (pv):=(by obtain⟨r,e⟩:=qf.out;exact aD (i:=0) (d.b 1) (by rw[e];rfl))
 go_wp2_with fail;clear c1;have Y:=O d.keep.size;have X:=O (And.intro (d.lt 0).2 (d.lt 1).2);refine(lT w2 pv p.addrs f.rd qd.out).mono ?_;rintro e w3 ⟨v1,rfl,z,b⟩;obtain⟨H,I,rfl,-,-⟩:=(Rd.of_owns z).form;have F:Hid (aX w3 B (.slice H p.addrs.length I) p):=O ⟨⟨Rd.of_owns z,J.out,y.out⟩,fun i m=>⟨fun e=>by have:=aU z m;have:=M.out i e;have:=Y.out;omega,by obtain⟨cur,hc⟩:=aL z m;exact⟨_,_,hc⟩⟩⟩;have W:Hid (dQ w (.slice H p.addrs.length I)):=O (fun i m=>by have:=aU z m;have:=Y.out;omega);have V:=O (fun(i:Nat) (m:(Value.slice H p.addrs.length I).ownBlock=some i)=>show ¬i=b1/\¬i=b2 from⟨fun e=>by have:=aU z m;have:=X.2;omega,fun e=>by have:=aU z m;have:=X.1;omega⟩);have K:=O (b.blk (d.b 1) id);have L:=O (b.blk (d.b 0) id);have HG:=O (And.intro (d.lt 1).1 (d.lt 0).1);have R:Hid (b1≠b2):=O (fun e=>bH (i:=0) d.nd rfl 1 (by decide) rfl e);have qb:=O (d.keep.trans b);clear z;clear b d f
 go_wp2_with ((with_reducible show WL _ _);refine sta 23 (.tmp 6) (.tmp 5) b1 0 [.slice H p.addrs.length I] K.out (by rw[List.size_toArray,qh];simp) (by kernel_rfl) (one9) ?_)
 intro w6 b G;rw[←E.out,EX] at G;have q:=O G;have s:=O (b.blk L.out R.symm);have x:=O (F.keepT b (fun i m=>(V i m).1));have N:=O (qb.tT b (fun i m e=>by have:=HG.1;omega));clear b G K L;have n:=aJ (v:=.slice H p.addrs.length I) y.out;obtain⟨qc,j⟩:=zX9 (aF (.slice H p.addrs.length I) p)
 have qe:Hid (∀u∈qc,u.oneCell'=true):=O (by rw[←j];exact aN F.pt);have qg:=O j;rw[j] at n q;clear j F
 go_wp2_with ((with_reducible show WL _ _);first
  | refine wpList_load_mid rfl 27 (.tmp 1) rfl b1 0 rfl qc _ (aC q.out) aG rfl (szP9 n) ?_
  | refine sta 27 (.tmp 2) (.tmp 7) b2 0 qc s.out (by rw[List.size_toArray,aE,n];omega) (szP9 n) qe.out ?_)
 intro w8 b G;rw[aI _ _ (by rw[List.size_toArray,aE,n])] at G;have HP:Hid (tR w B p (.returned (.agg qc.toArray)) w8):=O ⟨_,by rw[←qg.out],x.keepT b (fun i m=>(V i m).2),W.out,N.tT b (fun i m e=>by have:=HG.2;omega)⟩;have qa:=O G;clear b G q s x N;go_wp2_with fail;refine bodyPost_ret (results_cell_row rfl _ _ b2 _ _ _ _ rfl qa.out aG rfl (by rw[List.size_toArray,n];exact cC)) rfl ?_;exact HP.out
theorem KG:zB.length=256:=rfl
theorem Ch(J:KI w c S B)(vv:Value)(H:Rd w 1 vv 256 (zB.map vb)):Calls prog 93 #[.pointer c,vv] w (bI w c B (.slice none 0 0) (S.leaf zB).1 (S.leaf zB).2):=by
 obtain⟨R,U,rfl,-,-⟩:=H.form;have F:Hid (S.leaf zB=(some .hole,S)):=O (by unfold Kor.leaf;rw[if_pos rfl]);have i:=O J;have j:=O H;have f:(aF (.slice none 0 0) zPt).length=35:=rfl;have m:=kT;obtain⟨s,b⟩:=zX9 (aF (.slice none 0 0) zPt)
 have p:Hid (∀u∈s,u.oneCell'=true):=O (by rw[←b];exact cK zPt);have q:=O b;rw[b] at f m;have G:=O m;clear b m;have d:=lN w;clear H J;have y:=i;have E:=j;go_in
 go_wp2_with ((with_reducible show WL _ _);refine alL d 27 (.agg aH.toArray) (aH.toArray) bA ?_)
 intro I w1 h d;replace i:=O (i.keep0 h);replace j:=O (j.keep h fun _ _=>id);clear h
 go_wp2_with ((with_reducible show WL _ _);refine mkz (.const (.int .i64 256)) (.const (.int .i64 256)) ?_)
 intro N L r h n;replace d:=lW d r h n;replace i:=O (i.keep0 h);replace j:=O (j.keep h fun _ _=>id);clear r h n;go_wp2_with fail;refine(oA L _ _ zB zB (by rw[KG];exact j.out) (Rd.of_owns (oG (base:=0) (d.b 0) rfl (Nat.zero_le _))) true (decide_eq_true rfl)).mono ?_;rintro e V ⟨rfl,rfl⟩
 go_wp2_with ((with_reducible show WL _ _);first
  | refine bld 27 #[] [] (.agg s.toArray) G.out ?_
  | refine sta 27 (.tmp 4) (.tmp 9) I 0 s (d.b 1) (by first|decide|(rw[f];exact Nat.le_refl _)|simp[f,aE]) (szP9 f) p.out ?_)
 intro M h n;rw[aI _ _ (by first|rfl|simp[f,aE])] at n;replace d:=O (d.set 1 h n);replace i:=O (y.keep0 d.keep);replace j:=O (E.keep d.keep fun _ _=>id);clear h n;have x:=O (d.b 1);have z:=O d.keep;have K:Hid (bI w c B (.slice none 0 0) (S.leaf zB).1 (S.leaf zB).2 (.returned (.tuple #[.agg s.toArray,.int .i64 0])) M):=O (by rw[F.out,←q.out];exact bI.hole i.out z.out);clear d i;go_wp2_with fail;refine bodyPost_ret (aT rfl _ _ I _ _ _ _ rfl x.out aG rfl (by rw[List.size_toArray,f];exact cC)) rfl ?_;exact K.out
theorem Ci(hK:KI w c S B)(vv:Value)(bs:List UInt8)(W:bs.length=256)(hz:¬bs=zB)(hr:Rd w 1 vv 256 (bs.map vb))(qb:∀i,vv.ownBlock=some i->¬B i):Calls prog 93 #[.pointer c,vv] w (bI w c B (.slice none 0 0) (S.leaf bs).1 (S.leaf bs).2):=by
 obtain⟨va,vc,rfl,-,-⟩:=hr.form;have N:=O W;have qj:=O hz;have qp:=O qb;have y:=O (fun i (e:B i)=>hK.lt e);obtain⟨pp,I⟩:=zX9 (M0 (S.put 0 bs))
 obtain⟨er,G⟩:=zX9 (M4 (S.put 0 bs))
 obtain⟨T,J⟩:=zX9 (M5 S (S.put 0 bs))
 have U:=O I;have qf:=O G;have qn:=O J
 have s:Hid (eS (S.leaf bs).1=pp/\fG (S.leaf bs).1=er/\(S.leaf bs).2=T):=O (by
  rw[←I,←G,←J];unfold Kor.leaf;rw[if_neg hz];cases S.put 0 bs with
  | none=>exact⟨rfl,rfl,rfl⟩
  | some x=>exact⟨rfl,rfl,rfl⟩)
 have E:=O hK;have F:=O hr;have m:=lN w;clear hr hK W hz qb I G J;have qq:=E;have qr:=F;go_in
 go_wp2_with ((with_reducible show WL _ _);refine alL m 27 (.agg aH.toArray) (aH.toArray) bA ?_)
 intro b4 w1 b m;replace E:=O (E.keep0 b);replace F:=O (F.keep b fun _ _=>id);clear b
 go_wp2_with ((with_reducible show WL _ _);refine mkz (.const (.int .i64 256)) (.const (.int .i64 256)) ?_)
 intro b7 w2 X b K;replace m:=lW m X b K;replace E:=O (E.keep0 b);replace F:=O (F.keep b fun _ _=>id);clear X b K;go_wp2_with fail;refine(oA w2 _ _ bs zB (by rw[N.out];exact F.out) (Rd.of_owns (oG (base:=0) (m.b 0) rfl (Nat.zero_le _))) false (decide_eq_false qj.out)).mono ?_;rintro e w3 ⟨rfl,rfl⟩;replace m:=O m.tail;go_wp2_with fail;have d:=O (m.lt 0);refine((KI.put E.out (lv:=0) (by omega) N.out F.out qp.out:Ka w2 (rK w2 c B (S.put 0 bs) S))).mono ?_;rintro e w8 hm;obtain⟨v,B',qa,q,H,V,Y,n,b⟩:=hm.all;rw[U.out,qf.out] at qa;rw[U.out] at q;rw[qn.out] at H;subst qa;have L:=O (b.blk (m.b 0) (fun e=>by have:=y.out _ e;have:=d.1;omega));have qo:=O (fun i (hi:v.ownBlock=some i) (e:i=b4)=>show False from by have:=n i hi;have:=d.2;omega);have r:=aJ (v:=v) q.pt.sum;have z:=aN q.pt;obtain⟨qc,j⟩:=zX9 (aF v pp)
 have qk:Hid (∀u∈qc,u.oneCell'=true):=O (by rw[←j];exact z);have qm:=O j;have f:=O m.keep;have qh:=O H;have ql:=O q;have M:=O V;have qe:=O Y;have qi:=O n;have qg:=O b;rw[j] at r ⊢;clear q H V Y n b j z m E
 go_wp2_with ((with_reducible show WL _ _);refine sta 27 (.tmp 4) (.tmp 13) b4 0 qc L.out (by rw[List.size_toArray,aE,r];omega) (szP9 r) qk.out ?_)
 intro w9 b K;rw[aI _ _ (by rw[List.size_toArray,aE,r])] at K
 have R:Hid (∀i,i=b4->¬B' i):=O (by
  rintro i rfl e;rcases M.out _ e with h|h
  ·have:=y.out _ h;have:=d.1;omega
  ·have:=d.2;omega)
 have HP:Hid (bI w c B (.slice none 0 0) (S.leaf bs).1 (S.leaf bs).2 (.returned (.tuple #[.agg qc.toArray,.int .i64 er])) w9):=O ⟨v,B',by rw[s.1,s.2.1,qm.out],by rw[s.1];exact ql.keepT b (fun i hi e=>qo.out i hi e),by rw[s.2.2];exact qh.keepT b R.out,fun i e=>(M i e).imp id (fun h=>Nat.le_trans f.size h),((Cl.refl _ _ _ f.out).trans qe.out).trans (fun i e=>(by
  by_cases h:IsC w8 i
  ·obtain⟨cs,t,h⟩:=h
   exact .inl ⟨cs,t,b.blk h (fun e2=>R.out i e2 e)⟩
  ·exact .inr ⟨e,h⟩)),.inr (qi.from f.size),(f.any.trans qg.out).tT b (fun i hi e=>by have:=d.1;omega)⟩
 have qd:=O K;clear b K L;go_wp2_with fail;refine bodyPost_ret (aT rfl _ _ b4 _ _ _ _ rfl qd.out aG rfl (by rw[List.size_toArray,r];exact cC)) rfl ?_;exact HP.out
theorem KH(X:KI w c S B)(hl:l≤2)(k:Nat->Tr)(p:∀i,i<4->Tr.Ok S l (k i))(vs:Nat->Value)(z:bS w B vs (fun i=>(k i).ptr))(R:gM k=true):Calls prog 88 #[.pointer c,.agg (bU ((l+1:Nat):Int) vs (fun i=>(k i).ptr)).toArray] w (bI w c B (.slice none 0 0) (S.lay (l+1) k).1 (S.lay (l+1) k).2):=by
 have K:Hid (S.lay (l+1) k=(some .hole,S)):=O (by unfold Kor.lay;rw[if_pos R]);have G:Hid (kR (fun i=>(k i).ptr)=true):=O (by rw[Tr.Ok.empty_eq p];exact R);have y:=cX ((l+1:Nat):Int) vs z.nv;obtain⟨U,f⟩:=zX9 (bU ((l+1:Nat):Int) vs (fun i=>(k i).ptr))
 have qa:Hid (∀u∈U,u.oneCell'=true):=O (by rw[←f];exact cZ _ z.nv);have J:=O f;rw[f] at y ⊢;have m:=O X;have n:=O z;have Y:=O p;have j:(aF (.slice none 0 0) zPt).length=35:=rfl;have q:=kT;obtain⟨E,h⟩:=zX9 (aF (.slice none 0 0) zPt)
 have r:Hid (∀u∈E,u.oneCell'=true):=O (by rw[←h];exact cK zPt);have s:=O h;rw[h] at j q;have M:=O q;clear h q;have b:=lN w;clear X z p f R;have H:=m;have L:=n;go_in
 go_wp2_with ((with_reducible show WL _ _);refine bxL b 98 (.tmp 1) (U.toArray) ?_)
 intro b3 w1 d b;replace m:=O (m.keep0 d);replace n:=O (bS.keep0 n.out d);clear d
 go_wp2_with ((with_reducible show WL _ _);refine alL b 27 (.agg aH.toArray) (aH.toArray) bA ?_)
 intro W V d b;replace m:=O (m.keep0 d);replace n:=O (bS.keep0 n.out d);clear d
 go_wp2_with ((with_reducible show WL _ _);refine wpList_load_mid rfl 98 (.tmp 3) rfl b3 0 rfl U _ (aC (b.b 1)) underlying98 rfl (by rw[y];exact dA) ?_)
 refine((by rw[←J.out];exact CX V _ vs (fun i=>(k i).ptr) n.nv:Ka V (aK V (.bool (kR (fun i=>(k i).ptr)))))).mono ?_;rintro e w3 ⟨rfl,d⟩;replace b:=kL b d;replace m:=O (m.keep0 d);replace n:=O (bS.keep0 n.out d);clear d;rw[G.out]
 go_wp2_with ((with_reducible show WL _ _);first
  | refine bld 27 #[] [] (.agg E.toArray) M.out ?_
  | refine sta 27 (.tmp 4) (.tmp 10) W 0 E (b.b 0) (by first|decide|(rw[j];exact Nat.le_refl _)|simp[j,aE]) (szP9 j) r.out ?_)
 intro w4 d N;rw[aI _ _ (by first|rfl|simp[j,aE])] at N;replace b:=O (b.set 0 d N);replace m:=O (H.keep0 b.keep);replace n:=O (bS.keep0 L.out b.keep);clear d N;have F:=O (b.b 0);have I:=O b.keep;have HP:Hid (bI w c B (.slice none 0 0) (S.lay (l+1) k).1 (S.lay (l+1) k).2 (.returned (.tuple #[.agg E.toArray,.int .i64 0])) w4):=O (by rw[K.out,←s.out];exact bI.hole m.out I.out);clear b m;go_wp2_with fail;refine bodyPost_ret (aT rfl _ _ W _ _ _ _ rfl F.out aG rfl (by rw[List.size_toArray,j];exact cC)) rfl ?_;exact HP.out
theorem KJ(hK:KI w c S B)(hl:l≤2)(k:Nat->Tr)(r:∀i,i<4->Tr.Ok S l (k i))(vs:Nat->Value)(hv:bS w B vs (fun i=>(k i).ptr))(hh:gM k=false):Calls prog 88 #[.pointer c,.agg (bU ((l+1:Nat):Int) vs (fun i=>(k i).ptr)).toArray] w (bI w c B (.slice none 0 0) (S.lay (l+1) k).1 (S.lay (l+1) k).2):=by
 have q:=O (fun i (e:B i)=>hK.lt e);have qg:Hid (kR (fun i=>(k i).ptr)=false):=O (by rw[Tr.Ok.empty_eq r];exact hh);have ql:Hid (nb (l+1) (fun i=>(k i).ptr)=cL (l+1) (eX k)):=O (Tr.Ok.nb_eq (l+1) r);have qe:Hid ((cL (l+1) (eX k)).length=256):=O (B6 r);obtain⟨pp,N⟩:=zX9 (M0 (S.put (l+1) (cL (l+1) (eX k))))
 obtain⟨er,K⟩:=zX9 (M4 (S.put (l+1) (cL (l+1) (eX k))))
 obtain⟨T,R⟩:=zX9 (M5 S (S.put (l+1) (cL (l+1) (eX k))))
 have X:=O N;have qh:=O K;have qq:=O R
 have G:Hid (eS (S.lay (l+1) k).1=pp/\fG (S.lay (l+1) k).1=er/\(S.lay (l+1) k).2=T):=O (by
  rw[←N,←K,←R];unfold Kor.lay;rw[hh];cases S.put (l+1) (cL (l+1) (eX k)) with
  | none=>exact⟨rfl,rfl,rfl⟩
  | some x=>exact⟨rfl,rfl,rfl⟩)
 have M:=cX ((l+1:Nat):Int) vs hv.nv;obtain⟨nc,m⟩:=zX9 (bU ((l+1:Nat):Int) vs (fun i=>(k i).ptr))
 have qv:Hid (∀u∈nc,u.oneCell'=true):=O (by rw[←m];exact cZ _ hv.nv);have J:=O m;rw[m] at M ⊢;have E:=O hK;have F:=O hv;have qi:=O r;have f:=lN w;clear hK hv r m hh N K R;go_in
 go_wp2_with ((with_reducible show WL _ _);refine bxL f 98 (.tmp 1) (nc.toArray) ?_)
 intro b3 w1 b f;replace E:=O (E.keep0 b);replace F:=O (bS.keep0 F.out b);clear b
 go_wp2_with ((with_reducible show WL _ _);refine alL f 27 (.agg aH.toArray) (aH.toArray) bA ?_)
 intro b4 w2 b f;replace E:=O (E.keep0 b);replace F:=O (bS.keep0 F.out b);clear b
 go_wp2_with ((with_reducible show WL _ _);refine wpList_load_mid rfl 98 (.tmp 3) rfl b3 0 rfl nc _ (aC (f.b 1)) underlying98 rfl (by rw[M];exact dA) ?_)
 refine((by rw[←J.out];exact CX w2 _ vs (fun i=>(k i).ptr) F.nv:Ka w2 (aK w2 (.bool (kR (fun i=>(k i).ptr)))))).mono ?_;rintro e w3 ⟨rfl,b⟩;replace f:=kL f b;replace E:=O (E.keep0 b);replace F:=O (bS.keep0 F.out b);clear b;rw[qg.out]
 go_wp2_with ((with_reducible show WL _ _);refine wpList_load_mid rfl 98 (.tmp 3) rfl b3 0 rfl nc _ (aC (f.b 1)) underlying98 rfl (by rw[M];exact dA) ?_)
 have qr:=O f.keep.size;refine((by rw[←J.out];exact C3 w3 (l+1) vs (fun i=>(k i).ptr) F.nv (by omega) (by omega) (fun i I=>by have:=(qi i I).fit;exact this):Ka w3 (xV w3 (l+1) (fun i=>(k i).ptr)))).mono ?_;rintro e w4 ⟨v1,rfl,ho,b⟩;rw[←KD,ql.out] at ho;obtain⟨va,vc,rfl,-,-⟩:=(Rd.of_owns ho).form;have HO:=O ho;have qu:Hid (∀i,(Value.slice va 256 vc).ownBlock=some i->¬B i):=O (fun i I e=>by have:=aU ho I;have:=q.out i e;have:=qr.out;omega);clear ho;replace f:=kL f b;replace E:=O (E.keep0 b);replace F:=O (bS.keep0 F.out b);clear b;have c1:w4.cell? ⟨b3,0,none⟩=some (.int .i64 ((l+1:Nat):Int)):=(aD (i:=0) (f.b 1) (by rw[←J.out];rfl))
 go_wp2_with fail;clear c1;have d:=O (f.lt 0);refine((KI.put E.out (lv:=l+1) (by omega) qe.out (Rd.of_owns HO.out) qu.out:Ka w4 (rK w4 c B (S.put (l+1) (cL (l+1) (eX k))) S))).mono ?_;rintro e w8 hm;obtain⟨v,B',qb,y,L,Y,qa,s,b⟩:=hm.all;rw[X.out,qh.out] at qb;rw[X.out] at y;rw[qq.out] at L;subst qb;have U:=O (b.blk (f.b 0) (fun e=>by have:=q.out _ e;have:=d.1;omega));have qt:=O (fun i (I:v.ownBlock=some i) (e:i=b4)=>show False from by have:=s i I;have:=d.2;omega);have z:=aJ (v:=v) y.pt.sum;have H:=aN y.pt;obtain⟨qc,n⟩:=zX9 (aF v pp)
 have qn:Hid (∀u∈qc,u.oneCell'=true):=O (by rw[←n];exact H);have qp:=O n;have j:=O f.keep;have qk:=O L;have qo:=O y;have V:=O Y;have qf:=O qa;have qm:=O s;have qj:=O b;rw[n] at z ⊢;clear y L Y qa s b n H f E
 go_wp2_with ((with_reducible show WL _ _);refine sta 27 (.tmp 4) (.tmp 25) b4 0 qc U.out (by rw[List.size_toArray,aE,z];omega) (szP9 z) qn.out ?_)
 intro w9 b hb;rw[aI _ _ (by rw[List.size_toArray,aE,z])] at hb
 have W:Hid (∀i,i=b4->¬B' i):=O (by
  rintro i rfl e;rcases V.out _ e with h|h
  ·have:=q.out _ h;have:=d.1;omega
  ·have:=d.2;omega)
 have HP:Hid (bI w c B (.slice none 0 0) (S.lay (l+1) k).1 (S.lay (l+1) k).2 (.returned (.tuple #[.agg qc.toArray,.int .i64 er])) w9):=O ⟨v,B',by rw[G.1,G.2.1,qp.out],by rw[G.1];exact qo.keepT b (fun i I e=>qt.out i I e),by rw[G.2.2];exact qk.keepT b W.out,fun i e=>(V i e).imp id (fun h=>Nat.le_trans j.size h),((Cl.refl _ _ _ j.out).trans qf.out).trans (fun i e=>(by
  by_cases h:IsC w8 i
  ·obtain⟨cs,t,h⟩:=h
   exact .inl ⟨cs,t,b.blk h (fun e2=>W.out i e2 e)⟩
  ·exact .inr ⟨e,h⟩)),.inr (qm.from j.size),(j.any.trans qj.out).tT b (fun i I e=>by have:=d.1;omega)⟩
 have qd:=O hb;clear b hb U;go_wp2_with fail;refine bodyPost_ret (aT rfl _ _ b4 _ _ _ _ rfl qd.out aG rfl (by rw[List.size_toArray,z];exact cC)) rfl ?_;exact HP.out
theorem E0(d:KI w c S B)(f:l≤2)(k:Nat->Tr)(b:∀i,i<4->Tr.Ok S l (k i))(vs:Nat->Value)(h:bS w B vs (fun i=>(k i).ptr)):Calls prog 88 #[.pointer c,.agg (bU ((l+1:Nat):Int) vs (fun i=>(k i).ptr)).toArray] w (bI w c B (.slice none 0 0) (S.lay (l+1) k).1 (S.lay (l+1) k).2):=by
 cases e:gM k with
 | true=>exact KH d f k b vs h e
 | false=>exact KJ d f k b vs h e
theorem DG(e:KI w c S B)(vv:Value)(bs:List UInt8)(b:bs.length=256)(f:Rd w 1 vv 256 (bs.map vb))(d:∀i,vv.ownBlock=some i->¬B i):Calls prog 93 #[.pointer c,vv] w (bI w c B (.slice none 0 0) (S.leaf bs).1 (S.leaf bs).2):=by
 by_cases h:bs=zB
 ·subst h;exact Ch e vv f
 ·exact Ci e vv bs b h f d
end
end Go.Proofs.YtiinnfhjpaeffaaGreat
