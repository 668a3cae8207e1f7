import Derived.Test.YtoeinblfcbpcmaaGreatR27
import Derived.Deep.DeepAppendRoom
namespace Go.Proofs.YtoeinblfcbpcmaaGreat
open Tryz
set_option maxHeartbeats 0
set_option maxRecDepth 100000
set_option linter.unusedVariables false
section
open Go.RowKit Go.Maps Go.ChangeMaps
variable{P:Program}{w w' w0 w1:World}{ops:Array Oper}{xT:List Oper}{o:Oper}{a:Act}{Q:Exit->Act->World->Prop}{A C:List Value}{vs:Nat->Value}{k lv j g n c l D Z:Nat}{v v0:Value}{T B B':Nat->Prop}{bs:List UInt8}{S:Kor}{e:Ending}{t:Tr}
theorem DI(w:World)(T e:TypeId)(len size i:Nat)(q:Array Value)(k:IntKind)(d:TypeDesc)(u:P.underlying T=some (.array len e))(E:i<len)(m:P.underlying e=some d)(z:(match d with|.struct _|.array _ _=>true|_=>false)=true)(r:(P.info? e).map (·.size)=some size) :
 (Instr.index T (.agg q) (.int k (i:Int))).run P w=.ok (.agg (q.extract (i*size) (i*size+size))) w:=by
 cases f:P.info? e with
 | none=>simp[f] at r
 | some x =>
   have h:x.size=size:=by simpa [f] using r
   have b:(isAgg e).run P w=.ok true w:=by
    unfold isAgg;rw[Sem.run_bind,run_underlying m w];cases d<;>simp_all
   have s:(0:Int)≤(i:Int)/\(i:Int)<(len:Int):=by omega
   simp[Instr.index,asIntOf,run_underlying u,sizeOf,typeInfo,f,h,s,part,b,Sem.run_bind];intro y;omega
theorem idx(T e:TypeId)(len size i:Nat)(b:Array Value)(k:IntKind)(d:TypeDesc)(x y:Operand)(E:P.underlying T=some (.array len e))(s:i<len)(f:P.underlying e=some d)(q:(match d with|.struct _|.array _ _=>true|_=>false)=true)(z:(P.info? e).map (·.size)=some size)
 (h:wpList P ops Q xT (a.put o.dst (.agg (b.extract (i*size) (i*size+size)))) w) (F:a.eval x=.agg b:=by rfl) (G:a.eval y=.int k (i:Int):=by rfl) (r:o.guard=none:=by rfl) (u:o.op=.index T x y:=by rfl):wpList P ops Q (o::xT) a w:=by
 refine wpList_plain r fun K m=>?_
 unfold Oper.wp execOp;simp only[u,F,G,Sem.run_bind,DI w T e len size i b k d E s f q z,Result.andThen_ok];exact m _ _ h
theorem Aq(h:A.length=35):(A++C).take 35=A:=by rw[←h,List.take_left]
theorem nP(h:A.length=35):(A++C).drop 35=C:=by rw[←h,List.drop_left]
def tL(vs:Nat->Value)(b:Nat->Pt):List Value:=aE (vs 0) (b 0)++(aE (vs 1) (b 1)++(aE (vs 2) (b 2)++aE (vs 3) (b 3)))
theorem G4{h:Nat->Pt}(b:dK w vs h)(i:k<4):(tL vs h).toArray.extract (k*35) (k*35+35)=(aE (vs k) (h k)).toArray:=by
 have d:=aF (v:=vs 0) (b 0 (by omega)).sum;have f:=aF (v:=vs 1) (b 1 (by omega)).sum;have l2:=aF (v:=vs 2) (b 2 (by omega)).sum;have l3:=aF (v:=vs 3) (b 3 (by omega)).sum;rw[List.extract_toArray,List.extract_eq_take_drop,Nat.add_sub_cancel_left]
 congr 1
 unfold tL;rcases k with _|_|_|_|k
 ·exact Aq d
 ·rw[show (0+1)*35=35 from rfl,nP d];exact Aq f
 ·rw[show (0+1+1)*35=35+35 from rfl,←List.drop_drop,nP d,nP f];exact Aq l2
 ·rw[show (0+1+1+1)*35=35+(35+35) from rfl,←List.drop_drop,←List.drop_drop,nP d,nP f,nP l2,←l3,List.take_length]
 ·omega
theorem As(E:o.guard=none)(s x:Operand)(t:TypeId)
 (N:o.op=.call { callee:=.builtin .append,args:=#[s,x],argTypes:=#[t,t] })
 (e:TypeId) (i:TypeInfo) (V:P.underlying t=some (.slice e)) (J:P.info? e=some i) (d:i.size=1)
 (g n f:Nat) (cur:Array Value) (G:w.heap[g]?=some (.cells cur e (0,0))) (U:a.eval s=.slice g n f)
 (z:Addr) (m c:Nat) (b:List Value) (W:a.eval x=.slice (some z) m c) (F:b.length=m) (r:∀j u,b[j]?=some u->w.cell? (z.add j)=some u) (H:∀u∈b,u.oneCell'=true)
 (y:n+m≤f) (q:n+m≤cur.size)
 (h:∀w',w'.heap[g]?=some (.cells (spl cur n b) e (0,0))->aA (fun k=>k=g) w w'->wpList P ops Q xT (a.put o.dst (.slice g (n+m) f)) w'):wpList P ops Q (o::xT) a w:=by
 have R:=run_append_room (P:=P) w t o.type e i V J g n f cur G z m c b (by rw[d,Nat.mul_one];exact F) r H y (by rw[d,Nat.mul_one,F];exact q);refine wpList_plain E fun K I=>?_
 unfold Oper.wp execOp;simp only[N,resolve,invoke,builtin,Sem.run_bind,Sem.run_pure,Result.andThen_ok,List.map_toArray,List.map_cons,List.map_nil,U,W,R];refine I _ _ (h _ ?_ ⟨rfl,rfl,rfl,by simp,fun k _ L=>setRow_other w g k _ L⟩);rw[setRow_heap w g cur _ e _ G,←wD cur n b (by rw[F];exact q)];simp[d]
theorem QO(w:World):(Instr.makeSlice 68 (.int .i64 1) (.int .i64 256)).run prog w=.ok (.slice (w.heap.size) 1 256) (w.alloc (.cells dV.toArray 5)):=by kernel_rfl
theorem mks(x y:Operand)(h:∀b w',w.heap.size=b->aA aB w w'->w'.heap[b]?=some (.cells dV.toArray 5 (0,0))->wpList prog ops Q xT (a.put o.dst (.slice (some ⟨b,0,none⟩) 1 256)) w')(m:a.eval x=.int .i64 1:=by rfl)(q:a.eval y=.int .i64 256:=by rfl)(f:o.guard=none:=by rfl)(i:o.op=.makeSlice 68 x y:=by rfl):wpList prog ops Q (o::xT) a w:=by
 refine wpList_plain f fun K d=>?_
 unfold Oper.wp execOp;simp only[i,m,q,Sem.run_bind,QO,Result.andThen_ok];exact d _ _ (h _ _ rfl ((aA.refl _ _).alloc _) (heap_alloc_new _ _))
theorem Qb(w:World):(Instr.makeSlice 68 (.int .i64 256) (.int .i64 256)).run prog w=.ok (.slice (w.heap.size) 256 256) (w.alloc (.cells dV.toArray 5)):=by kernel_rfl
theorem mkz(x y:Operand)(h:∀b w',w.heap.size=b->aA aB w w'->w'.heap[b]?=some (.cells dV.toArray 5 (0,0))->wpList prog ops Q xT (a.put o.dst (.slice (some ⟨b,0,none⟩) 256 256)) w')(m:a.eval x=.int .i64 256:=by rfl)(q:a.eval y=.int .i64 256:=by rfl)(f:o.guard=none:=by rfl)(i:o.op=.makeSlice 68 x y:=by rfl):wpList prog ops Q (o::xT) a w:=by
 refine wpList_plain f fun K d=>?_
 unfold Oper.wp execOp;simp only[i,m,q,Sem.run_bind,Qb,Result.andThen_ok];exact d _ _ (h _ _ rfl ((aA.refl _ _).alloc _) (heap_alloc_new _ _))
def nQ(lv:Nat)(b:Nat->Pt)(k:Nat):List UInt8:=UInt8.ofNat lv::(List.range k).flatMap fun j=>ptB (b j)
theorem CT(lv:Nat)(b:Nat->Pt)(k:Nat):nQ lv b (k+1)=nQ lv b k++ptB (b k):=by unfold nQ;rw[List.range_succ,List.flatMap_append,List.flatMap_cons,List.flatMap_nil,List.append_nil];rfl
theorem vC(lv:Nat)(b:Nat->Pt)(h:∀k,k<4->(ptB (b k)).length=47):∀k,k≤4->(nQ lv b k).length=1+k*47
 | 0,_=>rfl
 | k+1,d=>by rw[CT,List.length_append,vC lv b h k (by omega),h k (by omega)];omega
def rD(lv:Nat)(b:Nat->Pt)(k:Nat):List Value:=(nQ lv b k).map vb++List.replicate (255-k*47) (.int .u8 0)
theorem Au(lv:Nat)(b:Nat->Pt)(h:∀k,k<4->(ptB (b k)).length=47)(k:Nat)(d:k≤4):(rD lv b k).length=256:=by
 unfold rD;rw[List.length_append,List.length_map,vC lv b h k d,List.length_replicate];omega
theorem KV(lv:Nat)(b:Nat->Pt)(h:∀k,k<4->(ptB (b k)).length=47)(k:Nat)(i:k<4):spl (rD lv b k).toArray (1+k*47) ((ptB (b k)).map vb)=(rD lv b (k+1)).toArray:=by
 have d:=vC lv b h k (by omega);have h7:=h k i;rw[←wD _ _ _ (by rw[List.size_toArray,Au lv b h k (by omega),List.length_map,h7];omega)]
 congr 1
 unfold rD;rw[CT,List.map_append,List.append_assoc];have f:(nQ lv b k).map vb=((nQ lv b k).map vb++List.replicate (255-k*47) (Value.int .u8 0)).take (1+k*47):=by rw[List.take_left' (by rw[List.length_map,d])]
 simp only[];rw[←f,List.length_map,h7]
 congr 2
 rw[←List.drop_drop,List.drop_left' (by rw[List.length_map,d]),List.drop_replicate]
 congr 1
 omega
theorem N9:(prog.info? 87).map (·.size)=some 140:=by kernel_rfl
theorem KW(lv:Nat)(b:lv<256)(d:Nat->Pt):spl dV.toArray 0 [.int .u8 (lv:Int)]=(rD lv d 0).toArray:=by
 rw[←wD _ _ _ (by simp[qW])]
 congr 1
 unfold rD nQ;rw[List.map_cons,N4 b];rfl
def xR(w:World)(lv:Nat)(b:Nat->Pt)(e:Ending)(w':World):Prop:=
 ∃v,e=.returned (.tuple #[v,.int .i64 0])/\w'.ownsRow w.heap.size 5 1 v 256 (rD lv b 4)/\aA aB w w'
theorem O1{b:Nat->Pt}{lv:Int}(h:dK w vs b)(f:∀k,k<4->B4 lv (b k)):∀k,k<4->(ptB (b k)).length=47:=fun k d=>by
 have i:(b k).may=true:=(f k d).elim kA fun h=>h.2.1
 unfold ptB;rw[if_pos i,fB (h k d).sum]
theorem nS{base b:Nat}{d:List Value}(i:w.heap[b]?=some (.cells d.toArray 5 (0,0)))(h:d.length=256)(f:base≤b):w.ownsRow base 5 1 (.slice b 256 256) 256 d:=by
 refine⟨by simp[h],.inr ⟨b,256,d.toArray,rfl,f,i,Nat.le_refl _,by unfold maxLen;omega,by simp[h],?_⟩⟩;rw[List.toList_toArray,←h];simp
theorem CU(w:World)(lv:Nat)(vs:Nat->Value)(m:Nat->Pt)(h:dK w vs m)(Y:1≤lv)(h3:lv≤3)(hf:∀k,k<4->B4 (lv:Int) (m k)):Calls prog 94 #[.agg (bS (lv:Int) vs m).toArray] w (xR w lv m):=by
 have X:=cP (lv:Int) vs h
 have qi:(tL vs m).length=140:=by
  have:=X;unfold bS at this;rw[List.length_cons] at this;unfold tL;omega
 obtain⟨tc,G⟩:=zX9 (tL vs m)
 obtain⟨nc,x⟩:=zX9 (bS (lv:Int) vs m)
 have qe:Hid (nc=.int .i64 (lv:Int)::tc):=O (by rw[←x,←G];rfl);have qt:=O G;have qx:Hid (∀u∈nc,u.oneCell'=true):=O (by rw[←x];exact cQ (lv:Int) h);have qo:=O x;have K:=O (O1 h hf);rw[x] at X ⊢;rw[G] at qi;have f:=O h;have HF:=O hf;have h10:0≤(lv:Int):=by omega
 have qy:(lv:Int)≤3:=by omega
 have d:=lN w;clear h x hf G;have q:=f;go_in
 go_wp2_with refine bxM d (nc.toArray) ?_
 intro b1 w1 b d;replace f:=O (dK.keep f.out b);clear b
 go_wp2_with ((with_reducible show WL _ _);refine ldR (d.b 0) underlying89 (by rw[X];exact cU) ?_)
 refine((by rw[←qo.out];exact IZ w1 (lv:Int) vs m f.out (by omega) (by omega) HF.out:Ka w1 (aH w1 (.int .i64 0)))).mono ?_;rintro e w2 ⟨rfl,b⟩;replace d:=kL d b;replace f:=O (dK.keep f.out b);clear b
 go_wp2_with ((with_reducible show WL _ _);refine mks (.const (.int .i64 1)) (.const (.int .i64 256)) ?_)
 intro I w3 J b E;replace d:=lW d J b E;replace f:=O (dK.keep f.out b);clear J b E;have c1:w3.cell? ⟨b1,0,none⟩=some (.int .i64 (lv:Int)):=(aC (i:=0) (d.b 1) (by rw[qe.out];rfl))
 go_wp2_with ((with_reducible show WL _ _);refine sta 5 (.tmp 20) (.tmp 19) I 0 ([.int .u8 (lv:Int)]) (d.b 0) (by simp[qW]) (by kernel_rfl) (one9) ?_)
 clear c1;intro w4 b E;rw[KW lv (by omega) m] at E;replace d:=O (d.set 0 b E);replace f:=O (dK.keep q.out d.keep);clear b E
 go_wp2_with ((with_reducible show WL _ _);refine ldM b1 1 tc (by have h:=aD (d.b 1);rw[qe.out] at h;exact vB h) underlying87 (by rw[qi];exact N9) ?_)
 have HB:=O (d.b 1);have L:=O (d.b 0);have qc:=O (d.lt 0);have qw:Hid (b1≠I):=O (fun e=>by have Y:=HB.out;rw[e,L.out] at Y;injection Y with Y;injection Y with Y h2;revert h2;decide);have ql:=O d.keep
 obtain⟨iu,qf,qh⟩:∃i,prog.info? 5=some i/\i.size=1:=by
  cases hq:prog.info? 5 with
  | none=>have:=AJ;rw[hq] at this;cases this
  | some i=>exact⟨i,rfl,by have:=AJ;rw[hq] at this;simpa using this⟩
 have qk:=O qf;have qr:=O qh;clear d f qf qh
 go_loopw [5,23] (fun s i wr=>∃k:Nat,k≤4/\s=.slice I (1+k*47) 256/\i=.int .i64 k/\Hid (aA aB w wr)/\Hid (wr.heap[I]?=some (.cells (rD lv m k).toArray 5 (0,0)))) (fun _ i _=>4-(intOf i).toNat)
 case atStart=>exact⟨0,by omega,rfl,rfl,ql,L⟩
 case round =>
  obtain⟨k,b,rfl,rfl,HK,y⟩:=hrel
  by_cases r:k<4
  ·have H:=O (dK.keep q.out HK.out)
   have z:=aF (v:=vs k) (q k r).sum;have R:=O (G4 q.out r);rw[qt.out] at R;have qn:Hid ((m k).may=true):=O ((HF k r).elim kA fun h=>h.2.1);have U:=O (K k r);obtain⟨pk,F⟩:=zX9 (aE (vs k) (m k))
   have qp:Hid (∀u∈pk,u.oneCell'=true):=O (by rw[←F];exact aL (q k r));have qq:=O F;rw[F] at z R;have d:=lN wr;have W:(0:Int)≤(k:Int):=by omega
   have qz:(k:Int)<4:=by omega
   clear F
   go_wp2_with ((with_reducible show WL _ _);first
    | refine idx 87 30 4 35 k _ .i64 _ (.tmp 22) (.tmp 23) underlying87 r aI rfl wV ?_;rw[R.out]
    | refine alA aZ ?_)
   intro b7 w5 J W N
   go_wp2_with ((with_reducible show WL _ _);refine sta 30 (.tmp 7) (.tmp 25) b7 0 pk N (by first|decide|(rw[List.size_toArray,z];exact Nat.le_refl _)|simp[z]) (szP9 z) qp.out ?_)
   intro w6 b E;rw[aS _ _ (by first|rfl|(rw[List.size_toArray,z];rfl)|simp[z])] at E;replace b:=tX W b (fun i hi e=>by omega);replace d:=lW d J b E;replace H:=O (dK.keep H.out b);replace y:=O (b.blk y.out id);clear J b E W N
   go_wp2_with refine ldQ (d.b 0) z ?_
   refine((by rw[←qq.out];exact wW w6 (vs k) (m k) (H k r):Ka w6 (CG w6 (m k)))).mono ?_;rintro e w7 ⟨v1,rfl,ho,b⟩;rw[if_pos qn.out];rw[U.out] at ho;obtain⟨pa,pc,rfl,-,-⟩:=(Rd.of_owns ho).form;have HO:=O ho;clear ho;replace d:=kL d b;replace H:=O (dK.keep H.out b);replace y:=O (b.blk y.out id);clear b
   obtain⟨pg,po,qv,qu,qg⟩:∃g o V,Value.slice pa 47 pc=.slice (some ⟨g,o,none⟩) 47 V/\∀j u,((ptB (m k)).map vb)[j]?=some u->w7.cell? ⟨g,o+j,none⟩=some u:=by
    obtain⟨_,a',V,he,-,-,-,h4⟩:=Rd.of_owns HO.out;obtain⟨g,o,rfl,hc⟩:=h4 (by rw[List.length_map,U.out];decide);exact⟨g,o,V,he,hc⟩
   injection qu with e1 e2 e3
   subst e1;subst e3;have qb:=O qg;clear qg e2;have qa:=y;have qd:=O d.keep
   go_wp2_with (first
    | (at_builtin;refine As rfl (.tmp 31) (.tmp 32) 68 rfl 5 iu underlying68 qk.out qr.out I (1+k*47) 256 _ qa.out rfl ⟨pg,po,none⟩ 47 pc ((ptB (m k)).map vb) rfl (by rw[List.length_map,U.out]) (fun j u hj=>by rw[jL];exact qb.out j u hj) (bR _) (by omega) (by rw[List.size_toArray,Au lv m K.out k (by omega)];omega) ?_))
   intro w9 E b;rw[KV lv m K.out k r] at E;have qm:Hid (aA aB w w9):=O ((HK.trans qd.out).tT b (fun i hi e=>by have:=qc.1;omega));have qj:=O E;clear E b d H y HO qb qa qd;go_wp2
   go_roundw
   case rel=>exact⟨k+1,by omega,(by rw[show 1+(k+1)*47=1+k*47+47 by omega]),by go_num,qm,qj⟩
   case measure=>simp[intOf];omega
  ·obtain rfl:k=4:=by omega
   go_wp2
   go_ret2
   exact⟨_,rfl,nS y.out (Au lv m K.out 4 (by omega)) qc.1,HK.out⟩
def nb(lv:Nat)(b:Nat->Pt):List UInt8:=nQ lv b 4++List.replicate 67 0
theorem KZ(lv:Nat)(b:Nat->Pt):(nb lv b).map vb=rD lv b 4:=by unfold nb rD;rw[List.map_append,List.map_replicate];rfl
theorem Qc(lv:Nat)(b:Nat->Pt)(h:∀k,k<4->(ptB (b k)).length=47):(nb lv b).length=256:=by
 unfold nb;rw[List.length_append,vC lv b h 4 (by omega),List.length_replicate]
def fQ{α:Type}(f:Nat->α)(k:Nat)(v:α):Nat->α:=fun j=>if j=k then v else f j
theorem nT{α:Type}(f:Nat->α)(k:Nat)(v:α):fQ f k v k=v:=if_pos rfl
theorem nU{α:Type}(f:Nat->α)(v:α)(h:j≠k):fQ f k v j=f j:=if_neg h
theorem kY(P A B R:List Value)(h:B.length=A.length):spl (P++(A++R)).toArray P.length B=(P++(B++R)).toArray:=by
 rw[←wD _ _ _ (by simp;omega)]
 congr 1
 rw[List.toList_toArray,List.take_left,←List.drop_drop,List.drop_left,h,List.drop_left]
theorem E4{b:Nat->Pt}(d:dK w vs b)(lv:Int)(r:k<4){p:Pt}(q:p.sum.length=32):spl (bS lv vs b).toArray (1+k*35) (aE v p)=(bS lv (fQ vs k v) (fQ b k p)).toArray:=by
 have f:=aF (v:=vs 0) (d 0 (by omega)).sum;have m:=aF (v:=vs 1) (d 1 (by omega)).sum;have l2:=aF (v:=vs 2) (d 2 (by omega)).sum;have l3:=aF (v:=vs 3) (d 3 (by omega)).sum;have i:=aF (v:=v) q;rcases k with _|_|_|_|k
 ·exact kY [.int .i64 lv] (aE (vs 0) (b 0)) (aE v p) (aE (vs 1) (b 1)++(aE (vs 2) (b 2)++aE (vs 3) (b 3))) (by rw[i,f])
 ·have h:=kY (.int .i64 lv::aE (vs 0) (b 0)) (aE (vs 1) (b 1)) (aE v p) (aE (vs 2) (b 2)++aE (vs 3) (b 3)) (by rw[i,m])
  rw[List.length_cons,f] at h;exact h
 ·have h:=kY (.int .i64 lv::(aE (vs 0) (b 0)++aE (vs 1) (b 1))) (aE (vs 2) (b 2)) (aE v p) (aE (vs 3) (b 3)) (by rw[i,l2])
  rw[List.length_cons,List.length_append,f,m,List.cons_append,List.cons_append,List.append_assoc,List.append_assoc] at h;exact h
 ·have h:=kY (.int .i64 lv::(aE (vs 0) (b 0)++(aE (vs 1) (b 1)++aE (vs 2) (b 2)))) (aE (vs 3) (b 3)) (aE v p) [] (by rw[i,l3])
  rw[List.length_cons,List.length_append,List.length_append,f,m,l2,List.cons_append,List.cons_append,List.append_assoc,List.append_assoc,List.append_assoc,List.append_assoc,List.append_nil,List.append_nil] at h;exact h
 ·omega
def vD(b:Nat->Pt)(k:Nat):Nat->Pt:=fun j=>if j<k then b j else zPt
theorem CV(b:Nat->Pt)(k:Nat):vD b (k+1)=fQ (vD b k) k (b k):=by
 funext j
 unfold vD fQ
 by_cases e:j=k
 ·subst e;rw[if_pos (by omega),if_pos rfl]
 ·rw[if_neg e]
  show _=if j<k then b j else zPt
  by_cases h:j<k
  ·rw[if_pos h,if_pos (by omega)]
  ·rw[if_neg h,if_neg (by omega)]
def IsC(w:World)(k:Nat):Prop:=∃b t,w.heap[k]?=some (.cells b t (0,0))
theorem IsC.lt(h:IsC w k):k<w.heap.size:=by obtain⟨b,t,h⟩:=h;exact lt_of_block h
theorem IsC.keep(h:IsC w k)(f:aA T w w')(d:¬T k):IsC w' k:=by obtain⟨b,t,h⟩:=h;exact⟨b,t,f.blk h d⟩
def sS(w0 w:World)(v:Value):Prop:=∀i,v.ownBlock=some i->w0.heap.size≤i/\IsC w i
theorem sS.keep(h:sS w0 w v)(k:aA T w w')(d:∀i,v.ownBlock=some i->¬T i):sS w0 w' v:=fun i b=>⟨(h i b).1,(h i b).2.keep k (d i b)⟩
def fS(w0 w:World)(vs:Nat->Value)(b:Nat->Pt):Prop:=∀k,k<4->PtV w (vs k) (b k)/\sS w0 w (vs k)
theorem fS.nv{b:Nat->Pt}(h:fS w0 w vs b):dK w vs b:=fun k d=>(h k d).1
theorem fS.keep{m:Nat->Pt}(h:fS w0 w vs m)(k:aA T w w')(f:∀i,T i->¬(w0.heap.size≤i/\∃j,j<4/\(vs j).ownBlock=some i)):fS w0 w' vs m:=fun i b =>
 ⟨(h i b).1.keep k fun j d e=>f j e ⟨((h i b).2 j d).1,i,b,d⟩,fun j d=>⟨((h i b).2 j d).1,((h i b).2 j d).2.keep k fun e=>f j e ⟨((h i b).2 j d).1,i,b,d⟩⟩⟩
theorem fS.keep0{b:Nat->Pt}(h:fS w0 w vs b)(k:aA aB w w'):fS w0 w' vs b:=h.keep k fun _ e=>e.elim
theorem vE(w:World):PtV w (.slice none 0 0) zPt:=⟨Rd.nil w 2,fun x b=>(by cases b),rfl⟩
theorem fS.zero(w0 w:World):fS w0 w (fun _=>.slice none 0 0) (fun _=>zPt):=fun _ _=>⟨vE w,fun i b=>by cases b⟩
theorem fS.put{b:Nat->Pt}(h:fS w0 w vs b){p:Pt}(m:PtV w v p)(f:sS w0 w v):fS w0 w (fQ vs k v) (fQ b k p):=fun i d=>by
 by_cases e:i=k
 ·subst e;rw[nT,nT];exact⟨m,f⟩
 ·rw[nU _ _ e,nU _ _ e];exact h i d
def zH(w:World)(lv:Nat)(b:Nat->Pt)(e:Ending)(w':World):Prop:=
 ∃vs,e=.returned (.tuple #[.agg (bS (lv:Int) vs b).toArray,.int .i64 0])/\fS w w' vs b/\aA aB w w'
theorem Ni(lv:Int):prog.built 89 [(0,.int .i64 lv)]=some (bS lv (fun _=>.slice none 0 0) (fun _=>zPt)).toArray:=by kernel_rfl
theorem B6(lv:Int)(w:World):(Instr.build 89 #[(0,.int .i64 lv)]).run prog w=.ok (.agg (bS lv (fun _=>.slice none 0 0) (fun _=>zPt)).toArray) w:=run_build w 89 _ _ (Ni lv)
theorem O3{o a:Nat}{l:List UInt8}(q:∀j u,(l.map vb)[j]?=some u->w.cell? ⟨g,o+j,none⟩=some u)(s:(l.drop k).take 47=bs)(d:bs.length=47)(m:a=o+k)(r:n=47)(f:47≤c)(h:c≤maxLen):Rd w 1 (.slice (some ⟨g,a,none⟩) n c) bs.length (bs.map vb):=by
 subst m r;rw[d];refine⟨by rw[List.length_map,d],_,_,rfl,f,h,(fun e=>by cases e),fun _=>⟨g,_,rfl,fun i u b=>?_⟩⟩;rw[show o+k+i=o+(k+i) by omega];refine q _ _ ?_;rw[←s,List.getElem?_map,List.getElem?_take] at b;split at b
 ·rw[List.getElem?_drop] at b
  rw[List.getElem?_map];exact b
 ·cases b
theorem O4(lv:Nat)(b:Nat->Pt)(h:∀k,k<4->(ptB (b k)).length=47)(q:k<4):((nb lv b).drop (1+k*47)).take 47=ptB (b k):=by
 have e:nQ lv b 4=UInt8.ofNat lv::(ptB (b 0)++(ptB (b 1)++(ptB (b 2)++ptB (b 3)))):=by
  unfold nQ;simp[List.range_succ]
 have d:=h 0 (by omega);have f:=h 1 (by omega);have l2:=h 2 (by omega);have l3:=h 3 (by omega);unfold nb;rw[e]
 have cut:∀(A B C:List UInt8) (n:Nat),A.length=n->B.length=47->((A++(B++C)).drop n).take 47=B:=fun A B C n i m=>by
  rw[←i,List.drop_left,←m,List.take_left]
 rcases k with _|_|_|_|k
 ·exact(congrArg (fun l=>(List.drop 1 l).take 47) (by simp[List.append_assoc])).trans (cut [UInt8.ofNat lv] (ptB (b 0)) (ptB (b 1)++(ptB (b 2)++(ptB (b 3)++List.replicate 67 0))) 1 rfl d)
 ·exact(congrArg (fun l=>(List.drop 48 l).take 47) (by simp[List.append_assoc])).trans (cut (UInt8.ofNat lv::ptB (b 0)) (ptB (b 1)) (ptB (b 2)++(ptB (b 3)++List.replicate 67 0)) 48 (by simp[d]) f)
 ·exact(congrArg (fun l=>(List.drop 95 l).take 47) (by simp[List.append_assoc])).trans (cut (UInt8.ofNat lv::(ptB (b 0)++ptB (b 1))) (ptB (b 2)) (ptB (b 3)++List.replicate 67 0) 95 (by simp[d,f]) l2)
 ·exact(congrArg (fun l=>(List.drop 142 l).take 47) (by simp[List.append_assoc])).trans (cut (UInt8.ofNat lv::(ptB (b 0)++(ptB (b 1)++ptB (b 2)))) (ptB (b 3)) (List.replicate 67 0) 142 (by simp[d,f,l2]) l3)
 ·omega
theorem Nj{p:Pt}(f:p.sum.length=32)(b:p.may=true):lM (ptB p)=true/\gU (ptB p)=p:=by
 have d:=KY f b;have h:=fB f;unfold ptB;rw[if_pos b,d];unfold lM;rw[d,h,b];unfold ptB;rw[if_pos b];simp
theorem zI(w:World)(bv:Value)(lv:Nat)(s:Nat->Pt)(h1:1≤lv)(h3:lv≤3)(hs:∀k,k<4->(s k).sum.length=32)(hf:∀k,k<4->B4 (lv:Int) (s k))(hr:Rd w 1 bv 256 ((nb lv s).map vb)):Calls prog 81 #[bv] w (zH w lv s):=by
 have qt:∀k,k<4->(s k).may=true:=fun k b=>(hf k b).elim kA fun h=>h.2.1
 have qo:∀k,k<4->(ptB (s k)).length=47:=fun k b=>by unfold ptB;rw[if_pos (qt k b),fB (hs k b)]
 have qm:=O (Qc lv s qo);obtain⟨_,oa,ca,rfl,zw,q5,-,q3⟩:=id hr;obtain⟨g,o,rfl,qq⟩:=q3 (by rw[List.length_map,qm.out];decide);unfold maxLen at q5;have HC:=O qq;have zu:=O (show ca≤maxLen from q5);have HR:=O hr;have zq:=HR;have q1:w.cell? ⟨g,o,none⟩=some (.int .u8 (lv:Int))  :=qq 0 _ (by unfold nb nQ;rw[List.cons_append,List.map_cons,N4 (by omega)];rfl);have K:=O q1;have zj:=O qt;have R:=O hs;have HF:=O hf;have qv:=O qo;have qu:(bS (lv:Int) (fun _=>.slice none 0 0) (fun _=>zPt)).length=141:=rfl;have qh:Hid (∀u∈bS (lv:Int) (fun _=>.slice none 0 0) (fun _=>zPt),u.oneCell'=true):=O (cQ (w:=w) (lv:Int) fun _ _=>vE w);have qp:=B6 (lv:Int);obtain⟨nz,I⟩:=zX9 (bS (lv:Int) (fun _=>.slice none 0 0) (fun _=>zPt))
 have zn:Hid (∀u∈nz,u.oneCell'=true):=O (by rw[←I];exact qh.out);have zl:=O I;rw[I] at qu qp;have zd:=O qp;have h10:0≤(lv:Int):=by omega
 have zv:(lv:Int)≤3:=by omega
 have d:=lN w;clear hr q3 qq q1 qt hs hf qo I qp qh;go_in
 go_wp2_with refine alM d gV ?_
 intro b2 w1 b d;replace K:=O (b.cell K.out id);replace HR:=O (HR.keep b fun _ _=>id);clear b;have c1:w1.cell? ⟨g,o,none⟩=some (.int .u8 (lv:Int)):=K.out
 go_wp2_with ((with_reducible show WL _ _);first
  | refine bld 89 #[(0,.tmp 17)] [(0,.int .i64 (lv:Int))] (.agg nz.toArray) zd.out ?_
  | refine alA gV ?_)
 clear c1;intro Y w2 q0 qr qj
 go_wp2_with ((with_reducible show WL _ _);refine stW qj qu cW (by rw[qu];exact cU) zn.out ?_)
 intro w3 b z;replace b:=tX qr b (fun i hi e=>by omega);replace d:=lW d q0 b z;replace K:=O (b.cell K.out id);replace HR:=O (HR.keep b fun _ _=>id);clear q0 b z qr qj;go_wp2_with fail;have q:=O (d.b 1);have m:=O (d.b 0);have qw:=O (And.intro (d.lt 1).1 (d.lt 0).1);have zk:Hid (b2≠Y):=O (fun e=>bH (i:=0) d.nd rfl 1 (by decide) rfl e);have zf:=O d.keep;clear d HR K
 go_loopw [19] (fun i wr=>∃k:Nat,k≤4/\i=.int .i64 k/\Hid (aA aB w wr)/\Hid (∃vs,fS w wr vs (vD s k)/\(∀j,j<4->(vs j).ownBlock≠some b2/\(vs j).ownBlock≠some Y)/\wr.heap[Y]?=some (.cells (bS (lv:Int) vs (vD s k)).toArray 89 (0,0)))/\Hid (wr.heap[b2]?=some (.cells xB.toArray 89 (0,0)))) (fun i _=>4-(intOf i).toNat)
 case atStart=>exact⟨0,by omega,rfl,zf,O ⟨_,fS.zero w _,fun j U=>⟨(by intro e;cases e),(by intro e;cases e)⟩,by rw[m.out,←zl.out];rfl⟩,q⟩
 case round =>
  obtain⟨k,b,rfl,HK,HQ,q⟩:=hrel;obtain⟨vs,ql,q9,qz⟩:=HQ.out;have f:=O ql;have qn:=O q9;have m:=O qz;clear ql q9 qz HQ
  by_cases y:k<4
  ·have ze:=O (fun j u h=>HK.cell (HC j u h) id)
   have W:=O (Nj (R k y) (zj k y));have zi:=O (qv k y);have E:=aF (v:=.slice none 0 0) (R k y);have d:=lN wr;have zr:=O HK.size;have qr:(0:Int)≤(k:Int):=by omega
   have zx:(k:Int)<4:=by omega
   have zt:(256:Int)≤(ca:Int):=by omega
   clear E;go_wp2_with fail;refine(MH wr _ (ptB (s k)) (O3 (o:=o) (fun j u h=>d.keep.cell (ze j u h) id) (O4 lv s qv.out y) zi.out (by omega) (by omega) (by omega) (by unfold maxLen;omega)) W.1).mono ?_;rintro e w4 ⟨b,hm⟩;rw[W.1,if_pos rfl,W.2] at hm;obtain⟨v1,rfl,V⟩:=hm;have x:=O (show PtV w4 v1 (s k) from⟨Rd.of_owns V,(by rw[←W.2];exact EB _ _),R k y⟩);have r:Hid (sS w w4 v1):=O (fun i hi=>⟨by have:=aW V hi;have:=d.keep.size;have:=zr.out;omega,by obtain⟨cur,hc⟩:=aJ V hi;exact⟨_,_,hc⟩⟩);have G:Hid (v1.ownBlock≠some b2/\v1.ownBlock≠some Y):=O ⟨fun e=>by have:=aW V e;have:=lt_of_block q.out;omega,fun e=>by have:=aW V e;have:=lt_of_block m.out;omega⟩;have E:=aF (v:=v1) (R k y);obtain⟨pk,J⟩:=zX9 (aE v1 (s k))
   have qy:Hid (∀u∈pk,u.oneCell'=true):=O (by rw[←J];exact aL x.out);have zo:=O J;rw[J] at E ⊢;clear J V;replace d:=kL d b;replace f:=O (f.keep0 b);replace m:=O (b.blk m.out id);replace q:=O (b.blk q.out id);clear b;have zh:=O d.keep;replace d:=O (Loc.nil aB aB w4);have qg:=f;have qe:=m;have qb:=q;have qi:=x;have N:=r
   go_wp2_with refine alM d aZ ?_
   intro b6 w5 b d;replace f:=O (f.keep0 b);replace m:=O (b.blk m.out id);replace q:=O (b.blk q.out id);replace x:=O (x.keep b fun _ _=>id);replace r:=O (sS.keep r.out b fun _ _=>id);clear b
   go_wp2_with refine alM d (O GW) ?_
   intro b7 w6 b d;replace f:=O (f.keep0 b);replace m:=O (b.blk m.out id);replace q:=O (b.blk q.out id);replace x:=O (x.keep b fun _ _=>id);replace r:=O (sS.keep r.out b fun _ _=>id);clear b
   go_wp2_with refine stW (d.b 1) E aG (szP9 E) qy.out ?_
   intro w7 b z;replace d:=O (d.set 1 b z);replace f:=O (qg.keep0 d.keep);replace m:=O (d.keep.blk qe.out id);replace q:=O (d.keep.blk qb.out id);replace x:=O (qi.keep d.keep fun _ _=>id);replace r:=O (sS.keep N.out d.keep fun _ _=>id);clear b z
   go_wp2_with ((with_reducible show WL _ _);refine sta 179 (.tmp 7) (.tmp 34) b7 0 ([.int .i64 0,.int .i64 0]) (d.b 0) (by first|decide|(rw[rfl];exact Nat.le_refl _)|simp[]) (by kernel_rfl) (by intro v hv;simp only[List.mem_cons,List.not_mem_nil,or_false] at hv;rcases hv with rfl|rfl<;>rfl) ?_)
   intro w8 b z;rw[aS _ _ (by first|rfl|simp[])] at z;replace d:=O (d.set 0 b z);replace f:=O (qg.keep0 d.keep);replace m:=O (d.keep.blk qe.out id);replace q:=O (d.keep.blk qb.out id);replace x:=O (qi.keep d.keep fun _ _=>id);replace r:=O (sS.keep N.out d.keep fun _ _=>id);clear b z;have qf:=m;have c1:=cD d 0
   go_wp2_with ((with_reducible show WL _ _);first
    | refine ldQ (d.b 1) E ?_
    | refine sta 30 (.tmp 42) (.tmp 40) Y (1+k*35) pk qf.out (by rw[List.size_toArray,cP (lv:Int) vs f.nv,E];omega) (szP9 E) qy.out ?_)
   clear c1;intro w9 b z;rw[←zo.out,E4 f.nv (lv:Int) y (R k y),←CV] at z;have zg:Hid (aA aB w w9):=O (((HK.trans zh.out).trans d.keep).tT b (fun i hi e=>by have:=qw.2;omega));have za:Hid (w9.heap[b2]?=some (.cells xB.toArray 89 (0,0))):=O (b.blk q.out zk.out)
   have zp:Hid (∃vs,fS w w9 vs (vD s (k+1))/\(∀j,j<4->(vs j).ownBlock≠some b2/\(vs j).ownBlock≠some Y)/\w9.heap[Y]?=some (.cells (bS (lv:Int) vs (vD s (k+1))).toArray 89 (0,0))):=O ⟨fQ vs k v1,by
    rw[CV];refine fS.put (f.keep b ?_) (x.keep b fun i hi e=>G.2 (e▸hi)) (r.keep b fun i hi e=>G.2 (e▸hi));rintro i rfl ⟨-,j,U,e⟩;exact(qn j U).2 e,fun j U=>by
    by_cases e:j=k
    ·subst e;rw[nT];exact G.out
    ·rw[nU _ _ e];exact qn.out j U,z⟩
   clear z b d f m q x r qf G;go_wp2
   go_roundw
   case rel=>exact⟨k+1,by omega,by go_num,zg,zp,za⟩
   case measure=>simp[intOf];omega
  ·obtain rfl:k=4:=by omega
   have L:∀j,j<4->vD s 4 j=s j:=fun j U=>if_pos U
   have qk:bS (lv:Int) vs (vD s 4)=bS (lv:Int) vs s:=by unfold bS;rw[L 0 (by omega),L 1 (by omega),L 2 (by omega),L 3 (by omega)]
   replace f:Hid (fS w wr vs s):=O (fun j U=>by have:=f.out j U;rw[L j U] at this;exact this);rw[qk] at m;have F:=cP (lv:Int) vs f.nv;have d:=lN wr;obtain⟨nn,H⟩:=zX9 (bS (lv:Int) vs s)
   have zm:Hid (∀u∈nn,u.oneCell'=true):=O (by rw[←H];exact cQ (lv:Int) f.nv);have qx:=O H;rw[H] at F m;have X:=O (zq.keep HK.out fun _ _=>id);clear L qk H
   go_wp2_with ((with_reducible show WL _ _);refine ldM Y 0 nn (aD m.out) underlying89 (by rw[F];exact cU) ?_)
   refine((by rw[←qx.out];exact CU wr lv vs s f.nv (by omega) (by omega) HF.out:Ka wr (xR wr lv s))).mono ?_;rintro e wb ⟨v2,rfl,V,b⟩;obtain⟨qa,qc,rfl,-,-⟩:=(Rd.of_owns V).form;rw[←KZ] at V;have HO:=O V;clear V;replace d:=kL d b;replace f:=O (f.keep0 b);replace m:=O (b.blk m.out id);replace q:=O (b.blk q.out id);replace X:=O (X.keep b fun _ _=>id);clear b;go_wp2_with fail;refine(nI wb _ _ (nb lv s) (nb lv s) (by rw[qm.out];exact Rd.of_owns HO.out) (by rw[qm.out];exact X.out) true (decide_eq_true rfl)).mono ?_;rintro e wc ⟨rfl,rfl⟩;have qd:=q
   go_wp2_with ((with_reducible show WL _ _);first
    | refine ldM Y 0 nn (aD m.out) underlying89 (by rw[F];exact cU) ?_
    | refine sta 89 (.tmp 2) (.tmp 58) b2 0 nn qd.out (by rw[List.size_toArray,cW,F];omega) (by rw[F];exact cU) zm.out ?_)
   intro w9 b z;rw[aS _ _ (by rw[List.size_toArray,cW,F])] at z;have HP:Hid (zH w lv s (.returned (.tuple #[.agg nn.toArray,.int .i64 0])) w9):=O ⟨vs,by rw[qx.out],f.keep b (by rintro i rfl ⟨-,j,U,e⟩;exact(qn j U).1 e),(HK.trans d.keep).tT b (fun i hi e=>by have:=qw.1;omega)⟩;have zb:=O z;clear z b d f m q qd X HO;go_wp2_with fail;refine bodyPost_ret (aT rfl _ _ b2 _ _ _ _ rfl zb.out underlying89 rfl (by rw[List.size_toArray,F];exact cU)) rfl ?_;exact HP.out
def KI(w:World)(c:Nat)(S:Kor)(B:Nat->Prop):Prop:=
 S.Bd/\∃a m lb g f h b d i t,t.u.txg=S.txg/\iG w c a m lb g f h b S.cp t d S.D S.Z S.M i S.L/\B=fun k=>k=c\/k=m\/k=lb\/d k\/Own g f h S.D k\/t.Own k
theorem KI.bd(h:KI w c S B):S.Bd:=h.1
theorem KI.keepT(h:KI w c S B)(k:aA T w w')(s:∀i,T i->¬B i):KI w' c S B:=by
 obtain⟨u,a,m,lb,g,q,x,d,f,y,t,b,r,rfl⟩:=h;refine⟨u,a,m,lb,g,q,x,d,f,y,t,b,r.keepT k (fun i e=>?_),rfl⟩;have:=s i e;exact⟨fun e=>this (.inl e),fun e=>this (.inr (.inl e)),fun e=>this (.inr (.inr (.inl e))),fun e=>this (.inr (.inr (.inr (.inl e)))),fun e=>this (.inr (.inr (.inr (.inr (.inl e))))),fun e=>this (.inr (.inr (.inr (.inr (.inr e)))))⟩
theorem KI.keep0(h:KI w c S B)(k:aA aB w w'):KI w' c S B:=h.keepT k fun _ e=>e.elim
theorem KI.lt(h:KI w c S B)(b:B k):k<w.heap.size:=by
 obtain⟨s,a,m,lb,g,r,u,i,q,x,t,f,d,rfl⟩:=h;rcases b with rfl|rfl|rfl|b|b|b
 ·exact lt_of_block d.cor.cor.top
 ·exact lt_of_block d.cor.mir
 ·exact lt_of_block d.cor.liv
 ·exact d.lt (.inl b)
 ·exact d.lt (.inr b)
 ·exact d.cor.cor.lst.lt b
theorem bQ.isC{a r:Nat}{M:Nat->Nat->List UInt8}(h:bQ w a B D Z M r)(m:B k):IsC w k:=by
 obtain⟨u,s,lv,st,f,F,W,b,rfl,x,y⟩:=h;rcases m with rfl|rfl|m|⟨d,q,rfl⟩
 ·exact⟨_,_,b.top⟩
 ·obtain⟨cur,i⟩:=aJ b.devs (k:=k) rfl
  exact⟨_,_,i⟩
 ·obtain⟨cur,i⟩:=aJ b.loose m
  exact⟨_,_,i⟩
 ·exact⟨_,_,b.firm d q⟩
theorem dD.isC{lo b:Nat}{i:Nat->Option Nat}{L x:List Ad}(h:dD w lo g b i D Z L)(q:dD w' lo g b i D Z x)(F:Own g b i D k):IsC w' k\/¬IsC w k:=by
 rcases F with rfl|rfl|⟨d,E,z⟩
 ·exact .inl ⟨_,_,q.top⟩
 ·obtain⟨y,f,-⟩:=q.words.row
  exact .inl ⟨_,_,f⟩
 ·right
  obtain⟨G,m,s,r,f⟩:=h.chans d E;rw[z] at m;cases m
  rintro⟨y,t,u⟩;rw[f] at u;cases u
def Cl(w w':World)(B B':Nat->Prop):Prop:=∀k,B' k->IsC w' k\/(B k/\¬IsC w k)
theorem Cl.refl(w w':World)(B:Nat->Prop)(k:aA aB w w'):Cl w w' B B:=fun i d=>by
 by_cases h:IsC w i
 ·obtain⟨b,t,h⟩:=h
  exact .inl ⟨b,t,k.blk h id⟩
 ·exact .inr ⟨d,h⟩
theorem Cl.trans{q:World}{f m:Nat->Prop}(h:Cl w w1 B f)(k:Cl w1 q f m):Cl w q B m:=fun i s=>by
 rcases k i s with b|⟨b,r⟩
 ·exact .inl b
 ·rcases h i b with d|d
  ·exact absurd d r
  ·exact .inr d
structure aU(w:World)(B:Nat->Prop)(v:Value)(p:Pt):Prop where
 pt:PtV w v p
 off:∀k,v.ownBlock=some k->¬B k/\IsC w k
theorem aU.keep{p:Pt}(h:aU w B v p)(k:aA B w w')(d:∀k,B' k->B k\/w.heap.size≤k):aU w' B' v p:=
 ⟨h.pt.keep k fun i b=>(h.off i b).1,fun i b=>⟨fun e=>(d i e).elim (h.off i b).1 fun e=>by have:=(h.off i b).2.lt;omega,(h.off i b).2.keep k (h.off i b).1⟩⟩
theorem aU.keepT{p:Pt}(h:aU w B v p)(k:aA T w w')(d:∀i,v.ownBlock=some i->¬T i):aU w' B v p:=
 ⟨h.pt.keep k d,fun i b=>⟨(h.off i b).1,(h.off i b).2.keep k (d i b)⟩⟩
theorem aU.keep0{p:Pt}(h:aU w B v p)(k:aA aB w w'):aU w' B v p:=h.keepT k fun _ _=>id
theorem aU.hole(w:World)(B:Nat->Prop):aU w B (.slice none 0 0) zPt:=⟨⟨Rd.nil w 2,fun x d=>(by cases d),rfl⟩,fun k b=>by cases b⟩
theorem Be(m:D≤8)(h:Z≤4096):∀x,eF x D Z->eW x:=fun x ⟨b,d,f,i⟩=>⟨⟨by omega,by omega⟩,by omega,by omega⟩
theorem KI.get(h:KI w c S B){pv:Value}{p:Pt}(z:PtV w pv p){b:List UInt8}(f:jV S p lv b):Calls prog 80 #[.pointer c,.agg (aE pv p).toArray] w (gH w b):=by
 obtain⟨K,a,m,lb,g,I,L,G,H,N,t,E,y,rfl⟩:=h;have i:∀x∈p.addrs,eF x S.D S.Z:=fun x F=>(f.lies x F).1
 have J:=(iF f.may).1;cases q:p.addrs with
 | nil=>exact absurd q f.ne
 | cons x r =>
   obtain⟨d,s,rfl,-,-,-⟩:=mM (i x (by rw[q];exact List.mem_cons_self ..));have u:S.M d s=b:=(f.lies ⟨(d:Int),(s:Int)⟩ (by rw[q];exact List.mem_cons_self ..)).2.2;have:=Nb y.cor pv p z f.may f.ne_hole i (by omega) q (by rw[u];exact f.sum);rw[u] at this;exact this
theorem KI.copies(h:KI w c S B):Calls prog 77 #[.pointer c] w (aH w (.int .i64 (S.cp:Int))):=by
 obtain⟨r,a,m,lb,g,q,s,f,i,u,t,d,b,rfl⟩:=h;exact Gf b.cor.cor
def dM(w:World)(v:Value):Prop:=∀k,v.ownBlock=some k->w.heap.size≤k
def rE(w:World)(c:Nat)(B:Nat->Prop)(r:Option (Pt×Kor))(S:Kor)(e:Ending)(w':World):Prop:=
 match r with
 | none=>e=.returned (.tuple #[.agg (aE (.slice none 0 0) zPt).toArray,.int .i64 15])/\KI w' c S B/\aA aB w w'
 | some (p,T)=>∃v B',e=.returned (.tuple #[.agg (aE v p).toArray,.int .i64 0])/\aU w' B' v p/\KI w' c T B'/\(∀k,B' k->B k\/w.heap.size≤k)/\Cl w w' B B'/\dM w v/\aA B w w'
theorem KI.put(h:KI w c S B)(y:lv≤3){vv:Value}(u:bs.length=256)(U:Rd w 1 vv 256 (bs.map vb))(G:∀i,vv.ownBlock=some i->¬B i):Calls prog 95 #[.pointer c,.int .i64 (lv:Int),vv] w (rE w c B (S.put lv bs) S):=by
 have I:=h;obtain⟨b,a,m,lb,g,H,L,N,W,nw,t,f,r,rfl⟩:=h;have q:∀i,vv.ownBlock=some i->¬W i/\¬Own g H L S.D i:=fun i R=>⟨fun e=>G i R (.inr (.inr (.inr (.inl e)))),fun e=>G i R (.inr (.inr (.inr (.inr (.inl e)))))⟩
 cases z:cF (cI S.L S.D S.Z) (List.replicate S.D true) S.cp with
 | none =>
   have e:S.put lv bs=none:=by unfold Kor.put Kor.allUp;rw[z]
   rw[e];refine(O0 r (by rw[f];exact⟨b.t0,b.t1⟩) lv y vv bs u U q z).mono ?_;rintro e w' ⟨rfl,E⟩;exact⟨rfl,I.keep0 E,E⟩
 | some l =>
   have e:S.put lv bs=some (⟨bF S.L S.Z l,S.txg+1,(lv:Int),dB bs⟩,⟨S.D,S.Z,S.cp,S.L++bF S.L S.Z l,lV bs (bF S.L S.Z l) S.M,S.txg⟩):=by unfold Kor.put Kor.allUp;rw[z]
   have J:=qX b y u e;rw[e];refine(KR r (by rw[f];exact⟨b.t0,b.t1⟩) lv y vv bs u U q (Be b.d8 b.z4) z).mono ?_;rintro e w' ⟨v,B',rfl,K,s,X,V,E⟩;have F:∀k,v.ownBlock=some k->w.heap.size≤k:=fun k E=>aW K E
   refine⟨v,fun k=>k=c\/k=m\/k=lb\/B' k\/Own g H L S.D k\/t.Own k,by rw[f],⟨⟨Rd.of_owns K,fun x Y=>Be b.d8 b.z4 x (J.1.lies x Y).1,J.1.sl⟩,fun k d=>⟨?_,?_⟩⟩,⟨J.2.2.1,a,m,lb,g,H,L,N,B',nw+(bF S.L S.Z l).length,t,f,s,rfl⟩,?_,?_,F,E.mono fun k _ e=>.inr (.inr (.inr (e.imp id .inl)))⟩
   ·have h9:=F k d
    rintro (rfl|rfl|rfl|e|e|e)
    ·have:=lt_of_block r.cor.cor.top;omega
    ·have:=lt_of_block r.cor.mir;omega
    ·have:=lt_of_block r.cor.liv;omega
    ·exact(V k d).1 e
    ·exact(V k d).2 e
    ·have:=r.cor.cor.lst.lt e;omega
   ·obtain⟨cur,z⟩:=aJ K d
    exact⟨_,_,z⟩
   ·rintro k (e|e|e|e|e|e)
    ·exact .inl (.inl e)
    ·exact .inl (.inr (.inl e))
    ·exact .inl (.inr (.inr (.inl e)))
    ·exact(X k e).imp (fun h=>.inr (.inr (.inr (.inl h)))) id
    ·exact .inl (.inr (.inr (.inr (.inr (.inl e)))))
    ·exact .inl (.inr (.inr (.inr (.inr (.inr e)))))
   ·rintro k (rfl|rfl|rfl|e|e|e)
    ·exact .inl ⟨_,_,s.cor.cor.top⟩
    ·exact .inl ⟨_,_,s.cor.mir⟩
    ·exact .inl ⟨_,_,s.cor.liv⟩
    ·exact .inl (s.cor.arr.isC e)
    ·exact(r.led.isC s.led e).imp id fun h=>⟨.inr (.inr (.inr (.inr (.inl e)))),h⟩
    ·exact .inl (s.cor.cor.lst.isc k e)
def Nk:Option (Pt×Kor)->Pt
 | none=>zPt
 | some x=>x.1
def Nl:Option (Pt×Kor)->Int
 | none=>15
 | some _=>0
def Nm(S:Kor):Option (Pt×Kor)->Kor
 | none=>S
 | some x=>x.2
def O5(w:World)(c:Nat)(B:Nat->Prop)(p:Pt)(b:Int)(T:Kor)(e:Ending)(w':World):Prop:=
 ∃v B',e=.returned (.tuple #[.agg (aE v p).toArray,.int .i64 b])/\aU w' B' v p/\KI w' c T B'/\(∀k,B' k->B k\/w.heap.size≤k)/\Cl w w' B B'/\dM w v/\aA B w w'
theorem rE.all{r:Option (Pt×Kor)}(h:rE w c B r S e w'):O5 w c B (Nk r) (Nl r) (Nm S r) e w':=by
 cases r with
 | none =>
   obtain⟨d,f,b⟩:=h;exact⟨_,B,d,aU.hole w' B,f,fun k h=>.inl h,Cl.refl w w' B b,(fun k i=>by cases i),b.any⟩
 | some x=>exact h
theorem pK{p:Pt}(h:Hid (aU w B v p))(k:aA aB w w'):Hid (aU w' B v p):=O (aU.keep0 h.out k)
def bL(w:World)(B:Nat->Prop)(vs:Nat->Value)(b:Nat->Pt):Prop:=∀k,k<4->aU w B (vs k) (b k)
theorem bL.nv{b:Nat->Pt}(h:bL w B vs b):dK w vs b:=fun k d=>(h k d).pt
theorem bL.keep0{b:Nat->Pt}(h:bL w B vs b)(k:aA aB w w'):bL w' B vs b:=fun i d=>(h i d).keep0 k
theorem bL.keep{b:Nat->Pt}(h:bL w B vs b)(k:aA B w w')(d:∀k,B' k->B k\/w.heap.size≤k):bL w' B' vs b:=fun i f=>(h i f).keep k d
theorem bL.hole(w:World)(B:Nat->Prop):bL w B (fun _=>.slice none 0 0) (fun _=>zPt):=fun _ _=>aU.hole w B
def eJ:Option Tr->Pt
 | none=>zPt
 | some t=>t.ptr
def eY:Option Tr->Int
 | none=>15
 | some _=>0
def bE(w:World)(c:Nat)(B:Nat->Prop)(v0:Value)(r:Option Tr)(T:Kor)(e:Ending)(w':World):Prop:=
 ∃v B',e=.returned (.tuple #[.agg (aE v (eJ r)).toArray,.int .i64 (eY r)])/\aU w' B' v (eJ r)/\KI w' c T B'/\(∀k,B' k->B k\/w.heap.size≤k)/\Cl w w' B B'/\(v=v0\/dM w v)/\aA B w w'
theorem dM.from(h:dM w1 v)(k:w.heap.size≤w1.heap.size):dM w v:=fun i b=>Nat.le_trans k (h i b)
theorem dM.nil(w:World):dM w (.slice none 0 0):=fun k b=>by cases b
theorem bE.still{T:Kor}(b:aU w' B v t.ptr)(h:KI w' c T B)(k:aA aB w w'):bE w c B v (some t) T (.returned (.tuple #[.agg (aE v t.ptr).toArray,.int .i64 0])) w':=
 ⟨v,B,rfl,b,h,fun _ h=>.inl h,Cl.refl w w' B k,.inl rfl,k.any⟩
theorem bE.hole{T:Kor}(h:KI w' c T B)(k:aA aB w w'):bE w c B v0 (some .hole) T (.returned (.tuple #[.agg (aE (.slice none 0 0) zPt).toArray,.int .i64 0])) w':=
 ⟨_,B,rfl,aU.hole w' B,h,fun _ h=>.inl h,Cl.refl w w' B k,.inr (dM.nil w),k.any⟩
theorem Tr.Ok.fit(h:Tr.Ok S l t):B4 ((l:Int)+1) t.ptr:=by
 cases t with
 | hole=>exact .inl jC
 | leaf p b=>cases l with
   | zero=>exact .inr ⟨h.1.ne_hole,h.1.may,by have:=h.1.lev;show p.level=_;omega⟩
   | succ l=>exact h.elim
 | node p k=>cases l with
   | zero=>exact h.elim
   | succ l=>exact .inr ⟨h.1.ne_hole,h.1.may,by have:=h.1.lev;show p.level=_;omega⟩
theorem Tr.Ok.empty_eq{k:Nat->Tr}(h:∀i,i<4->Tr.Ok S l (k i)):kF (fun i=>(k i).ptr)=gK k:=by
 unfold kF gK;rw[(h 0 (by omega)).hole_eq,(h 1 (by omega)).hole_eq,(h 2 (by omega)).hole_eq,(h 3 (by omega)).hole_eq]
theorem ixv(T:TypeId)(x y:Operand)(b d u:Value)(q:∀w,(Instr.index T b d).run P w=.ok u w)(h:wpList P ops Q xT (a.put o.dst u) w)(r:a.eval x=b:=by rfl)(s:a.eval y=d:=by rfl)(i:o.guard=none:=by rfl)(m:o.op=.index T x y:=by rfl):wpList P ops Q (o::xT) a w:=by
 refine wpList_plain i fun K f=>?_
 unfold Oper.wp execOp;simp only[m,r,s,Sem.run_bind,q,Result.andThen_ok];exact f _ _ h
def shV:Value:=.agg #[.int .i64 0,.int .i64 0,.int .i64 2,.int .i64 4]
theorem B7(w:World):(Instr.build 270 #[(0,.int .i64 0),(1,.int .i64 0),(2,.int .i64 2),(3,.int .i64 4)]).run prog w=.ok shV w:=by kernel_rfl
theorem QP(w:World):(Instr.index 270 shV (.int .i64 1)).run prog w=.ok (.int .i64 0) w:=by kernel_rfl
theorem QQ(w:World):(Instr.index 270 shV (.int .i64 2)).run prog w=.ok (.int .i64 2) w:=by kernel_rfl
theorem QR(w:World):(Instr.index 270 shV (.int .i64 3)).run prog w=.ok (.int .i64 4) w:=by kernel_rfl
theorem I3(w:World)(l:Nat)(d:l<3):Calls prog 151 #[.int .i64 ((l+1:Nat):Int)] w (aH w (.int .i64 ((2*l:Nat):Int))):=by
 have b:=lN w;rcases l with _|_|_|l
 ·go_in
  go_wp2_with ((with_reducible show WL _ _);first
   | refine bld 270 #[(0,.const (.int .i64 0)),(1,.const (.int .i64 0)),(2,.const (.int .i64 2)),(3,.const (.int .i64 4))] [(0,.int .i64 0),(1,.int .i64 0),(2,.int .i64 2),(3,.int .i64 4)] shV B7 ?_
   | refine ixv 270 (.tmp 3) (.tmp 4) shV (.int .i64 1) (.int .i64 0) QP ?_)
  go_ret;exact aH.of b.keep
 ·go_in
  go_wp2_with ((with_reducible show WL _ _);first
   | refine bld 270 #[(0,.const (.int .i64 0)),(1,.const (.int .i64 0)),(2,.const (.int .i64 2)),(3,.const (.int .i64 4))] [(0,.int .i64 0),(1,.int .i64 0),(2,.int .i64 2),(3,.int .i64 4)] shV B7 ?_
   | refine ixv 270 (.tmp 3) (.tmp 4) shV (.int .i64 2) (.int .i64 2) QQ ?_)
  go_ret;exact aH.of b.keep
 ·go_in
  go_wp2_with ((with_reducible show WL _ _);first
   | refine bld 270 #[(0,.const (.int .i64 0)),(1,.const (.int .i64 0)),(2,.const (.int .i64 2)),(3,.const (.int .i64 4))] [(0,.int .i64 0),(1,.int .i64 0),(2,.int .i64 2),(3,.int .i64 4)] shV B7 ?_
   | refine ixv 270 (.tmp 3) (.tmp 4) shV (.int .i64 3) (.int .i64 4) QR ?_)
  go_ret;exact aH.of b.keep
 ·omega
theorem O6:∀l:Fin 3,∀n:Fin 64,bits .and .i64 ((n.val:Int) / 2 ^ (2*l.val)) 3=((n.val / 4 ^ l.val % 4:Nat):Int):=by decide +kernel
theorem CW(w:World)(n l:Nat)(i:n<64)(f:l<3):Calls prog 96 #[.int .i64 (n:Int),.int .i64 ((l+1:Nat):Int)] w (aH w (.int .i64 ((n / 4 ^ l % 4:Nat):Int))):=by
 have b:=lN w;have h:Hid (bits .and .i64 ((n:Int) / 2 ^ (2*l)) 3=((n / 4 ^ l % 4:Nat):Int)):=O (O6 ⟨l,f⟩ ⟨n,i⟩);have m:0≤(n:Int):=by omega
 have q:(n:Int)<64:=by omega
 go_in;go_wp2_with fail;refine(I3 _ l f).mono ?_;rintro e w1 ⟨rfl,d⟩;replace b:=kL b d;clear d;have h0:(0:Int)≤((2*l:Nat):Int):=by omega
 go_wp2;go_ret;refine⟨?_,b.keep⟩;show Ending.returned (.int .i64 (bits .and .i64 ((n:Int) / 2 ^ (2*l)) 3))=_;rw[h.out]
theorem kG(w:World)(l:Nat)(d:l≤3):Calls prog 50 #[.int .i64 (l:Int)] w (aH w (.int .i64 ((4 ^ l:Nat):Int))):=by
 have b:=lN w;rcases l with _|_|_|_|l
 ·go_in
  go_wp2;go_ret;exact aH.of b.keep
 ·go_in
  go_wp2;go_ret;exact aH.of b.keep
 ·go_in
  go_wp2;go_ret;exact aH.of b.keep
 ·go_in
  go_wp2;go_ret;exact aH.of b.keep
 ·omega
theorem K7(b:KI w c S B):Calls prog 69 #[.pointer c] w (aH w (.bool false)):=by
 have d:=O b;have i:((S.cp:Int) == 0)=false:=by rw[beq_eq_false_iff_ne];have:=b.bd.c1;omega
 have m:decide (S.cp=0)=false:=by have:=b.bd.c1;exact decide_eq_false (by omega)
 have f:=lN w;clear b;go_in;go_wp2_with fail;refine(KI.copies d.out).mono ?_;rintro e w1 ⟨rfl,h⟩;replace f:=kL f h;replace d:=O (d.keep0 h);clear h;go_wp2;go_ret;exact aH.of f.keep
def Pt.root(p:Pt):Bool:=p.hole || (p.may && decide (p.level=3))
theorem Gj(w:World)(pv:Value)(p:Pt)(i:PtV w pv p)(q:p.hole=true):Calls prog 70 #[.agg (aE pv p).toArray] w (aH w (.int .i64 0)):=by
 have r:=O q;clear q;have b:=O i;obtain⟨u,h,m,s⟩:=nmPt i;rw[h.out];have d:=lN w;clear i;go_in
 go_wp2_with refine bxM d (u.toArray) ?_
 intro b1 w1 f d;replace b:=O (b.keep f fun _ _=>id);clear f
 go_wp2_with refine ldQ (d.b 0) m ?_
 refine((by rw[←h.out];exact bK w1 pv p b.out:Ka w1 (aN w1 p.hole))).mono ?_;rintro e x ⟨rfl,f⟩;replace d:=kL d f;replace b:=O (b.keep f fun _ _=>id);clear f;rw[r.out];go_wp2;go_ret;exact aH.of d.keep
theorem K8(w:World)(pv:Value)(p:Pt)(r:PtV w pv p)(u:p.hole=false)(y:p.may=true)(x:p.level=3):Calls prog 70 #[.agg (aE pv p).toArray] w (aH w (.int .i64 0)):=by
 have E:=O u;have F:=O y;have q:=O x;clear u y x;have b:=O r;obtain⟨z,i,m,G⟩:=nmPt r;rw[i.out];have d:=lN w;clear r;go_in
 go_wp2_with refine bxM d (z.toArray) ?_
 intro b1 w1 f d;replace b:=O (b.keep f fun _ _=>id);clear f
 go_wp2_with refine ldQ (d.b 0) m ?_
 refine((by rw[←i.out];exact bK w1 pv p b.out:Ka w1 (aN w1 p.hole))).mono ?_;rintro e s ⟨rfl,f⟩;replace d:=kL d f;replace b:=O (b.keep f fun _ _=>id);clear f;rw[E.out]
 go_wp2_with ((with_reducible show WL _ _);refine aK (by rfl) 30 (.tmp 1) rfl b1 0 rfl z _ (aD (d.b 0)) aI rfl (szP9 m) ?_)
 refine((by rw[←i.out];exact iZ s pv p b.out:Ka s (lH s p.may))).mono ?_;rintro e H ⟨rfl,f⟩;replace d:=kL d f;replace b:=O (b.keep f fun _ _=>id);clear f;rw[F.out];rw[if_pos rfl];have c1:H.cell? ⟨b1,2,none⟩=some (.int .i64 3):=(by have h:=(bN (v:=pv) (p:=p) (by rw[i.out];exact aD (d.b 0))).2.2.1;rw[q.out] at h;exact h)
 go_wp2_with fail;clear c1;go_ret;exact aH.of d.keep
theorem I4(w:World)(pv:Value)(p:Pt)(m:PtV w pv p)(r:p.hole=false)(s:p.may=true)(F:¬p.level=3):Calls prog 70 #[.agg (aE pv p).toArray] w (aH w (.int .i64 2)):=by
 have x:=O r;have y:=O s;clear r s;have b:=O m;obtain⟨u,h,i,z⟩:=nmPt m;rw[h.out];have d:=lN w;clear m;go_in
 go_wp2_with refine bxM d (u.toArray) ?_
 intro b1 w1 f d;replace b:=O (b.keep f fun _ _=>id);clear f
 go_wp2_with refine ldQ (d.b 0) i ?_
 refine((by rw[←h.out];exact bK w1 pv p b.out:Ka w1 (aN w1 p.hole))).mono ?_;rintro e q ⟨rfl,f⟩;replace d:=kL d f;replace b:=O (b.keep f fun _ _=>id);clear f;rw[x.out]
 go_wp2_with ((with_reducible show WL _ _);refine aK (by rfl) 30 (.tmp 1) rfl b1 0 rfl u _ (aD (d.b 0)) aI rfl (szP9 i) ?_)
 refine((by rw[←h.out];exact iZ q pv p b.out:Ka q (lH q p.may))).mono ?_;rintro e E ⟨rfl,f⟩;replace d:=kL d f;replace b:=O (b.keep f fun _ _=>id);clear f;rw[y.out];rw[if_pos rfl];have c1:E.cell? ⟨b1,2,none⟩=some (.int .i64 p.level):=(bN (v:=pv) (p:=p) (by rw[h.out];exact aD (d.b 0))).2.2.1;go_wp2_with fail;clear c1;go_ret;exact aH.of d.keep
theorem sU(w:World)(pv:Value)(p:Pt)(d:PtV w pv p)(h:p.root=true):Calls prog 70 #[.agg (aE pv p).toArray] w (aH w (.int .i64 0)):=by
 unfold Pt.root at h;cases b:p.hole with
 | true=>exact Gj w pv p d b
 | false =>
   rw[b,Bool.false_or,Bool.and_eq_true,decide_eq_true_eq] at h;exact K8 w pv p d b h.1 h.2
theorem qD(u:KI w c S B)(pv:Value)(p:Pt)(q:PtV w pv p)(h:p.root=true):Calls prog 28 #[.pointer c,.agg (aE pv p).toArray] w (aH w (.int .i64 0)):=by
 have x:=O h;clear h;have b:=O q;have i:=O u;obtain⟨z,m,r,y⟩:=nmPt q;rw[m.out];have f:=lN w;clear q u;go_in
 go_wp2_with refine bxM f (z.toArray) ?_
 intro E w1 d f;replace b:=O (b.keep d fun _ _=>id);replace i:=O (i.keep0 d);clear d;go_wp2_with fail;refine(K7 i.out).mono ?_;rintro e s ⟨rfl,d⟩;replace f:=kL f d;replace b:=O (b.keep d fun _ _=>id);replace i:=O (i.keep0 d);clear d
 go_wp2_with refine ldQ (f.b 0) r ?_
 refine((by rw[←m.out];exact sU s pv p b.out x.out:Ka s (aH s (.int .i64 0)))).mono ?_;rintro e F ⟨rfl,d⟩;replace f:=kL f d;replace b:=O (b.keep d fun _ _=>id);replace i:=O (i.keep0 d);clear d;go_wp2;go_ret;exact aH.of f.keep
theorem Gk(pv:Value)(p:Pt)(m:PtV w pv p)(s:p.hole=true):Calls prog 55 #[.pointer c,.agg (aE pv p).toArray] w (gH w zB):=by
 have u:=O s;clear s;have b:=O m;obtain⟨y,h,q,x⟩:=nmPt m;rw[h.out];have d:=lN w;clear m;go_in
 go_wp2_with refine bxM d (y.toArray) ?_
 intro z w1 f d;replace b:=O (b.keep f fun _ _=>id);clear f
 go_wp2_with refine ldQ (d.b 0) q ?_
 refine((by rw[←h.out];exact bK w1 pv p b.out:Ka w1 (aN w1 p.hole))).mono ?_;rintro e F ⟨rfl,f⟩;replace d:=kL d f;replace b:=O (b.keep f fun _ _=>id);clear f;rw[u.out]
 go_wp2_with ((with_reducible show WL _ _);refine mkz (.const (.int .i64 256)) (.const (.int .i64 256)) ?_)
 intro E G i f r;replace d:=lW d i f r;replace b:=O (b.keep f fun _ _=>id);clear i f r;go_wp2
 go_ret2
 exact⟨_,rfl,nS (d.b 0) rfl (d.lt 0).1,d.keep⟩
theorem I5(x:KI w c S B)(pv:Value)(p:Pt)(u:PtV w pv p)(r:jV S p lv bs):Calls prog 55 #[.pointer c,.agg (aE pv p).toArray] w (gH w bs):=by
 have E:=O r.ne_hole;have z:=O r;have h:=O x;have b:=O u;obtain⟨H,i,m,G⟩:=nmPt u;rw[i.out];have f:=lN w;clear u r x;go_in
 go_wp2_with refine bxM f (H.toArray) ?_
 intro I w1 d f;replace b:=O (b.keep d fun _ _=>id);replace h:=O (h.keep0 d);clear d
 go_wp2_with refine ldQ (f.b 0) m ?_
 refine((by rw[←i.out];exact bK w1 pv p b.out:Ka w1 (aN w1 p.hole))).mono ?_;rintro e y ⟨rfl,d⟩;replace f:=kL f d;replace b:=O (b.keep d fun _ _=>id);replace h:=O (h.keep0 d);clear d;rw[E.out]
 go_wp2_with refine ldQ (f.b 0) m ?_
 have q:=O f.keep.size;refine((by rw[←i.out];exact KI.get h.out b.out z.out:Ka y (gH y bs))).mono ?_;rintro e N ⟨J,rfl,s,d⟩;obtain⟨K,L,rfl,-,-⟩:=(Rd.of_owns s).form;have F:=O (bA s q.out);clear s;replace f:=kL f d;replace b:=O (b.keep d fun _ _=>id);replace h:=O (h.keep0 d);clear d;go_wp2
 go_ret2
 exact⟨_,rfl,F.out,f.keep⟩
theorem jD(w:World):(Instr.build 30 #[]).run prog w=.ok (.agg (aE (.slice none 0 0) zPt).toArray) w:=by kernel_rfl
def eE(w:World)(B:Nat->Prop)(l:Nat)(t:Tr)(e:Ending)(w':World):Prop:=
 ∃vs,e=.returned (.tuple #[.agg (bS ((l+1:Nat):Int) vs (fun i=>(t.kid i).ptr)).toArray,.int .i64 0])/\bL w' B vs (fun i=>(t.kid i).ptr)/\(∀q,q<4->dM w (vs q))/\aA aB w w'
theorem I6(pv:Value)(E:PtV w pv zPt)(l:Nat):Calls prog 51 #[.pointer c,.agg (aE pv zPt).toArray,.int .i64 ((l+1:Nat):Int)] w (eE w B l .hole):=by
 obtain⟨p,q⟩:=zX9 zPt
 have R:Hid (p.hole=true):=O (by rw[←q];exact jC);rw[q] at E ⊢;have b:=O E;obtain⟨W,s,J,U⟩:=nmPt E;rw[s.out];have i:(bS ((l+1:Nat):Int) (fun _=>.slice none 0 0) (fun _=>zPt)).length=141:=rfl;have m:=B6 ((l+1:Nat):Int);obtain⟨N,f⟩:=zX9 (bS ((l+1:Nat):Int) (fun _=>.slice none 0 0) (fun _=>zPt))
 have I:Hid (∀u∈N,u.oneCell'=true):=O (by rw[←f];exact cQ (w:=w) _ fun _ _=>vE w);have H:=O f;rw[f] at i m;have r:=O m;obtain⟨lv,z⟩:=zX9 (((l+1:Nat):Int))
 rw[z] at r ⊢;have d:=lN w;clear E f m q z;have y:=b;go_in
 go_wp2_with refine bxM d (W.toArray) ?_
 intro X w1 h d;replace b:=O (b.keep h fun _ _=>id);clear h
 go_wp2_with refine alM d gV ?_
 intro V K h d;replace b:=O (b.keep h fun _ _=>id);clear h
 go_wp2_with refine ldQ (d.b 1) J ?_
 refine((by rw[←s.out];exact bK K pv p b.out:Ka K (aN K p.hole))).mono ?_;rintro e Y ⟨rfl,h⟩;replace d:=kL d h;replace b:=O (b.keep h fun _ _=>id);clear h;rw[R.out]
 go_wp2_with ((with_reducible show WL _ _);first
  | refine bld 89 #[(0,.tmp 14)] [(0,.int .i64 lv)] (.agg N.toArray) r.out ?_
  | refine stW (d.b 0) i cW (by rw[i];exact cU) I.out ?_)
 intro w4 h L;replace d:=O (d.set 0 h L);replace b:=O (y.keep d.keep fun _ _=>id);clear h L;have F:=O (d.b 0);have G:=O d.keep;clear d b;go_wp2_with fail;refine bodyPost_ret (aT rfl _ _ V _ _ _ _ rfl F.out underlying89 rfl (by rw[List.size_toArray,i];exact cU)) rfl ?_;exact⟨fun _=>.slice none 0 0,(by rw[←H.out];rfl),bL.hole _ B,fun _ _=>dM.nil w,G.out⟩
theorem RC{b:Nat->Pt}(lv:Nat)(h:∀k,k<4->(b k).may=true):nb lv b=cX lv [b 0,b 1,b 2,b 3]:=by
 unfold nb nQ cX ptB;simp[List.range_succ,h 0 (by omega),h 1 (by omega),h 2 (by omega),h 3 (by omega)]
theorem Tr.Ok.nb_eq{k:Nat->Tr}(lv:Nat)(h:∀i,i<4->Tr.Ok S l (k i)):nb lv (fun i=>(k i).ptr)=cX lv (fI k):=
 Go.Proofs.YtoeinblfcbpcmaaGreat.RC lv fun i b=>((h i b).fit).elim kA fun h=>h.2.1
theorem fS.nval{f:Nat->Pt}(h:fS w w' vs f)(m:∀k,B k->k<w.heap.size):bL w' B vs f:=fun k b =>
 ⟨(h k b).1,fun i d=>⟨fun e=>by have:=m i e;have:=((h k b).2 i d).1;omega,((h k b).2 i d).2⟩⟩
theorem I7(hK:KI w c S B)(pv:Value)(p:Pt)(hp:PtV w pv p)(l:Nat)(hl:l≤2)(k:Nat->Tr)(hg:jV S p (l+1) (cX (l+1) (fI k)))(I:∀i,i<4->Tr.Ok S l (k i)):Calls prog 51 #[.pointer c,.agg (aE pv p).toArray,.int .i64 ((l+1:Nat):Int)] w (eE w B l (.node p k)):=by
 have HH:Hid (p.hole=false):=O hg.ne_hole;have d:=O hp;have y:=O hK;have HG:=O hg;have L:=O I;have K:=O (fun i (e:B i)=>hK.lt e);obtain⟨pc,H,X,qk⟩:=nmPt hp;rw[H.out];have qe:Hid (cX (l+1) (fI k)=nb (l+1) (fun i=>(k i).ptr)):=O (Tr.Ok.nb_eq (l+1) I).symm;have qj:0≤((l+1:Nat):Int):=by omega
 have f:=lN w;clear hp hg I hK;go_in
 go_wp2_with refine bxM f (pc.toArray) ?_
 intro b4 w1 b f;replace d:=O (d.keep b fun _ _=>id);replace y:=O (y.keep0 b);clear b
 go_wp2_with refine alM f gV ?_
 intro b6 w2 b f;replace d:=O (d.keep b fun _ _=>id);replace y:=O (y.keep0 b);clear b
 go_wp2_with refine ldQ (f.b 1) X ?_
 refine((by rw[←H.out];exact bK w2 pv p d.out:Ka w2 (aN w2 p.hole))).mono ?_;rintro e w3 ⟨rfl,b⟩;replace f:=kL f b;replace d:=O (d.keep b fun _ _=>id);replace y:=O (y.keep0 b);clear b;rw[HH.out]
 go_wp2_with refine ldQ (f.b 1) X ?_
 refine((by rw[←H.out];exact KI.get y.out d.out HG.out:Ka w3 (gH w3 (cX (l+1) (fI k))))).mono ?_;rintro e w4 ⟨v1,rfl,ho,b⟩;rw[qe.out] at ho;obtain⟨va,vc,rfl,-,-⟩:=(Rd.of_owns ho).form;have Y:=O ho;clear ho;replace f:=kL f b;replace d:=O (d.keep b fun _ _=>id);replace y:=O (y.keep0 b);clear b;go_wp2_with fail;have V:=O f.keep.size;have qd:=O (f.lt 0).2;refine((zI w4 (.slice va 256 vc) (l+1) (fun i=>(k i).ptr) (by omega) (by omega) (fun i F=>(L i F).sl) (fun i F=>by have:=(L i F).fit;exact this) (Rd.of_owns Y.out))).mono ?_;rintro e w5 ⟨vs,rfl,s,b⟩;have qf:=O (fun j (hj:j<4) i (F:(vs j).ownBlock=some i) (e:i=b6)=>by have h1:=((s j hj).2 i F).1;have h2:=qd.out;omega:∀j,j<4->∀i,(vs j).ownBlock=some i->¬i=b6);have N:=O (fun q (hq:q<4) i (F:(vs q).ownBlock=some i)=>by have:=((s q hq).2 i F).1;have:=V.out;omega:∀q,q<4->dM w (vs q));have E:=O (s.nval (B:=B) (fun i e=>by have:=K.out i e;have:=V.out;omega));have m:=cP ((l+1:Nat):Int) vs s.nv;have G:=cQ ((l+1:Nat):Int) s.nv;obtain⟨nn,r⟩:=zX9 (bS ((l+1:Nat):Int) vs (fun i=>(k i).ptr))
 have U:Hid (∀u∈nn,u.oneCell'=true):=O (by rw[←r];exact G);have R:=O r;rw[r] at m ⊢;clear G r s;replace f:=kL f b;replace d:=O (d.keep b fun _ _=>id);replace y:=O (y.keep0 b);replace Y:=O (b.owns Y.out fun _ _=>id);clear b;have qc:=O f.keep;have z:=O (f.b 0);have qb:=O (f.lt 0);replace f:=O (Loc.nil aB aB w5);have qi:=E;have qh:=z;clear d y Y
 go_wp2_with ((with_reducible show WL _ _);refine alW gV m cW (by rw[m];exact cU) U.out ?_)
 intro qg w7 W b J
 replace f:=lW f W b J;replace E:=O (bL.keep0 E.out b);replace z:=O (b.blk z.out id);clear W b J;have c1:w7.cell? ⟨qg,0,none⟩=some (.int .i64 ((l+1:Nat):Int)):=aC (i:=0) (f.b 0) (by rw[←R.out];rfl)
 go_wp2_with ((with_reducible show WL _ _);first
  | refine ldR (f.b 0) underlying89 (by rw[m];exact cU) ?_
  | refine sta 89 (.tmp 6) (.tmp 40) b6 0 nn z.out (by rw[List.size_toArray,cW,m];omega) (by rw[m];exact cU) U.out ?_)
 clear c1;intro w9 b J;rw[aS _ _ (by rw[List.size_toArray,cW,m])] at J;have HP:Hid (eE w B l (.node p k) (.returned (.tuple #[.agg nn.toArray,.int .i64 0])) w9):=O ⟨vs,by rw[←R.out];rfl,fun i F=>(E i F).keepT b (fun j hj e=>qf.out i F j hj e),N.out,(qc.trans f.keep).tT b (fun i F e=>by have:=qb.1;omega)⟩;have qa:=O J;clear J b f E z;go_wp2_with fail;refine bodyPost_ret (aT rfl _ _ b6 _ _ _ _ rfl qa.out underlying89 rfl (by rw[List.size_toArray,m];exact cU)) rfl ?_;exact HP.out
theorem xS(h:KI w c S B)(i:l≤2)(pv:Value)(t:Tr)(d:Tr.Ok S (l+1) t)(f:PtV w pv t.ptr):Calls prog 51 #[.pointer c,.agg (aE pv t.ptr).toArray,.int .i64 ((l+1:Nat):Int)] w (eE w B l t):=by
 cases t with
 | hole=>exact I6 pv f l
 | leaf p b=>exact d.elim
 | node p k=>exact I7 h pv p f l i k d.1 d.2.1
def tM(w:World)(B:Nat->Prop)(p:Pt)(e:Ending)(w':World):Prop:=∃v,e=.returned (.agg (aE v p).toArray)/\aU w' B v p/\dM w v/\aA aB w w'
theorem Av(hB:∀k,B k->k<w.heap.size)(pv:Value)(p:Pt)(hp:PtV w pv p)(hl:p.addrs.length≤65536):Calls prog 53 #[.agg (aE pv p).toArray] w (tM w B p):=by
 have V:=O hB;have qg:=O hl;have L:=O hp.ads;have E:=O hp.sum;have f:=O hp;obtain⟨pc,G,qk,qm⟩:=nmPt hp;rw[G.out];have qi:Hid (∃r,pc=pv::r):=O ⟨_,G.symm⟩;have d:=lN w;clear hp hl hB;have ql:=f;go_in
 go_wp2_with refine bxM d (pc.toArray) ?_
 intro b1 w1 b d;replace f:=O (f.keep b fun _ _=>id);clear b
 go_wp2_with refine alM d aZ ?_
 intro b2 w2 b d;replace f:=O (f.keep b fun _ _=>id);clear b;have c1:w2.cell? ⟨b1,0,none⟩=some (pv):=(by obtain⟨r,e⟩:=qi.out;exact aC (i:=0) (d.b 1) (by rw[e];rfl))
 go_wp2_with fail;clear c1;have qd:=O d.keep.size;have qb:=O (And.intro (d.lt 0).2 (d.lt 1).2);refine(oN w2 pv p.addrs f.rd qg.out).mono ?_;rintro e w3 ⟨v1,rfl,F,b⟩;obtain⟨J,K,rfl,-,-⟩:=(Rd.of_owns F).form;have H:Hid (aU w3 B (.slice J p.addrs.length K) p):=O ⟨⟨Rd.of_owns F,L.out,E.out⟩,fun i q=>⟨fun e=>by have:=aW F q;have:=V.out i e;have:=qd.out;omega,by obtain⟨cur,hc⟩:=aJ F q;exact⟨_,_,hc⟩⟩⟩;have qa:Hid (dM w (.slice J p.addrs.length K)):=O (fun i q=>by have:=aW F q;have:=qd.out;omega);have Y:=O (fun(i:Nat) (q:(Value.slice J p.addrs.length K).ownBlock=some i)=>show ¬i=b1/\¬i=b2 from⟨fun e=>by have:=aW F q;have:=qb.2;omega,fun e=>by have:=aW F q;have:=qb.1;omega⟩);have N:=O (b.blk (d.b 1) id);have R:=O (b.blk (d.b 0) id);have HG:=O (And.intro (d.lt 1).1 (d.lt 0).1);have X:Hid (b1≠b2):=O (fun e=>bH (i:=0) d.nd rfl 1 (by decide) rfl e);have qf:=O (d.keep.trans b);clear F;clear b d f
 go_wp2_with ((with_reducible show WL _ _);refine sta 26 (.tmp 6) (.tmp 5) b1 0 [.slice J p.addrs.length K] N.out (by rw[List.size_toArray,qk];simp) (by kernel_rfl) (one9) ?_)
 intro w6 b I;rw[←G.out,E2] at I;have x:=O I;have y:=O (b.blk R.out X.symm);have z:=O (H.keepT b (fun i q=>(Y i q).1));have W:=O (qf.tT b (fun i q e=>by have:=HG.1;omega));clear b I N R;have s:=aF (v:=.slice J p.addrs.length K) E.out;obtain⟨qc,m⟩:=zX9 (aE (.slice J p.addrs.length K) p)
 have qh:Hid (∀u∈qc,u.oneCell'=true):=O (by rw[←m];exact aL H.pt);have qj:=O m;rw[m] at s x;clear m H
 go_wp2_with ((with_reducible show WL _ _);first
  | refine ldP b1 0 qc (aD x.out) s ?_
  | refine sta 30 (.tmp 2) (.tmp 7) b2 0 qc y.out (by rw[List.size_toArray,aG,s];omega) (szP9 s) qh.out ?_)
 intro w8 b I;rw[aS _ _ (by rw[List.size_toArray,aG,s])] at I;have HP:Hid (tM w B p (.returned (.agg qc.toArray)) w8):=O ⟨_,by rw[←qj.out],z.keepT b (fun i q=>(Y i q).2),qa.out,W.tT b (fun i q e=>by have:=HG.2;omega)⟩;have qe:=O I;clear b I x y z W;go_wp2_with fail;refine bodyPost_ret (results_cell_row rfl _ _ b2 _ _ _ _ rfl qe.out aI rfl (by rw[List.size_toArray,s];exact bX)) rfl ?_;exact HP.out
theorem K9:zB.length=256:=rfl
theorem B8(L:KI w c S B)(vv:Value)(J:Rd w 1 vv 256 (zB.map vb)):Calls prog 57 #[.pointer c,vv] w (bE w c B (.slice none 0 0) (S.leaf zB).1 (S.leaf zB).2):=by
 obtain⟨X,Y,rfl,-,-⟩:=J.form;have H:Hid (S.leaf zB=(some .hole,S)):=O (by unfold Kor.leaf;rw[if_pos rfl]);have i:=O L;have m:=O J;have h:(aE (.slice none 0 0) zPt).length=35:=rfl;have q:=jD;obtain⟨K,b⟩:=zX9 (aE (.slice none 0 0) zPt)
 have r:Hid (∀u∈K,u.oneCell'=true):=O (by rw[←b];exact cE zPt);have s:=O b;rw[b] at h q;have I:=O q;clear b q;have d:=lN w;clear J L;have E:=i;have G:=m;go_in
 go_wp2_with refine alM d aZ ?_
 intro R w1 f d;replace i:=O (i.keep0 f);replace m:=O (m.keep f fun _ _=>id);clear f
 go_wp2_with ((with_reducible show WL _ _);refine mkz (.const (.int .i64 256)) (.const (.int .i64 256)) ?_)
 intro W U y f x;replace d:=lW d y f x;replace i:=O (i.keep0 f);replace m:=O (m.keep f fun _ _=>id);clear y f x;go_wp2_with fail;refine(nI U _ _ zB zB (by rw[K9];exact m.out) (Rd.of_owns (nS (base:=0) (d.b 0) rfl (Nat.zero_le _))) true (decide_eq_true rfl)).mono ?_;rintro e w3 ⟨rfl,rfl⟩
 go_wp2_with ((with_reducible show WL _ _);first
  | refine bld 30 #[] [] (.agg K.toArray) I.out ?_
  | refine stW (d.b 1) h aG (szP9 h) r.out ?_)
 intro V f x;replace d:=O (d.set 1 f x);replace i:=O (E.keep0 d.keep);replace m:=O (G.keep d.keep fun _ _=>id);clear f x;have z:=O (d.b 1);have F:=O d.keep;have N:Hid (bE w c B (.slice none 0 0) (S.leaf zB).1 (S.leaf zB).2 (.returned (.tuple #[.agg K.toArray,.int .i64 0])) V):=O (by rw[H.out,←s.out];exact bE.hole i.out F.out);clear d i;go_wp2_with fail;refine bodyPost_ret (aT rfl _ _ R _ _ _ _ rfl z.out aI rfl (by rw[List.size_toArray,h];exact bX)) rfl ?_;exact N.out
theorem B9(hK:KI w c S B)(vv:Value)(bs:List UInt8)(qa:bs.length=256)(hz:¬bs=zB)(hr:Rd w 1 vv 256 (bs.map vb))(qf:∀i,vv.ownBlock=some i->¬B i):Calls prog 57 #[.pointer c,vv] w (bE w c B (.slice none 0 0) (S.leaf bs).1 (S.leaf bs).2):=by
 obtain⟨va,vc,rfl,-,-⟩:=hr.form;have V:=O qa;have qm:=O hz;have qt:=O qf;have E:=O (fun i (e:B i)=>hK.lt e);obtain⟨pp,K⟩:=zX9 (Nk (S.put 0 bs))
 obtain⟨er,I⟩:=zX9 (Nl (S.put 0 bs))
 obtain⟨T,L⟩:=zX9 (Nm S (S.put 0 bs))
 have X:=O K;have qi:=O I;have qq:=O L
 have z:Hid (eJ (S.leaf bs).1=pp/\eY (S.leaf bs).1=er/\(S.leaf bs).2=T):=O (by
  rw[←K,←I,←L];unfold Kor.leaf;rw[if_neg hz];cases S.put 0 bs with
  | none=>exact⟨rfl,rfl,rfl⟩
  | some x=>exact⟨rfl,rfl,rfl⟩)
 have G:=O hK;have H:=O hr;have q:=lN w;clear hr hK qa hz qf K I L;have qu:=G;have qv:=H;go_in
 go_wp2_with refine alM q aZ ?_
 intro b4 w1 b q;replace G:=O (G.keep0 b);replace H:=O (H.keep b fun _ _=>id);clear b
 go_wp2_with ((with_reducible show WL _ _);refine mkz (.const (.int .i64 256)) (.const (.int .i64 256)) ?_)
 intro b7 w2 qb b N;replace q:=lW q qb b N;replace G:=O (G.keep0 b);replace H:=O (H.keep b fun _ _=>id);clear qb b N;go_wp2_with fail;refine(nI w2 _ _ bs zB (by rw[V.out];exact H.out) (Rd.of_owns (nS (base:=0) (q.b 0) rfl (Nat.zero_le _))) false (decide_eq_false qm.out)).mono ?_;rintro e w3 ⟨rfl,rfl⟩;replace q:=O q.tail;go_wp2_with fail;have d:=O (q.lt 0);refine((KI.put G.out (lv:=0) (by omega) V.out H.out qt.out:Ka w2 (rE w2 c B (S.put 0 bs) S))).mono ?_;rintro e w8 hm;obtain⟨v,B',qe,s,J,Y,qd,r,b⟩:=hm.all;rw[X.out,qi.out] at qe;rw[X.out] at s;rw[qq.out] at J;subst qe;have R:=O (b.blk (q.b 0) (fun e=>by have:=E.out _ e;have:=d.1;omega));have qr:=O (fun i (hi:v.ownBlock=some i) (e:i=b4)=>show False from by have:=r i hi;have:=d.2;omega);have y:=aF (v:=v) s.pt.sum;have F:=aL s.pt;obtain⟨qc,m⟩:=zX9 (aE v pp)
 have qn:Hid (∀u∈qc,u.oneCell'=true):=O (by rw[←m];exact F);have qp:=O m;have f:=O q.keep;have qk:=O J;have qo:=O s;have U:=O Y;have qh:=O qd;have ql:=O r;have qj:=O b;rw[m] at y ⊢;clear s J Y qd r b m F q G
 go_wp2_with ((with_reducible show WL _ _);refine sta 30 (.tmp 4) (.tmp 13) b4 0 qc R.out (by rw[List.size_toArray,aG,y];omega) (szP9 y) qn.out ?_)
 intro w9 b N;rw[aS _ _ (by rw[List.size_toArray,aG,y])] at N
 have W:Hid (∀i,i=b4->¬B' i):=O (by
  rintro i rfl e;rcases U.out _ e with h|h
  ·have:=E.out _ h;have:=d.1;omega
  ·have:=d.2;omega)
 have HP:Hid (bE w c B (.slice none 0 0) (S.leaf bs).1 (S.leaf bs).2 (.returned (.tuple #[.agg qc.toArray,.int .i64 er])) w9):=O ⟨v,B',by rw[z.1,z.2.1,qp.out],by rw[z.1];exact qo.keepT b (fun i hi e=>qr.out i hi e),by rw[z.2.2];exact qk.keepT b W.out,fun i e=>(U i e).imp id (fun h=>Nat.le_trans f.size h),((Cl.refl _ _ _ f.out).trans qh.out).trans (fun i e=>(by
  by_cases h:IsC w8 i
  ·obtain⟨cs,t,h⟩:=h
   exact .inl ⟨cs,t,b.blk h (fun e2=>W.out i e2 e)⟩
  ·exact .inr ⟨e,h⟩)),.inr (ql.from f.size),(f.any.trans qj.out).tT b (fun i hi e=>by have:=d.1;omega)⟩
 have qg:=O N;clear b N R;go_wp2_with fail;refine bodyPost_ret (aT rfl _ _ b4 _ _ _ _ rfl qg.out aI rfl (by rw[List.size_toArray,y];exact bX)) rfl ?_;exact HP.out
theorem La(Y:KI w c S B)(hl:l≤2)(k:Nat->Tr)(s:∀i,i<4->Tr.Ok S l (k i))(vs:Nat->Value)(G:bL w B vs (fun i=>(k i).ptr))(V:gK k=true):Calls prog 52 #[.pointer c,.agg (bS ((l+1:Nat):Int) vs (fun i=>(k i).ptr)).toArray] w (bE w c B (.slice none 0 0) (S.lay (l+1) k).1 (S.lay (l+1) k).2):=by
 have N:Hid (S.lay (l+1) k=(some .hole,S)):=O (by unfold Kor.lay;rw[if_pos V]);have I:Hid (kF (fun i=>(k i).ptr)=true):=O (by rw[Tr.Ok.empty_eq s];exact V);have F:=cP ((l+1:Nat):Int) vs G.nv;obtain⟨nc,f⟩:=zX9 (bS ((l+1:Nat):Int) vs (fun i=>(k i).ptr))
 have qb:Hid (∀u∈nc,u.oneCell'=true):=O (by rw[←f];exact cQ _ G.nv);have L:=O f;rw[f] at F ⊢;have m:=O Y;have q:=O G;have qa:=O s;have r:(aE (.slice none 0 0) zPt).length=35:=rfl;have y:=jD;obtain⟨X,h⟩:=zX9 (aE (.slice none 0 0) zPt)
 have z:Hid (∀u∈X,u.oneCell'=true):=O (by rw[←h];exact cE zPt);have E:=O h;rw[h] at r y;have U:=O y;clear h y;have b:=lN w;clear Y G s f V;have J:=m;have R:=q;go_in
 go_wp2_with refine bxM b (nc.toArray) ?_
 intro b3 w1 d b;replace m:=O (m.keep0 d);replace q:=O (bL.keep0 q.out d);clear d
 go_wp2_with refine alM b aZ ?_
 intro b4 W d b;replace m:=O (m.keep0 d);replace q:=O (bL.keep0 q.out d);clear d
 go_wp2_with ((with_reducible show WL _ _);refine ldR (b.b 1) underlying89 (by rw[F];exact cU) ?_)
 refine((by rw[←L.out];exact CR W _ vs (fun i=>(k i).ptr) q.nv:Ka W (aH W (.bool (kF (fun i=>(k i).ptr)))))).mono ?_;rintro e w3 ⟨rfl,d⟩;replace b:=kL b d;replace m:=O (m.keep0 d);replace q:=O (bL.keep0 q.out d);clear d;rw[I.out]
 go_wp2_with ((with_reducible show WL _ _);first
  | refine bld 30 #[] [] (.agg X.toArray) U.out ?_
  | refine stW (b.b 0) r aG (szP9 r) z.out ?_)
 intro w4 d hb;replace b:=O (b.set 0 d hb);replace m:=O (J.keep0 b.keep);replace q:=O (bL.keep0 R.out b.keep);clear d hb;have H:=O (b.b 0);have K:=O b.keep;have HP:Hid (bE w c B (.slice none 0 0) (S.lay (l+1) k).1 (S.lay (l+1) k).2 (.returned (.tuple #[.agg X.toArray,.int .i64 0])) w4):=O (by rw[N.out,←E.out];exact bE.hole m.out K.out);clear b m;go_wp2_with fail;refine bodyPost_ret (aT rfl _ _ b4 _ _ _ _ rfl H.out aI rfl (by rw[List.size_toArray,r];exact bX)) rfl ?_;exact HP.out
theorem Lb(hK:KI w c S B)(hl:l≤2)(k:Nat->Tr)(y:∀i,i<4->Tr.Ok S l (k i))(vs:Nat->Value)(hv:bL w B vs (fun i=>(k i).ptr))(hh:gK k=false):Calls prog 52 #[.pointer c,.agg (bS ((l+1:Nat):Int) vs (fun i=>(k i).ptr)).toArray] w (bE w c B (.slice none 0 0) (S.lay (l+1) k).1 (S.lay (l+1) k).2):=by
 have s:=O (fun i (e:B i)=>hK.lt e);have qj:Hid (kF (fun i=>(k i).ptr)=false):=O (by rw[Tr.Ok.empty_eq y];exact hh);have qo:Hid (nb (l+1) (fun i=>(k i).ptr)=cX (l+1) (fI k)):=O (Tr.Ok.nb_eq (l+1) y);have qh:Hid ((cX (l+1) (fI k)).length=256):=O (BV y);obtain⟨pp,V⟩:=zX9 (Nk (S.put (l+1) (cX (l+1) (fI k))))
 obtain⟨er,N⟩:=zX9 (Nl (S.put (l+1) (cX (l+1) (fI k))))
 obtain⟨T,W⟩:=zX9 (Nm S (S.put (l+1) (cX (l+1) (fI k))))
 have qb:=O V;have qk:=O N;have qu:=O W
 have I:Hid (eJ (S.lay (l+1) k).1=pp/\eY (S.lay (l+1) k).1=er/\(S.lay (l+1) k).2=T):=O (by
  rw[←V,←N,←W];unfold Kor.lay;rw[hh];cases S.put (l+1) (cX (l+1) (fI k)) with
  | none=>exact⟨rfl,rfl,rfl⟩
  | some x=>exact⟨rfl,rfl,rfl⟩)
 have U:=cP ((l+1:Nat):Int) vs hv.nv;obtain⟨nc,q⟩:=zX9 (bS ((l+1:Nat):Int) vs (fun i=>(k i).ptr))
 have qy:Hid (∀u∈nc,u.oneCell'=true):=O (by rw[←q];exact cQ _ hv.nv);have L:=O q;rw[q] at U ⊢;have G:=O hK;have H:=O hv;have ql:=O y;have f:=lN w;clear hK hv y q hh V N W;go_in
 go_wp2_with refine bxM f (nc.toArray) ?_
 intro b3 w1 b f;replace G:=O (G.keep0 b);replace H:=O (bL.keep0 H.out b);clear b
 go_wp2_with refine alM f aZ ?_
 intro b4 w2 b f;replace G:=O (G.keep0 b);replace H:=O (bL.keep0 H.out b);clear b
 go_wp2_with ((with_reducible show WL _ _);refine ldR (f.b 1) underlying89 (by rw[U];exact cU) ?_)
 refine((by rw[←L.out];exact CR w2 _ vs (fun i=>(k i).ptr) H.nv:Ka w2 (aH w2 (.bool (kF (fun i=>(k i).ptr)))))).mono ?_;rintro e w3 ⟨rfl,b⟩;replace f:=kL f b;replace G:=O (G.keep0 b);replace H:=O (bL.keep0 H.out b);clear b;rw[qj.out]
 go_wp2_with ((with_reducible show WL _ _);refine ldR (f.b 1) underlying89 (by rw[U];exact cU) ?_)
 have qv:=O f.keep.size;refine((by rw[←L.out];exact CU w3 (l+1) vs (fun i=>(k i).ptr) H.nv (by omega) (by omega) (fun i K=>by have:=(ql i K).fit;exact this):Ka w3 (xR w3 (l+1) (fun i=>(k i).ptr)))).mono ?_;rintro e w4 ⟨v1,rfl,ho,b⟩;rw[←KZ,qo.out] at ho;obtain⟨va,vc,rfl,-,-⟩:=(Rd.of_owns ho).form;have HO:=O ho;have qx:Hid (∀i,(Value.slice va 256 vc).ownBlock=some i->¬B i):=O (fun i K e=>by have:=aW ho K;have:=s.out i e;have:=qv.out;omega);clear ho;replace f:=kL f b;replace G:=O (G.keep0 b);replace H:=O (bL.keep0 H.out b);clear b;have c1:w4.cell? ⟨b3,0,none⟩=some (.int .i64 ((l+1:Nat):Int)):=(aC (i:=0) (f.b 1) (by rw[←L.out];rfl))
 go_wp2_with fail;clear c1;have d:=O (f.lt 0);refine((KI.put G.out (lv:=l+1) (by omega) qh.out (Rd.of_owns HO.out) qx.out:Ka w4 (rE w4 c B (S.put (l+1) (cX (l+1) (fI k))) S))).mono ?_;rintro e w8 hm;obtain⟨v,B',qf,E,R,qd,qe,z,b⟩:=hm.all;rw[qb.out,qk.out] at qf;rw[qb.out] at E;rw[qu.out] at R;subst qf;have X:=O (b.blk (f.b 0) (fun e=>by have:=s.out _ e;have:=d.1;omega));have qw:=O (fun i (K:v.ownBlock=some i) (e:i=b4)=>show False from by have:=z i K;have:=d.2;omega);have F:=aF (v:=v) E.pt.sum;have J:=aL E.pt;obtain⟨qc,r⟩:=zX9 (aE v pp)
 have qq:Hid (∀u∈qc,u.oneCell'=true):=O (by rw[←r];exact J);have qt:=O r;have m:=O f.keep;have qn:=O R;have qr:=O E;have Y:=O qd;have qi:=O qe;have qp:=O z;have qm:=O b;rw[r] at F ⊢;clear E R qd qe z b r J f G
 go_wp2_with ((with_reducible show WL _ _);refine sta 30 (.tmp 4) (.tmp 25) b4 0 qc X.out (by rw[List.size_toArray,aG,F];omega) (szP9 F) qq.out ?_)
 intro w9 b hb;rw[aS _ _ (by rw[List.size_toArray,aG,F])] at hb
 have qa:Hid (∀i,i=b4->¬B' i):=O (by
  rintro i rfl e;rcases Y.out _ e with h|h
  ·have:=s.out _ h;have:=d.1;omega
  ·have:=d.2;omega)
 have HP:Hid (bE w c B (.slice none 0 0) (S.lay (l+1) k).1 (S.lay (l+1) k).2 (.returned (.tuple #[.agg qc.toArray,.int .i64 er])) w9):=O ⟨v,B',by rw[I.1,I.2.1,qt.out],by rw[I.1];exact qr.keepT b (fun i K e=>qw.out i K e),by rw[I.2.2];exact qn.keepT b qa.out,fun i e=>(Y i e).imp id (fun h=>Nat.le_trans m.size h),((Cl.refl _ _ _ m.out).trans qi.out).trans (fun i e=>(by
  by_cases h:IsC w8 i
  ·obtain⟨cs,t,h⟩:=h
   exact .inl ⟨cs,t,b.blk h (fun e2=>qa.out i e2 e)⟩
  ·exact .inr ⟨e,h⟩)),.inr (qp.from m.size),(m.any.trans qm.out).tT b (fun i K e=>by have:=d.1;omega)⟩
 have qg:=O hb;clear b hb X;go_wp2_with fail;refine bodyPost_ret (aT rfl _ _ b4 _ _ _ _ rfl qg.out aI rfl (by rw[List.size_toArray,F];exact bX)) rfl ?_;exact HP.out
theorem E5(d:KI w c S B)(h:l≤2)(k:Nat->Tr)(b:∀i,i<4->Tr.Ok S l (k i))(vs:Nat->Value)(m:bL w B vs (fun i=>(k i).ptr)):Calls prog 52 #[.pointer c,.agg (bS ((l+1:Nat):Int) vs (fun i=>(k i).ptr)).toArray] w (bE w c B (.slice none 0 0) (S.lay (l+1) k).1 (S.lay (l+1) k).2):=by
 cases f:gK k with
 | true=>exact La d h k b vs m f
 | false=>exact Lb d h k b vs m f
theorem DJ(f:KI w c S B)(vv:Value)(bs:List UInt8)(b:bs.length=256)(m:Rd w 1 vv 256 (bs.map vb))(d:∀i,vv.ownBlock=some i->¬B i):Calls prog 57 #[.pointer c,vv] w (bE w c B (.slice none 0 0) (S.leaf bs).1 (S.leaf bs).2):=by
 by_cases h:bs=zB
 ·subst h;exact B8 f vv m
 ·exact B9 f vv bs b h m d
def bB(n:Nat)(t:Tr):Nat->Tr
 | 0=>t
 | k+1=>(bB n t k).kid (n / 4 ^ (2-k) % 4)
theorem jN(h:Tr.Ok S 3 t):∀k,k≤3->Tr.Ok S (3-k) (bB n t k)
 | 0,_=>h
 | 1,_=>(jN h 0 (by omega)).kid (eO _ _)
 | 2,_=>(jN h 1 (by omega)).kid (eO _ _)
 | 3,_=>(jN h 2 (by omega)).kid (eO _ _)
 | k+4,b=>by omega
theorem CX(n:Nat)(t:Tr)(h:bB n t j=.hole):∀i,bB n t (j+i)=.hole
 | 0=>h
 | i+1=>by
   show (bB n t (j+i)).kid _=.hole;rw[CX n t h i];rfl
theorem E8(h:Tr.Ok S 3 t):t.blk 3 n=(bB n t 3).blk 0 n:=by
 rw[h.blk_succ,(h.kid (eO n 2)).blk_succ,((h.kid (eO n 2)).kid (eO n 1)).blk_succ];rfl
def fE(n:Nat)(t:Tr)(k:Nat)(pv:Value)(vs:Nat->Value):List Value:=
 aE pv (bB n t k).ptr++(bS ((3-k:Nat):Int) vs (fun i=>((bB n t k).kid i).ptr)++[.int .i64 ((n / 4 ^ (2-k) % 4:Nat):Int)])
def mF(n:Nat)(t:Tr)(k:Nat)(pvs:Nat->Value)(vss:Nat->Nat->Value):List Value:=(List.range k).flatMap fun j=>fE n t j (pvs j) (vss j)
def Apt(sv v:Value):Prop:=∀i,sv.ownBlock=some i->v.ownBlock≠some i
def Ca(M:Nat)(v:Value):Prop:=∀i,v.ownBlock=some i->M≤i
structure cL(w0 w:World)(B:Nat->Prop)(M:Nat)(pv0:Value)(n:Nat)(t:Tr)(k:Nat)(sv:Value)(pvs:Nat->Value)(vss:Nat->Nat->Value):Prop where
 row:w.ownsRow w0.heap.size 128 177 sv k (mF n t k pvs vss)
 pvs:∀j,j<k->aU w B (pvs j) (bB n t j).ptr/\Apt sv (pvs j)/\(pvs j=pv0\/Ca M (pvs j))
 vss:∀j,j<k->bL w B (vss j) (fun i=>((bB n t j).kid i).ptr)/\∀q,q<4->Apt sv (vss j q)/\Ca M (vss j q)
theorem tN{sv v2:Value}{p:Pt}(h:Apt sv v)(b:v2.ownBlock=sv.ownBlock\/v2.ownBlock=some w.heap.size)(f:aU w B v p):Apt v2 v:=fun i d e=>by
 rcases b with b|b
 ·rw[b] at d;exact h i d e
 ·rw[b] at d
  have:=(f.off i e).2.lt;injection d with d
  omega
section
variable {w0 w w' wE:World}{B:Nat->Prop}{M:Nat}{pv0:Value}{n:Nat}{t:Tr}{k:Nat}{sv v2:Value}{pvs:Nat->Value}{vss:Nat->Nat->Value}
theorem cL.keepT{T:Nat->Prop}(h:cL w0 w B M pv0 n t k sv pvs vss)(f:aA T w w')(s:∀i,sv.ownBlock=some i->¬T i)(u:∀i,pv0.ownBlock=some i->¬T i)(m:∀i,M≤i->¬T i):cL w0 w' B M pv0 n t k sv pvs vss:=
 ⟨f.owns h.row s,fun j b=>⟨(h.pvs j b).1.keepT f fun i d=>((h.pvs j b).2.2).elim (fun e=>u i (e▸d)) fun e=>m i (e i d),(h.pvs j b).2⟩,fun j b=>⟨fun q r=>((h.vss j b).1 q r).keepT f fun i d=>m i (((h.vss j b).2 q r).2 i d),(h.vss j b).2⟩⟩
theorem cL.keep0(h:cL w0 w B M pv0 n t k sv pvs vss)(b:aA aB w w'):cL w0 w' B M pv0 n t k sv pvs vss:=h.keepT b (fun _ _=>id) (fun _ _=>id) fun _ _=>id
theorem cL.next(h:cL w0 w B M pv0 n t k sv pvs vss)(d:aA aB w wE){pv:Value}{vs:Nat->Value}(E:aU w B pv (bB n t k).ptr)(ap:Apt sv pv)(G:pv=pv0\/Ca M pv)(F:bL w B vs (fun i=>((bB n t k).kid i).ptr))(y:∀q,q<4->Apt sv (vs q)/\Ca M (vs q))
 (I:w'.ownsRow w0.heap.size 128 177 v2 (k+1) (mF n t k pvs vss++fE n t k pv vs)) (x:aA (fun i=>sv.ownBlock=some i) wE w') (u:v2.ownBlock=sv.ownBlock\/v2.ownBlock=some wE.heap.size):cL w0 w' B M pv0 n t (k+1) v2 (fun j=>if j=k then pv else pvs j) (fun j=>if j=k then vs else vss j):=by
 have e:mF n t (k+1) (fun j=>if j=k then pv else pvs j) (fun j=>if j=k then vs else vss j)=mF n t k pvs vss++fE n t k pv vs:=by
  unfold mF;rw[List.range_succ,List.flatMap_append,List.flatMap_cons,List.flatMap_nil,List.append_nil]
  congr 1
  ·rw[List.flatMap_def,List.flatMap_def]
   congr 1
   refine List.map_congr_left fun j z=>?_
   have:=List.mem_range.1 z;show fE n t j (if j=k then pv else pvs j) (if j=k then vs else vss j)=_;rw[if_neg (by omega),if_neg (by omega)]
  ·show fE n t k (if k=k then pv else pvs k) (if k=k then vs else vss k)=_
   rw[if_pos rfl,if_pos rfl]
 refine⟨by rw[e];exact I,fun j z=>?_,fun j z=>?_⟩
 ·by_cases r:j=k
  ·subst r
   rw[if_pos rfl];exact⟨(E.keep0 d).keepT x fun i f e=>ap i e f,tN ap u (E.keep0 d),G⟩
  ·rw[if_neg r]
   obtain⟨s,m,H⟩:=h.pvs j (by omega);exact⟨(s.keep0 d).keepT x fun i f e=>m i e f,tN m u (s.keep0 d),H⟩
 ·by_cases r:j=k
  ·subst r
   rw[if_pos rfl];exact⟨fun q b=>((F q b).keep0 d).keepT x fun i f e=>(y q b).1 i e f,fun q b=>⟨tN (y q b).1 u ((F q b).keep0 d),(y q b).2⟩⟩
  ·rw[if_neg r]
   obtain⟨s,m⟩:=h.vss j (by omega);exact⟨fun q b=>((s q b).keep0 d).keepT x fun i f e=>(m q b).1 i e f,fun q b=>⟨tN (m q b).1 u ((s q b).keep0 d),(m q b).2⟩⟩
theorem cL.nil(w0 w:World)(B:Nat->Prop)(M:Nat)(pv0:Value)(n:Nat)(t:Tr):cL w0 w B M pv0 n t 0 (.slice none 0 0) (fun _=>.slice none 0 0) (fun _ _=>.slice none 0 0):=⟨World.ownsRow_nil _ _ _ _,fun j b=>by omega,fun j b=>by omega⟩
end
structure eZ(w:World)(B:Nat->Prop)(M:Nat)(pv0 sv pv:Value)(p:Pt):Prop where
 val:aU w B pv p
 apt:Apt sv pv
 far:pv=pv0\/Ca M pv
variable{w w':World}{B:Nat->Prop}{M c:Nat}{pv0 sv pv:Value}{p:Pt}{S:Kor}
theorem eZ.keepT{T:Nat->Prop}(h:eZ w B M pv0 sv pv p)(k:aA T w w')(d:∀i,pv0.ownBlock=some i->¬T i)(f:∀i,M≤i->¬T i):eZ w' B M pv0 sv pv p:=
 ⟨h.val.keepT k fun i b=>h.far.elim (fun e=>d i (e▸b)) fun e=>f i (e i b),h.apt,h.far⟩
theorem eZ.keep0(h:eZ w B M pv0 sv pv p)(k:aA aB w w'):eZ w' B M pv0 sv pv p:=h.keepT k (fun _ _=>id) fun _ _=>id
theorem DW{a b:Nat}{c1 c2:Array Value}{f h:TypeId}{i m:Nat×Nat}(d:w.heap[a]?=some (.cells c1 f i))(q:w.heap[b]?=some (.cells c2 h m))(s:f≠h):a≠b:=fun e=>by
 rw[e,q] at d;injection d with d
 injection d with d r
 exact s r.symm
def Cb(w:World)(B:Nat->Prop)(pv0:Value)(n:Nat)(t:Tr)(b:Bool)(e:Ending)(w':World):Prop:=
 ∃sv d k pvs vss M,e=.returned (.tuple #[sv,.agg (aE d (bB n t 3).ptr).toArray,.int .i64 0])/\(b=false->k=3)/\w.heap.size≤M/\cL w w' B M pv0 n t k sv pvs vss/\eZ w' B M pv0 sv d (bB n t 3).ptr/\aA aB w w'
theorem Gm{P:Program}{i:Func}{a p q:Tmp}{f:TypeId}(h:i.results=#[.tmp a,.cell p f,.tmp q])(tmps:Array Value)(w:World)(g:Nat)(t:TypeId)(b:Array Value)(fr:Nat×Nat)(d:TypeDesc)
 (m:tmps.getD p undef=.pointer g) (s:w.heap[g]?=some (.cells b t fr)) (x:P.underlying f=some d) (r:(match d with|.struct _|.array _ _=>true|_=>false)=true) (u:(P.info? f).map (·.size)=some b.size):(results i tmps).run P w=.ok (.tuple #[tmps.getD a undef,.agg b,tmps.getD q undef]) w:=by
 simp only[Array.getD_eq_getD_getElem?] at m;simp[results,h,m,asAddr,Result.andThen,run_loadVar_row w g t f b fr d s x r u]
def Bf:List Value:=aX++(xB++[.int .i64 0])
theorem qE:Bf.length=177:=rfl
theorem Bg:Hid (∀w,(zeroValue 128).run prog w=.ok (.agg Bf.toArray) w):=O fun w=>by kernel_rfl
theorem tO:(prog.info? 128).map (·.size)=some 177:=by kernel_rfl
theorem Lc:(prog.info? 128).map (fun i=>(i.zero,i.size,i.bytes))=some (some (.agg Bf.toArray),177,376):=by kernel_rfl
theorem Ld(N:Nat)(b:List Value)(h:b.length=N):b=(List.range N).map fun i=>b.getD i undef:=by
 apply List.ext_getElem?;intro i;rw[List.getElem?_map]
 by_cases d:i<N
 ·rw[List.getElem?_range d,List.getElem?_eq_getElem (by omega)]
  simp[List.getD,List.getElem?_eq_getElem (show i<b.length by omega)]
 ·rw[List.getElem?_eq_none (by omega),List.getElem?_eq_none (by simp;omega)];rfl
theorem I8(f g:Nat->Value)(d:Int):prog.built 128 [(0,.agg ((List.range 35).map f).toArray),(1,.agg ((List.range 141).map g).toArray),(2,.int .i64 d)]=some ((List.range 35).map f++((List.range 141).map g++([.int .i64 d]:List Value))).toArray:=by kernel_rfl
theorem Le(f b:List Value)(d:Int)(h:f.length=35)(i:b.length=141)(w:World):(Instr.build 128 #[(0,.agg f.toArray),(1,.agg b.toArray),(2,.int .i64 d)]).run prog w=.ok (.agg (f++(b++([.int .i64 d]:List Value))).toArray) w:=by
 refine run_build w 128 _ _ ?_;rw[Ld 35 f h,Ld 141 b i];exact I8 _ _ _
def Q8(l:Nat)(f d:Bool)(w:World)(vs:List Value)(w':World):Prop:=aA aB w w'/\∃s1 s2 h i m q r s u b,vs=[s1,s2,h,i,m,q,r,s,u,.bool b]/\(b=true->0<l/\(f=true->d=false))/\(b=false->l=0\/(f=true/\d=true))
theorem E9(hK:KI w c S B)(pv:Value)(t:Tr)(ht:Tr.Ok S 3 t)(hp:aU w B pv t.ptr)(n:Nat)(hn:n<64)(sh:Bool):Calls prog 54 #[.pointer c,.agg (aE pv t.ptr).toArray,.int .i64 (n:Int),.bool sh] w (Cb w B pv n t sh):=by
 have HT:=O ht;have HN:=O hn;have qe:=O hp;have HK:=O hK;obtain⟨p,xm⟩:=zX9 t.ptr
 have va:=O xm;rw[xm] at qe hp ⊢;obtain⟨pc,x9,xl,v7⟩:=nmPt hp.pt;rw[x9.out];have y:=lN w;clear hp ht hK xm;have vc:=qe;have v3:=HK;go_in
 go_wp2_with refine bxM y (pc.toArray) ?_
 intro b5 w1 m y;replace qe:=pK qe m;replace HK:=O (HK.keep0 m);clear m
 go_wp2_with refine alM y aZ ?_
 intro b9 w2 m y;replace qe:=pK qe m;replace HK:=O (HK.keep0 m);clear m
 go_wp2_with (first
  | refine ldQ (y.b 1) xl ?_
  | refine alA aZ ?_)
 intro X w3 J vw z7
 go_wp2_with refine stW z7 xl aG (szP9 xl) v7.out ?_
 intro w4 m hb;replace m:=tX vw m (fun i H e=>by omega);replace y:=lW y J m hb;replace qe:=pK qe m;replace HK:=O (HK.keep0 m);clear J m hb vw z7;go_wp2_with fail;have z:=O (y.b 1);have f:=O (y.b 0);have xb:=O (And.intro (y.lt 1) (y.lt 0));have xz:Hid (b9≠X):=O (fun e=>bH (i:=0) y.nd rfl 1 (by decide) rfl e);have xd:=O y.keep;obtain⟨M,hM⟩:=zX9 w4.heap.size
 rw[hM] at xb;have HM:=O (show w.heap.size≤M from by have:=xd.size;omega);have xy:=O (Nat.le_of_eq hM.symm);obtain⟨Wh,vq⟩:=zX9 w4
 rw[vq] at qe HK z f xd xy ⊢;have zl:=O (fun i (H:pv.ownBlock=some i)=>(vc.off i H).2.lt);clear y vq hM
 go_loopw [11,13] (fun s i wr=>∃(l:Nat) (sa:Option Addr) (E sc:Nat),E+l=3/\i=.int .i64 (l:Int)/\s=.slice sa E sc/\Hid (aA aB w wr/\M≤wr.heap.size)/\Hid (∃pvs vss,cL w wr B M pv n t E (.slice sa E sc) pvs vss)/\Hid (∃Y,eZ wr B M pv (.slice sa E sc) Y (bB n t E).ptr/\wr.heap[X]?=some (.cells (aE Y (bB n t E).ptr).toArray 30 (0,0)))/\Hid (wr.heap[b9]?=some (.cells aX.toArray 30 (0,0)))) (fun _ i _=>(intOf i).toNat)
 case atStart=>exact⟨3,none,0,0,by omega,rfl,rfl,O ⟨xd.out,xy.out⟩,O ⟨_,_,cL.nil _ _ _ _ _ _ _⟩,O ⟨pv,⟨by show aU _ B pv t.ptr;rw[va.out];exact qe.out,(fun i H=>by cases H),.inl rfl⟩,by have h:=f.out;rw[←x9.out,←va.out] at h;exact h⟩,z⟩
 case round =>
  obtain⟨l,sa,E,qd,uq,rfl,rfl,qh,vn,vd,z⟩:=hrel;obtain⟨pvs,vss,vy⟩:=vn.out;obtain⟨Y,qk,qw⟩:=vd.out;obtain⟨q,hq⟩:=zX9 ((bB n t E).ptr)
  have HQ:=O hq;rw[hq] at qk qw;have L:=aF (v:=Y) qk.val.pt.sum;have z3:=aL qk.val.pt;obtain⟨qc,qx⟩:=zX9 (aE Y q)
  have x5:Hid (∀u∈qc,u.oneCell'=true):=O (by rw[←qx];exact z3);have ze:=O qx;rw[qx] at L qw;have N:=O vy;have r:=O qk;have f:=O qw;have F:=O (v3.keep0 qh.1);clear vy qk qw vn vd hq qx z3;have y:=lN wr;obtain⟨ho,vu⟩:=zX9 q.hole
  have xc:=O vu;clear vu;refine wp_seq_k fun K1 uo=>?_
  refine wp_seq_k fun K2 uc=>?_
  refine E6 [18,19,20,21,22,23,24,25,26,27] (Q8 l sh ho wr) ?_ ?_
  ·rcases Nat.eq_zero_or_pos l with qq|qq
   ·have H:¬(0:Int)<(l:Int):=by omega
    have d0:decide ((0:Int)<(l:Int))=false:=decide_eq_false H;have v5:=O qq;clear qq;go_wp2_with fail;exact⟨rfl,[.int .i64 (l:Int),.bool false,.bool false,undef,undef,undef,undef,undef,undef,.bool false],(by simp only[mQ,Act.put,List.setIfInBounds_toArray,List.set_cons_zero,List.set_cons_succ]),aA.refl _ _,_,_,_,_,_,_,_,_,_,_,rfl,(fun h=>by cases h),fun _=>.inl v5.out⟩
   ·have H:(0:Int)<(l:Int):=by omega
    have d0:decide ((0:Int)<(l:Int))=true:=decide_eq_true H;cases sh with
    | false =>
      go_wp2_with fail;exact⟨rfl,[.int .i64 (l:Int),.bool true,.bool true,.bool false,.bool false,undef,undef,.bool false,.bool true,.bool true],(by simp only[mQ,Act.put,List.setIfInBounds_toArray,List.set_cons_zero,List.set_cons_succ]),aA.refl _ _,_,_,_,_,_,_,_,_,_,_,rfl,(fun _=>⟨qq,fun e=>by cases e⟩),fun e=>by cases e⟩
    | true =>
      cases ho with
      | false =>
        go_wp2_with ((with_reducible show WL _ _);refine aK (by rfl) 30 (.tmp 12) rfl X 0 rfl qc _ (aD f.out) aI rfl (szP9 L) ?_)
        refine((by rw[←ze.out];have h:=bK wr Y q r.val.pt;rw[xc.out] at h;exact h:Ka wr (aN wr false))).mono ?_;rintro e w9 ⟨rfl,V⟩;have q9:=O V;clear V;go_wp2_with fail;exact⟨rfl,[.int .i64 (l:Int),.bool true,.bool true,.bool true,.bool true,.agg qc.toArray,.bool false,.bool false,.bool true,.bool true],(by simp only[mQ,Act.put,List.setIfInBounds_toArray,List.set_cons_zero,List.set_cons_succ]),q9.out,_,_,_,_,_,_,_,_,_,_,rfl,(fun _=>⟨qq,fun _=>rfl⟩),fun e=>by cases e⟩
      | true =>
        go_wp2_with ((with_reducible show WL _ _);refine aK (by rfl) 30 (.tmp 12) rfl X 0 rfl qc _ (aD f.out) aI rfl (szP9 L) ?_)
        refine((by rw[←ze.out];have h:=bK wr Y q r.val.pt;rw[xc.out] at h;exact h:Ka wr (aN wr true))).mono ?_;rintro e w9 ⟨rfl,V⟩;have q9:=O V;clear V;go_wp2_with fail;exact⟨rfl,[.int .i64 (l:Int),.bool true,.bool true,.bool true,.bool true,.agg qc.toArray,.bool true,.bool true,.bool false,.bool false],(by simp only[mQ,Act.put,List.setIfInBounds_toArray,List.set_cons_zero,List.set_cons_succ]),q9.out,_,_,_,_,_,_,_,_,_,_,rfl,(fun e=>by cases e),fun _=>.inr ⟨rfl,rfl⟩⟩
  rintro _ wr ⟨V,s1,s2,s3,s4,s5,s6,s7,s8,s9,bb,rfl,vt,vr⟩;have vz:=O vt;have xn:=O vr;replace N:=O (cL.keep0 N.out V);replace r:=O (eZ.keep0 r.out V);replace F:=O (F.keep0 V);replace f:=O (V.blk f.out id);replace z:=O (V.blk z.out id);replace qh:Hid (aA aB w wr/\M≤wr.heap.size):=O ⟨qh.1.trans V,Nat.le_trans qh.2 V.size⟩;replace y:=O (Loc.nil aB aB wr);have v9:=N;have ua:=O qh.1.size;have ug:=O (Nat.le_refl wr.heap.size);clear V vt vr;refine uc _ _ ?_;simp only[mQ,Act.put,List.setIfInBounds_toArray,List.set_cons_zero,List.set_cons_succ];cases bb with
  | false =>
    have v1:Hid ((bB n t 3).ptr=q):=O (by
     rcases xn.out (by simp) with e|⟨e,hh⟩
     ·have e3:E=3:=by omega
      rw[←e3];exact HQ.out
     ·have h1:bB n t E=.hole:=fG (by rw[←(jN (n:=n) HT.out E (by omega)).hole_eq,HQ.out,xc.out,hh])
      have h2:=CX n t h1 (3-E);rw[show E+(3-E)=3 by omega] at h2;rw[h2,←HQ.out,h1])
    go_wp2_with fail;have ve:Hid ((bB n t 3).ptr=q):=O v1.out;have qo:=O y.keep;clear y;obtain⟨S',xg⟩:∃S:World->Prop,S=fun w'=>cL w w' B M pv n t E (.slice sa E qd) pvs vss/\eZ w' B M pv (.slice sa E qd) Y q/\w'.heap[X]?=some (.cells qc.toArray 30 (0,0))/\aA aB w w':=⟨_,rfl⟩
    have I:=O (show ∀w',S' w'->_ from fun w' h=>by rw[xg] at h;exact h);have qa:=O (show ∀w',_->S' w' from fun w' h=>by rw[xg];exact h);have K:=(aA.refl aB wr).drew;have hS:S' wr.drew:=qa.out _ ⟨N.keep0 K,r.keep0 K,K.blk f.out id,(qh.1.trans qo.out).trans K⟩;have qt:=O (K.blk z.out id);clear xg K;refine wp_region_held (S:=S') (by kernel_rfl) ?_;change wpAnyH _ _ _ _ _ _ _ _ wr.drew;generalize wr.drew=wy at hS qt ⊢;refine tna 0 (.slice sa E qd) rfl hS ?_;refine tnd 1 (.agg qc.toArray) rfl (yieldsIf_load_mid (by rfl) 30 (.tmp 12) rfl X 0 rfl qc _ (fun w' h=>aD (I w' h).2.2.1) aI rfl (szP9 L)) hS ?_;refine tna 2 (.slice sa E qd) rfl hS ?_;refine wA9 3 ?_;refine sta 30 (.tmp 9) (.tmp 57) b9 0 qc qt.out (by rw[List.size_toArray,aG,L];omega) (szP9 L) x5.out ?_;intro wz m hb;rw[aS _ _ (by rw[List.size_toArray,aG,L])] at hb;have xp:=O hb
    have U:S' wz:=qa.out _ (by
     obtain⟨h1,h2,h3,h4⟩:=I.out _ hS;have g0:=xb.1;refine⟨h1.keepT m (fun i H e=>?_) (fun i H e=>?_) (fun i H e=>by omega),h2.keepT m (fun i H e=>?_) (fun i H e=>by omega),m.blk h3 xz.symm,h4.tT m (fun i H e=>by omega)⟩
     ·obtain⟨cur,hc⟩:=aJ h1.row H
      exact DW hc qt.out (by decide) e
     ·have:=zl.out i H;omega
     ·have:=zl.out i H;omega)
    clear hS m hb;refine wpList_nil ?_;refine⟨U,?_⟩;refine tna 4 (.int .i64 0) rfl U ?_;refine wpAnyH_done (by kernel_rfl) ?_ _;have HF:=O (I _ U);clear U I qa N r f z qt;go_wp2_with fail;refine bodyPost_ret (Gm rfl _ _ b9 _ _ _ _ rfl xp.out aI rfl (by rw[List.size_toArray,L];exact bX)) rfl ?_;exact⟨_,Y,E,pvs,vss,M,by rw[ve.out,ze.out];rfl,(fun hs=>(xn (by simp)).elim (fun e=>by omega) fun e=>by rw[hs] at e;cases e.1),HM.out,HF.1,by rw[ve.out];exact HF.2.1,HF.2.2.2⟩
  | true =>
    have qq:=(vz (by simp)).1;obtain⟨l2,rfl⟩:∃l2,l=l2+1:=⟨l-1,by omega⟩
    have ue:l2≤2:=by omega
    have z2:=O (jN (n:=n) HT.out E (by omega));have e4:3-E=l2+1:=by omega
    rw[e4] at z2;clear e4 qq;have uk:(0:Int)≤(l2:Int):=by omega
    go_wp2_with refine ldP X 0 qc (aD f.out) L ?_
    refine((by rw[←ze.out,←HQ.out];exact xS F.out ue Y (bB n t E) z2.out (by rw[HQ.out];exact r.val.pt):Ka wr (eE wr B l2 (bB n t E)))).mono ?_;rintro e w6 ⟨vs,rfl,zq,z9,m⟩;have G:=O zq;have x1:=O z9;have vo:=O y.keep.size;have qr:=cP ((l2+1:Nat):Int) vs zq.nv;have z1:=cQ ((l2+1:Nat):Int) zq.nv;obtain⟨nn,qv⟩:=zX9 (bS ((l2+1:Nat):Int) vs (fun i=>((bB n t E).kid i).ptr))
    have x3:Hid (∀u∈nn,u.oneCell'=true):=O (by rw[←qv];exact z1);have x0:=O qv;rw[qv] at qr ⊢;clear z1 qv zq z9;replace y:=kL y m;replace N:=O (cL.keep0 N.out m);replace r:=O (eZ.keep0 r.out m);replace F:=O (F.keep0 m);replace f:=O (m.blk f.out id);replace z:=O (m.blk z.out id);clear m;have qo:=O y.keep;replace y:=O (Loc.nil aB aB w6);have vf:=N;have z5:=r;have zw:=F;have q0:=f;have zt:=z;have zz:=G
    go_wp2_with ((with_reducible show WL _ _);refine alW gV qr cW (by rw[qr];exact cU) x3.out ?_)
    intro zn w8 J m hb
    replace y:=lW y J m hb;replace N:=O (cL.keep0 N.out m);replace r:=O (eZ.keep0 r.out m);replace F:=O (F.keep0 m);replace f:=O (m.blk f.out id);replace z:=O (m.blk z.out id);replace G:=O (bL.keep0 G.out m);clear J m hb;obtain⟨d,xj⟩:=zX9 (n / 4 ^ l2 % 4)
    have zi:=O xj;have qz:d<4:=by rw[←xj];exact eO n l2
    have J:=Le qc nn ((d:Nat):Int) L qr;have ql:(qc++(nn++([.int .i64 ((d:Nat):Int)]:List Value))).length=177:=by simp[L,qr]
    obtain⟨sc,qy⟩:=zX9 (qc++(nn++([.int .i64 ((d:Nat):Int)]:List Value)))
    have zd:Hid (∀u∈sc,u.oneCell'=true):=O (by
     intro u hu;rw[←qy] at hu;rcases List.mem_append.1 hu with hu|hu
     ·exact x5.out u hu
     rcases List.mem_append.1 hu with hu|hu
     ·exact x3.out u hu
     ·rcases List.mem_singleton.1 hu with rfl;rfl)
    have vi:=O qy;rw[qy] at J ql;have xq:=O J;clear xj J qy;go_wp2_with fail;apply Gl (R:=fun(qb:Nat) w'=>Hid (cL w w' B M pv n t E (.slice sa E qd) pvs vss/\eZ w' B M pv (.slice sa E qd) Y q/\KI w' c S B/\w'.heap[X]?=some (.cells qc.toArray 30 (0,0))/\w'.heap[b9]?=some (.cells aX.toArray 30 (0,0))/\bL w' B vs (fun i=>((bB n t E).kid i).ptr)/\Loc aB aB w6 w' [(qb,sc.toArray,128),(zn,nn.toArray,89)]))
    case h =>
     go_wp2_with fail;refine dwB aB (by kernel_rfl) ?_;intro w9 S I qa hS K;replace y:=kL y K;replace N:=O (cL.keep0 N.out K);replace r:=O (eZ.keep0 r.out K);replace F:=O (F.keep0 K);replace f:=O (K.blk f.out id);replace z:=O (K.blk z.out id);replace G:=O (bL.keep0 G.out K);clear K;have xe:=y;have vh:=N;have z6:=r;have zx:=F;have qn:=f;have zv:=z;have z0:=G;refine tnd 0 (.agg qc.toArray) rfl (yieldsIf_load_mid (by rfl) 30 (.tmp 12) rfl X 0 rfl qc _ (fun w' h=>(I w' h).rangeAt (aD qn.out)) aI rfl (szP9 L)) hS ?_;refine tnd 1 (.agg nn.toArray) rfl (yieldsIf_load_mid (by rfl) 89 (.tmp 14) rfl zn 0 rfl nn _ (fun w' h=>aD ((I w' h).blk (xe.b 0) id)) underlying89 rfl (by rw[qr];exact cU)) hS ?_;refine tna 2 (.int .i64 (n:Int)) rfl hS ?_;refine tna 3 (.int .i64 ((l2+1:Nat):Int)) rfl hS ?_;refine gL (k:=4) (l:=6) rfl rfl (by kernel_rfl) ?_ ?_
     ·go_wp2_with fail
      refine(CW w9 n l2 HN.out (by omega)).mono ?_;rintro e wa ⟨rfl,m⟩;have U:=qa.out _ ((I _ hS).trans m);replace y:=kL y m;replace N:=O (cL.keep0 N.out m);replace r:=O (eZ.keep0 r.out m);replace F:=O (F.keep0 m);replace f:=O (m.blk f.out id);replace z:=O (m.blk z.out id);replace G:=O (bL.keep0 G.out m);clear hS m;rw[zi.out];go_wp2_with fail;refine⟨U,?_⟩;refine tnd 5 (.agg sc.toArray) rfl (fC 128 #[(0,.tmp 41),(1,.tmp 42),(2,.tmp 45)] [(0,.agg qc.toArray),(1,.agg nn.toArray),(2,.int .i64 ((d:Nat):Int))] (.agg sc.toArray) xq.out) U ?_;refine wA9 6 ?_;refine alA Bg ?_;intro qb wb J m hb;have qp:=O (show w9.heap.size≤qb from by have:=(I _ U).size;omega);have qj:=qa.out _ ((I _ U).trans m);clear U;replace y:=lW y J m hb;replace N:=O (cL.keep0 N.out m);replace r:=O (eZ.keep0 r.out m);replace F:=O (F.keep0 m);replace f:=O (m.blk f.out id);replace z:=O (m.blk z.out id);replace G:=O (bL.keep0 G.out m);clear J m hb;refine wpList_nil ?_;refine⟨qj,?_⟩;refine wA9 7 ?_;refine stW (y.b 0) ql qE (by rw[ql];exact tO) zd.out ?_;intro wc m hb;have zf:=qa.out _ ((I _ qj).tT m (fun i H e=>by have:=qp.out;omega));clear qj;replace y:=O (y.set 0 m hb);replace N:=O (cL.keep0 vf.out y.keep);replace r:=O (eZ.keep0 z5.out y.keep);replace F:=O (zw.keep0 y.keep);replace f:=O (y.keep.blk q0.out id);replace z:=O (y.keep.blk zt.out id);replace G:=O (bL.keep0 zz.out y.keep);clear m hb;refine wpList_nil ?_;refine⟨zf,?_⟩;refine wpAnyH_done (by kernel_rfl) ?_ _;clear zf I qa xe vh z6 zx qn zv z0;refine noP ?_;exact⟨rfl,qb,rfl,O ⟨N.out,r.out,F.out,f.out,z.out,G.out,y.out⟩⟩
     ·refine alA Bg ?_
      intro qb wa J m hb;have qp:=O (show w9.heap.size≤qb from by have:=(I _ hS).size;omega);have U:=qa.out _ ((I _ hS).trans m);clear hS;replace y:=lW y J m hb;replace N:=O (cL.keep0 N.out m);replace r:=O (eZ.keep0 r.out m);replace F:=O (F.keep0 m);replace f:=O (m.blk f.out id);replace z:=O (m.blk z.out id);replace G:=O (bL.keep0 G.out m);clear J m hb;refine wpList_nil ?_;refine⟨U,?_⟩;refine wA9 4 ?_;go_wp2_with fail;refine(CW wa n l2 HN.out (by omega)).mono ?_;rintro e wb ⟨rfl,m⟩;have qj:=qa.out _ ((I _ U).trans m);replace y:=kL y m;replace N:=O (cL.keep0 N.out m);replace r:=O (eZ.keep0 r.out m);replace F:=O (F.keep0 m);replace f:=O (m.blk f.out id);replace z:=O (m.blk z.out id);replace G:=O (bL.keep0 G.out m);clear U m;rw[zi.out];go_wp2_with fail;refine⟨qj,?_⟩;refine tnd 5 (.agg sc.toArray) rfl (fC 128 #[(0,.tmp 41),(1,.tmp 42),(2,.tmp 45)] [(0,.agg qc.toArray),(1,.agg nn.toArray),(2,.int .i64 ((d:Nat):Int))] (.agg sc.toArray) xq.out) qj ?_;refine wA9 7 ?_;refine stW (y.b 0) ql qE (by rw[ql];exact tO) zd.out ?_;intro wc m hb;have zf:=qa.out _ ((I _ qj).tT m (fun i H e=>by have:=qp.out;omega));clear qj;replace y:=O (y.set 0 m hb);replace N:=O (cL.keep0 vf.out y.keep);replace r:=O (eZ.keep0 z5.out y.keep);replace F:=O (zw.keep0 y.keep);replace f:=O (y.keep.blk q0.out id);replace z:=O (y.keep.blk zt.out id);replace G:=O (bL.keep0 zz.out y.keep);clear m hb;refine wpList_nil ?_;refine⟨zf,?_⟩;refine wpAnyH_done (by kernel_rfl) ?_ _;clear zf I qa xe vh z6 zx qn zv z0;refine noP ?_;exact⟨rfl,qb,rfl,O ⟨N.out,r.out,F.out,f.out,z.out,G.out,y.out⟩⟩
    case hR =>
     rintro qb wd HF;replace N:=O HF.1;replace r:=O HF.2.1;replace F:=O HF.2.2.1;replace f:=O HF.2.2.2.1;replace z:=O HF.2.2.2.2.1;replace G:=O HF.2.2.2.2.2.1;replace y:=O HF.2.2.2.2.2.2;clear HF;have zk:=O N.row;have vm:=O (fun i (H:(Value.slice sa E qd).ownBlock=some i)=>show i<wr.heap.size from by obtain⟨cur,hc⟩:=aJ v9.row H;exact lt_of_block hc);have xx:=O y.keep;have q3:=O (y.b 0);have zr:=O (y.b 1);have vp:=And.intro (y.lt 0).1 (y.lt 1).1;have xu:=O vp;have zy:=O qh.2;obtain⟨wE,vx,zp,xi,-⟩:=aP wd sc.toArray 128;obtain⟨bx,zo⟩:=zX9 wd.heap.size
     rw[zo] at xi;have vg:Hid (Rd wE 177 (.slice bx 1 1) 1 sc):=O (dX (n:=1) (size:=177) xi (by rw[ql]) (by unfold maxLen;omega));have x7:=O (zp.owns zk.out fun _ _=>id);have vj:=O zp.size;have xr:=O y.keep.size;have qf:=O zp;have um:=O zo;have ul:E≤2:=by omega
     clear xi zp vp y
     go_wp2_with (first
      | ((with_reducible show WL (some 48) (.load 128 _));refine ldM qb 0 sc (aD q3.out) underlying128 (by rw[ql];exact tO) ?_)
      | ((with_reducible show WL _ (.buildSlice _ 1 _));refine bZ rfl 117 128 (.tmp 48) rfl underlying117 Lc (by decide) sc ql (by decide) rfl ?_;rw[vx,zo])
      | (at_builtin;refine aM rfl (.tmp 47) (.tmp 49) 117 rfl w.heap.size 128 (.agg Bf.toArray) 177 376 underlying117 Lc rfl (by decide) (.slice sa E qd) E (mF n t E pvs vss) rfl x7.out (.slice bx 1 1) 1 sc rfl vg.out zd.out (by unfold maxLen;omega) (by omega) (by have h1:=vj.out;have h2:=xr.out;have h3:=ua.out;have h4:=qo.size;omega) ?_))
     intro v2 w8 xk qg uf xh;obtain⟨g5,c5,rfl⟩:=ownsRow_succ xk;clear vx zo uf vg x7;have zh:Hid (∀q,q<4->Apt (.slice sa E qd) (vs q)/\Ca M (vs q)):=O (fun q hq=>⟨fun i H e=>by have h1:=vm.out i H;have h2:=x1.out q hq i e;have h3:=vo.out;omega,fun i H=>by have h2:=x1.out q hq i H;have h3:=vo.out;have h4:=zy.out;omega⟩)
     have xf:Hid (cL w w8 B M pv n t (E+1) (.slice g5 (E+1) c5) (fun j=>if j=E then Y else pvs j) (fun j=>if j=E then vs else vss j)):=O (N.next qf.out (by rw[HQ.out];exact r.val) r.apt r.far G.out zh.out (by
      have e:fE n t E Y vs=sc:=by
       unfold fE;rw[HQ.out,ze.out,←vi.out,←x0.out,←zi.out,show 3-E=l2+1 by omega,show 2-E=l2 by omega]
      rw[e];exact xk) qg xh)
     have zj:Hid (∀i,(Value.slice sa E qd).ownBlock=some i->i≠b9/\i≠X/\i≠zn/\i≠qb):=O (fun i H=>by
      have h1:=vm.out i H;obtain⟨cur,hc⟩:=aJ zk.out H;exact⟨DW hc z.out (by decide),DW hc f.out (by decide),by have:=xu.2;have:=qo.size;omega,by have:=xu.1;have:=qo.size;omega⟩)
     have zu:=O (qg.blk (qf.blk z.out id) (fun e=>(zj _ e).1 rfl));have qm:=O (qg.blk (qf.blk f.out id) (fun e=>(zj _ e).2.1 rfl));have q1:=O (qg.blk (qf.blk zr.out id) (fun e=>(zj _ e).2.2.1 rfl));have q5:=O (qg.blk (qf.blk q3.out id) (fun e=>(zj _ e).2.2.2 rfl));have x6:=O (fun i (H:(Value.slice sa E qd).ownBlock=some i)=>show w.heap.size≤i from aW zk.out H);have q9:Hid (aA aB w w8):=O ((((qh.1.trans qo.out).trans xx.out).trans qf.out).tT qg (fun i H e=>by have:=x6.out i e;omega));have v6:=O (show M≤w8.heap.size from by have h1:=zy.out;have h2:=qo.size;have h3:=xx.size;have h4:=qf.size;have h5:=qg.size;omega);have zm:Hid (eZ w8 B M pv (.slice g5 (E+1) c5) (vs d) ((bB n t E).kid d).ptr):=O ⟨(((G d qz).keep0 qf.out).keepT qg (fun i H e=>(zh d qz).1 i e H)),tN (zh d qz).1 xh ((G d qz).keep0 qf.out),.inr (zh d qz).2⟩;have zg:=aF (v:=vs d) zm.val.pt.sum;have zb:=aL zm.val.pt;have za:=kD G.nv (by rw[x0.out];exact aD q1.out) qz;obtain⟨kc,qu⟩:=zX9 (aE (vs d) ((bB n t E).kid d).ptr)
     have x4:Hid (∀u∈kc,u.oneCell'=true):=O (by rw[←qu];exact zb);have v4:=O qu;rw[qu] at zg za;have xw:=O za;have ui:(0:Int)≤(d:Int):=by omega
     have uj:(d:Int)<4:=by omega
     have ud:w8.cell? ⟨qb,176,none⟩=some (.int .i64 (d:Int)):=aC (i:=176) q5.out (by
      rw[←vi.out,List.getElem?_toArray,List.getElem?_append_right (by omega),List.getElem?_append_right (by omega),L,qr];rfl)
     clear xk qg xh za zb qu N r F f z G zr q3 zk
     go_wp2_with ((with_reducible show WL _ _);first
      | refine ldP zn (1+d*35) kc xw.out zg ?_
      | refine sta 30 (.tmp 12) (.tmp 55) X 0 kc qm.out (by rw[List.size_toArray,L,zg];omega) (szP9 zg) x4.out ?_)
     intro w9 m hb;rw[aS _ _ (by rw[List.size_toArray,L,zg])] at hb;have xt:=xb.2;have qi:Hid (∀i,i=X->w.heap.size≤i/\i<M):=O (fun i e=>by rw[e];exact xt);have v8:=O (xf.keepT m (fun i H e=>by obtain⟨cur,hc⟩:=aJ xf.row H;exact DW hc qm.out (by decide) e) (fun i H e=>by have:=zl.out i H;have:=(qi i e).1;omega) (fun i H e=>by have:=(qi i e).2;omega));have x8:=O (zm.keepT m (fun i H e=>by have:=zl.out i H;have:=(qi i e).1;omega) (fun i H e=>by have:=(qi i e).2;omega));have xv:=O (And.intro (q9.tT m (fun i H e=>by have:=(qi i e).1;omega):aA aB w w9) (show M≤w9.heap.size from by have h1:=v6.out;have h2:=m.size;omega));have xo:=O (m.blk zu.out xz.out);have x2:Hid (bB n t (E+1)=(bB n t E).kid d):=O (by show (bB n t E).kid (n / 4 ^ (2-E) % 4)=_;rw[show 2-E=l2 by omega,zi.out]);have xa:Hid (w9.heap[X]?=some (.cells (aE (vs d) (bB n t (E+1)).ptr).toArray 30 (0,0))):=O (by rw[hb,x2.out,v4.out]);rw[←x2.out] at x8;clear m hb ud xf zm zu qm q1 q5 xw;go_wp2
     go_roundw
     case rel=>exact⟨l2,some ⟨g5,0,none⟩,E+1,c5,by omega,by first|rfl|go_num,rfl,xv,O ⟨_,_,v8.out⟩,O ⟨_,x8.out,xa.out⟩,xo⟩
     case measure=>simp[intOf]
theorem Tr.Ok.root{t:Tr}(h:Tr.Ok S 3 t):t.ptr.root=true:=by
 unfold Pt.root;cases t with
 | hole=>rw[show Tr.hole.ptr.hole=true from jC];rfl
 | leaf p b=>exact h.elim
 | node p k =>
   have d:p.may=true:=h.1.may;have f:p.level=3:=h.1.lev;show (p.hole || (p.may && decide (p.level=3)))=true;rw[d,f];simp
theorem Bh(h:KI w c S B)(pv:Value)(t:Tr)(f:Tr.Ok S 0 t)(d:PtV w pv t.ptr)(i:Nat):Calls prog 55 #[.pointer c,.agg (aE pv t.ptr).toArray] w (gH w (t.blk 0 i)):=by
 cases t with
 | hole=>exact Gk pv zPt d jC
 | leaf p b=>exact I5 h pv p d f.1
 | node p k=>exact f.elim
end
end Go.Proofs.YtoeinblfcbpcmaaGreat
