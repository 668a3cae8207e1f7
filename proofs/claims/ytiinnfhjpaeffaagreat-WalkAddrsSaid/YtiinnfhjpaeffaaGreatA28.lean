import Derived.Test.YtiinnfhjpaeffaaGreatA1
import Derived.Test.YtiinnfhjpaeffaaGreatA27
import Derived.Deep.DeepAppendRoom
namespace Go.Proofs.YtiinnfhjpaeffaaGreat
set_option maxHeartbeats 64000000
set_option maxRecDepth 100000
set_option linter.unusedVariables false
section
open Go.RowKit Go.Maps Go.ChangeMaps
variable{P:Program}{w w' w0 w1:World}{ops:Array Oper}{rest:List Oper}{o:Oper}{a:Act}{Q:Exit->Act->World->Prop}{A C:List Value}{vs:Nat->Value}{k lv g c l D Z:Nat}{v:Value}{T B:Nat->Prop}{bs:List UInt8}{S:Kor}
theorem Cd(w:World)(T e:TypeId)(len size i:Nat)(cs:Array Value)(k:IntKind)(d:TypeDesc)(p:P.underlying T=some (.array len e))(t:i<len)(j:P.underlying e=some d)(s:(match d with|.struct _|.array _ _=>true|_=>false)=true)(m:(P.info? e).map (·.size)=some size) :
 (Instr.index T (.agg cs) (.int k (i:Int))).run P w=.ok (.agg (cs.extract (i*size) (i*size+size))) w:=by
 cases f:P.info? e with
 | none=>simp[f] at m
 | some q =>
   have h:q.size=size:=by simpa [f] using m
   have b:(isAgg e).run P w=.ok true w:=by
    unfold isAgg;rw[Sem.run_bind,run_underlying j w];cases d<;>simp_all
   have n:(0:Int)≤(i:Int)/\(i:Int)<(len:Int):=by omega
   simp[Instr.index,asIntOf,run_underlying p,sizeOf,typeInfo,f,h,n,part,b,Sem.run_bind];intro r;omega
theorem idx(T e:TypeId)(len size i:Nat)(cs:Array Value)(k:IntKind)(d:TypeDesc)(x y:Operand)(r:P.underlying T=some (.array len e))(n:i<len)(b:P.underlying e=some d)(j:(match d with|.struct _|.array _ _=>true|_=>false)=true)(q:(P.info? e).map (·.size)=some size)
 (h:wpList P ops Q rest (a.put o.dst (.agg (cs.extract (i*size) (i*size+size)))) w) (s:a.eval x=.agg cs:=by rfl) (hy:a.eval y=.int k (i:Int):=by rfl) (m:o.guard=none:=by rfl) (p:o.op=.index T x y:=by rfl):wpList P ops Q (o::rest) a w:=by
 refine wpList_plain m fun K f=>?_
 unfold Oper.wp execOp;simp only[p,s,hy,Sem.run_bind,Cd w T e len size i cs k d r n b j q,Result.andThen_ok];exact f _ _ h
theorem xZ(h:A.length=35):(A++C).take 35=A:=by rw[←h,List.take_left]
theorem mP(h:A.length=35):(A++C).drop 35=C:=by rw[←h,List.drop_left]
def vH(vs:Nat->Value)(ps:Nat->Pt):List Value:=aE (vs 0) (ps 0)++(aE (vs 1) (ps 1)++(aE (vs 2) (ps 2)++aE (vs 3) (ps 3)))
theorem MS{ps:Nat->Pt}(b:dK w vs ps)(f:k<4):(vH vs ps).toArray.extract (k*35) (k*35+35)=(aE (vs k) (ps k)).toArray:=by
 have d:=aJ (v:=vs 0) (b 0 (by omega)).sum;have e:=aJ (v:=vs 1) (b 1 (by omega)).sum;have l2:=aJ (v:=vs 2) (b 2 (by omega)).sum;have l3:=aJ (v:=vs 3) (b 3 (by omega)).sum;rw[List.extract_toArray,List.extract_eq_take_drop,Nat.add_sub_cancel_left]
 congr 1
 unfold vH;rcases k with _|_|_|_|k
 ·exact xZ d
 ·rw[show (0+1)*35=35 from rfl,mP d];exact xZ e
 ·rw[show (0+1+1)*35=35+35 from rfl,←List.drop_drop,mP d,mP e];exact xZ l2
 ·rw[show (0+1+1+1)*35=35+(35+35) from rfl,←List.drop_drop,←List.drop_drop,mP d,mP e,mP l2,←l3,List.take_length]
 ·omega
theorem yA(y:o.guard=none)(s x:Operand)(t:TypeId)
 (J:o.op=.call { callee:=.builtin .append,args:=#[s,x],argTypes:=#[t,t] })
 (e:TypeId) (i:TypeInfo) (N:P.underlying t=some (.slice e)) (H:P.info? e=some i) (d:i.size=1)
 (g n cap:Nat) (cur:Array Value) (E:w.heap[g]?=some (.cells cur e (0,0))) (M:a.eval s=.slice g n cap)
 (r:Addr) (m c:Nat) (b:List Value) (R:a.eval x=.slice (some r) m c) (z:b.length=m) (p:∀j u,b[j]?=some u->w.cell? (r.add j)=some u) (F:∀u∈b,u.oneCell'=true)
 (q:n+m≤cap) (f:n+m≤cur.size)
 (h:∀w',w'.heap[g]?=some (.cells (spl cur n b) e (0,0))->aA (fun k=>k=g) w w'->wpList P ops Q rest (a.put o.dst (.slice g (n+m) cap)) w'):wpList P ops Q (o::rest) a w:=by
 have L:=run_append_room (P:=P) w t o.type e i N H g n cap cur E r m c b (by rw[d,Nat.mul_one];exact z) p F q (by rw[d,Nat.mul_one,z];exact f);refine wpList_plain y fun K G=>?_
 unfold Oper.wp execOp;simp only[J,resolve,invoke,builtin,Sem.run_bind,Sem.run_pure,Result.andThen_ok,List.map_toArray,List.map_cons,List.map_nil,M,R,L];refine G _ _ (h _ ?_ ⟨rfl,rfl,rfl,by simp,fun k _ I=>setRow_other w g k _ I⟩);rw[setRow_heap w g cur _ e _ E,←tR cur n b (by rw[z];exact f)];simp[d]
theorem Ou(w:World):(Instr.makeSlice 109 (.int .i64 1) (.int .i64 256)).run Tryz.prog w=.ok (.slice (w.heap.size) 1 256) (w.alloc (.cells dH.toArray 5)):=by kernel_rfl
theorem mks(x y:Operand)(h:∀b w',w.heap.size=b->aA aB w w'->w'.heap[b]?=some (.cells dH.toArray 5 (0,0))->wpList Tryz.prog ops Q rest (a.put o.dst (.slice (some ⟨b,0,none⟩) 1 256)) w')(i:a.eval x=.int .i64 1:=by rfl)(hy:a.eval y=.int .i64 256:=by rfl)(e:o.guard=none:=by rfl)(f:o.op=.makeSlice 109 x y:=by rfl):wpList Tryz.prog ops Q (o::rest) a w:=by
 refine wpList_plain e fun K d=>?_
 unfold Oper.wp execOp;simp only[f,i,hy,Sem.run_bind,Ou,Result.andThen_ok];exact d _ _ (h _ _ rfl ((aA.refl _ _).alloc _) (heap_alloc_new _ _))
theorem NT(w:World):(Instr.makeSlice 109 (.int .i64 256) (.int .i64 256)).run Tryz.prog w=.ok (.slice (w.heap.size) 256 256) (w.alloc (.cells dH.toArray 5)):=by kernel_rfl
theorem mkz(x y:Operand)(h:∀b w',w.heap.size=b->aA aB w w'->w'.heap[b]?=some (.cells dH.toArray 5 (0,0))->wpList Tryz.prog ops Q rest (a.put o.dst (.slice (some ⟨b,0,none⟩) 256 256)) w')(i:a.eval x=.int .i64 256:=by rfl)(hy:a.eval y=.int .i64 256:=by rfl)(e:o.guard=none:=by rfl)(f:o.op=.makeSlice 109 x y:=by rfl):wpList Tryz.prog ops Q (o::rest) a w:=by
 refine wpList_plain e fun K d=>?_
 unfold Oper.wp execOp;simp only[f,i,hy,Sem.run_bind,NT,Result.andThen_ok];exact d _ _ (h _ _ rfl ((aA.refl _ _).alloc _) (heap_alloc_new _ _))
def mQ(lv:Nat)(ps:Nat->Pt)(k:Nat):List UInt8:=UInt8.ofNat lv::(List.range k).flatMap fun j=>ptB (ps j)
theorem Bz(lv:Nat)(ps:Nat->Pt)(k:Nat):mQ lv ps (k+1)=mQ lv ps k++ptB (ps k):=by unfold mQ;rw[List.range_succ,List.flatMap_append,List.flatMap_cons,List.flatMap_nil,List.append_nil];rfl
theorem sY(lv:Nat)(ps:Nat->Pt)(h:∀k,k<4->(ptB (ps k)).length=47):∀k,k≤4->(mQ lv ps k).length=1+k*47
 | 0,_=>rfl
 | k+1,b=>by rw[Bz,List.length_append,sY lv ps h k (by omega),h k (by omega)];omega
def pX(lv:Nat)(ps:Nat->Pt)(k:Nat):List Value:=(mQ lv ps k).map vb++List.replicate (255-k*47) (.int .u8 0)
theorem yB(lv:Nat)(ps:Nat->Pt)(h:∀k,k<4->(ptB (ps k)).length=47)(k:Nat)(b:k≤4):(pX lv ps k).length=256:=by
 unfold pX;rw[List.length_append,List.length_map,sY lv ps h k b,List.length_replicate];omega
theorem Jl(lv:Nat)(ps:Nat->Pt)(h:∀k,k<4->(ptB (ps k)).length=47)(k:Nat)(e:k<4):spl (pX lv ps k).toArray (1+k*47) ((ptB (ps k)).map vb)=(pX lv ps (k+1)).toArray:=by
 have b:=sY lv ps h k (by omega);have h7:=h k e;rw[←tR _ _ _ (by rw[List.size_toArray,yB lv ps h k (by omega),List.length_map,h7];omega)]
 congr 1
 unfold pX;rw[Bz,List.map_append,List.append_assoc];have d:(mQ lv ps k).map vb=((mQ lv ps k).map vb++List.replicate (255-k*47) (Value.int .u8 0)).take (1+k*47):=by rw[List.take_left' (by rw[List.length_map,b])]
 simp only[];rw[←d,List.length_map,h7]
 congr 2
 rw[←List.drop_drop,List.drop_left' (by rw[List.length_map,b]),List.drop_replicate]
 congr 1
 omega
theorem Ov:(Tryz.prog.info? 96).map (·.size)=some 140:=by kernel_rfl
theorem Jm(lv:Nat)(b:lv<256)(ps:Nat->Pt):spl dH.toArray 0 [.int .u8 (lv:Int)]=(pX lv ps 0).toArray:=by
 rw[←tR _ _ _ (by simp[lR])]
 congr 1
 unfold pX mQ;rw[List.map_cons,LY b];rfl
def vI(w:World)(lv:Nat)(ps:Nat->Pt)(e:Ending)(w':World):Prop:=
 ∃v,e=.returned (.tuple #[v,.int .i64 0])/\w'.ownsRow w.heap.size 5 1 v 256 (pX lv ps 4)/\aA aB w w'
theorem MT{ps:Nat->Pt}{lv:Int}(h:dK w vs ps)(d:∀k,k<4->AL lv (ps k)):∀k,k<4->(ptB (ps k)).length=47:=fun k b=>by
 have e:(ps k).may=true:=(d k b).elim jM fun h=>h.2.1
 unfold ptB;rw[if_pos e,eT (h k b).sum]
theorem mS{base b:Nat}{cs:List Value}(f:w.heap[b]?=some (.cells cs.toArray 5 (0,0)))(e:cs.length=256)(d:base≤b):w.ownsRow base 5 1 (.slice b 256 256) 256 cs:=by
 refine⟨by simp[e],.inr ⟨b,256,cs.toArray,rfl,d,f,Nat.le_refl _,by unfold maxLen;omega,by simp[e],?_⟩⟩;rw[List.toList_toArray,←e];simp
theorem BB(w:World)(lv:Nat)(vs:Nat->Value)(ps:Nat->Pt)(h:dK w vs ps)(R:1≤lv)(h3:lv≤3)(hf:∀k,k<4->AL (lv:Int) (ps k)):Calls Tryz.prog 113 #[.agg (cH (lv:Int) vs ps).toArray] w (vI w lv ps):=by
 have N:=eE (lv:Int) vs h
 have htc:(vH vs ps).length=140:=by
  have:=N;unfold cH at this;rw[List.length_cons] at this;unfold vH;omega
 obtain⟨tc,y⟩:∃l,vH vs ps=l:=⟨_,rfl⟩
 obtain⟨nc,p⟩:∃l,cH (lv:Int) vs ps=l:=⟨_,rfl⟩
 have Y:Hid (nc=.int .i64 (lv:Int)::tc):=O (by rw[←p,←y];rfl);have HTC:=O y;have HON:Hid (∀u∈nc,u.oneCell'=true):=O (by rw[←p];exact dQ (lv:Int) h);have HNS:=O p;have G:=O (MT h hf);rw[p] at N ⊢;rw[y] at htc;have f:=O h;have HF:=O hf;have h10:0≤(lv:Int):=by omega
 have h13:(lv:Int)≤3:=by omega
 have d:=lN w;clear h p hf y;have m:=f;go_in
 go_wp2_with ((with_reducible show WL _ _);refine bxL d 98 (.tmp 0) (nc.toArray) ?_)
 intro b1 w1 b d;replace f:=O (dK.keep f.out b);clear b
 go_wp2_with ((with_reducible show WL _ _);refine wpList_load_mid rfl 98 (.tmp 1) rfl b1 0 rfl nc _ (aD (d.b 0)) Tryz.underlying98 rfl (by rw[N];exact dN) ?_)
 refine((by rw[←HNS.out];exact GL w1 (lv:Int) vs ps f.out (by omega) (by omega) HF.out:Calls _ _ _ w1 (aN w1 (.int .i64 0)))).mono ?_;rintro e w2 ⟨rfl,b⟩;replace d:=kL d b;replace f:=O (dK.keep f.out b);clear b
 go_wp2_with ((with_reducible show WL _ _);refine mks (.const (.int .i64 1)) (.const (.int .i64 256)) ?_)
 intro E w3 F b t;replace d:=lW d F b t;replace f:=O (dK.keep f.out b);clear F b t;have c1:w3.cell? ⟨b1,0,none⟩=some (.int .i64 (lv:Int)):=(aC (i:=0) (d.b 1) (by rw[Y.out];rfl))
 go_wp2_with ((with_reducible show WL _ _);refine sta 5 (.tmp 20) (.tmp 19) E 0 ([.int .u8 (lv:Int)]) (d.b 0) (by simp[lR]) (by kernel_rfl) (one9) ?_)
 clear c1;intro w4 b t;rw[Jm lv (by omega) ps] at t;replace d:=O (d.set 0 b t);replace f:=O (dK.keep m.out d.keep);clear b t
 go_wp2_with ((with_reducible show WL _ _);refine wpList_load_mid rfl 96 (.tmp 21) rfl b1 1 rfl tc _ (by have h:=aD (d.b 1);rw[Y.out] at h;exact zR h) Tryz.underlying96 rfl (by rw[htc];exact Ov) ?_)
 have HB:=O (d.b 1);have H:=O (d.b 0);have W:=O (d.lt 0);have HNE:Hid (b1≠E):=O (fun e=>by have R:=HB.out;rw[e,H.out] at R;injection R with R;injection R with R h2;revert h2;decide);have HK0:=O d.keep
 obtain⟨iu,hiu,hsu⟩:∃i,Tryz.prog.info? 5=some i/\i.size=1:=by
  cases hq:Tryz.prog.info? 5 with
  | none=>have:=yO;rw[hq] at this;cases this
  | some i=>exact⟨i,rfl,by have:=yO;rw[hq] at this;simpa using this⟩
 have HIU:=O hiu;have HSU:=O hsu;clear d f hiu hsu
 go_loopw [5,23] (fun s i wr=>∃k:Nat,k≤4/\s=.slice E (1+k*47) 256/\i=.int .i64 k/\Hid (aA aB w wr)/\Hid (wr.heap[E]?=some (.cells (pX lv ps k).toArray 5 (0,0)))) (fun _ i _=>4-(intOf i).toNat)
 case atStart=>exact⟨0,by omega,rfl,rfl,HK0,H⟩
 case round =>
  obtain⟨k,b,rfl,rfl,HK,q⟩:=hrel
  by_cases n:k<4
  ·have z:=O (dK.keep m.out HK.out)
   have r:=aJ (v:=vs k) (m.out k n).sum;have J:=O (MS m.out n);rw[HTC.out] at J;have HMY:Hid ((ps k).may=true):=O ((HF.out k n).elim jM fun h=>h.2.1);have K:=O (G.out k n);obtain⟨pk,x⟩:∃l,aE (vs k) (ps k)=l:=⟨_,rfl⟩
   have HOK:Hid (∀u∈pk,u.oneCell'=true):=O (by rw[←x];exact aT (m.out k n));have HPK:=O x;rw[x] at r J;have d:=lN wr;have M:(0:Int)≤(k:Int):=by omega
   have hk1:(k:Int)<4:=by omega
   clear x
   go_wp2_with ((with_reducible show WL _ _);first
    | refine idx 96 27 4 35 k _ .i64 _ (.tmp 22) (.tmp 23) Tryz.underlying96 n aH rfl zC ?_;rw[J.out]
    | refine al 27 (.agg aI.toArray) (aI.toArray) bK ?_)
   intro b7 w5 F M I
   go_wp2_with ((with_reducible show WL _ _);refine sta 27 (.tmp 7) (.tmp 25) b7 0 pk I (by first|decide|(rw[List.size_toArray,r];exact Nat.le_refl _)|simp[r]) (szP9 r) HOK.out ?_)
   intro w6 b t;rw[aK _ _ (by first|rfl|(rw[List.size_toArray,r];rfl)|simp[r])] at t;replace b:=tX M b (fun i hi e=>by omega);replace d:=lW d F b t;replace z:=O (dK.keep z.out b);replace q:=O (b.blk q.out id);clear F b t M I
   go_wp2_with ((with_reducible show WL _ _);refine wpList_load_mid rfl 27 (.tmp 7) rfl b7 0 rfl pk _ (aD (d.b 0)) aH rfl (szP9 r) ?_)
   refine((by rw[←HPK.out];exact uM w6 (vs k) (ps k) (z.out k n):Calls _ _ _ w6 (Bm w6 (ps k)))).mono ?_;rintro e w7 ⟨v1,rfl,ho,b⟩;rw[if_pos HMY.out];rw[K.out] at ho;obtain⟨pa,pc,rfl,-,-⟩:=(Rd.of_owns ho).form;have HO:=O ho;clear ho;replace d:=kL d b;replace z:=O (dK.keep z.out b);replace q:=O (b.blk q.out id);clear b
   obtain⟨pg,po,pcap,hpv,hpc⟩:∃g o L,Value.slice pa 47 pc=.slice (some ⟨g,o,none⟩) 47 L/\∀j u,((ptB (ps k)).map vb)[j]?=some u->w7.cell? ⟨g,o+j,none⟩=some u:=by
    obtain⟨_,a',L,he,-,-,-,h4⟩:=Rd.of_owns HO.out;obtain⟨g,o,rfl,hc⟩:=h4 (by rw[List.length_map,K.out];decide);exact⟨g,o,L,he,hc⟩
   injection hpv with e1 e2 e3
   subst e1;subst e3;have V:=O hpc;clear hpc e2;have U:=q;have X:=O d.keep
   go_wp2_with (first
    | (at_builtin;refine yA rfl (.tmp 31) (.tmp 32) 109 rfl 5 iu Tryz.underlying109 HIU.out HSU.out E (1+k*47) 256 _ U.out rfl ⟨pg,po,none⟩ 47 pc ((ptB (ps k)).map vb) rfl (by rw[List.length_map,K.out]) (fun j u hj=>by rw[iD];exact V.out j u hj) (bS _) (by omega) (by rw[List.size_toArray,yB lv ps G.out k (by omega)];omega) ?_))
   intro w9 t b;rw[Jl lv ps G.out k n] at t;have HK8:Hid (aA aB w w9):=O ((HK.trans X.out).trans' b (fun _ _ h=>h) (fun i hi e=>by have:=W.1;omega));have HB8:=O t;clear t b d z q HO V U X;go_wp2
   go_roundw
   case rel=>exact⟨k+1,by omega,(by rw[show 1+(k+1)*47=1+k*47+47 by omega]),by go_num,HK8,HB8⟩
   case measure=>simp[intOf];omega
  ·obtain rfl:k=4:=by omega
   go_wp2
   go_ret2
   exact⟨_,rfl,mS q.out (yB lv ps G.out 4 (by omega)) W.1,HK.out⟩
def nb(lv:Nat)(ps:Nat->Pt):List UInt8:=mQ lv ps 4++List.replicate 67 0
theorem Jp(lv:Nat)(ps:Nat->Pt):(nb lv ps).map vb=pX lv ps 4:=by unfold nb pX;rw[List.map_append,List.map_replicate];rfl
theorem NU(lv:Nat)(ps:Nat->Pt)(h:∀k,k<4->(ptB (ps k)).length=47):(nb lv ps).length=256:=by
 unfold nb;rw[List.length_append,sY lv ps h 4 (by omega),List.length_replicate]
def gY{α:Type}(f:Nat->α)(k:Nat)(v:α):Nat->α:=fun j=>if j=k then v else f j
theorem rS{α:Type}(f:Nat->α)(k:Nat)(v:α):gY f k v k=v:=if_pos rfl
theorem rT{α:Type}(f:Nat->α){j:Nat}(v:α)(h:j≠k):gY f k v j=f j:=if_neg h
theorem lI(P A B R:List Value)(h:B.length=A.length):spl (P++(A++R)).toArray P.length B=(P++(B++R)).toArray:=by
 rw[←tR _ _ _ (by simp;omega)]
 congr 1
 rw[List.toList_toArray,List.take_left,←List.drop_drop,List.drop_left,h,List.drop_left]
theorem NV{ps:Nat->Pt}(b:dK w vs ps)(lv:Int)(j:k<4){p:Pt}(i:p.sum.length=32):spl (cH lv vs ps).toArray (1+k*35) (aE v p)=(cH lv (gY vs k v) (gY ps k p)).toArray:=by
 have d:=aJ (v:=vs 0) (b 0 (by omega)).sum;have f:=aJ (v:=vs 1) (b 1 (by omega)).sum;have l2:=aJ (v:=vs 2) (b 2 (by omega)).sum;have l3:=aJ (v:=vs 3) (b 3 (by omega)).sum;have e:=aJ (v:=v) i;rcases k with _|_|_|_|k
 ·exact lI [.int .i64 lv] (aE (vs 0) (ps 0)) (aE v p) (aE (vs 1) (ps 1)++(aE (vs 2) (ps 2)++aE (vs 3) (ps 3))) (by rw[e,d])
 ·have h:=lI (.int .i64 lv::aE (vs 0) (ps 0)) (aE (vs 1) (ps 1)) (aE v p) (aE (vs 2) (ps 2)++aE (vs 3) (ps 3)) (by rw[e,f])
  rw[List.length_cons,d] at h;exact h
 ·have h:=lI (.int .i64 lv::(aE (vs 0) (ps 0)++aE (vs 1) (ps 1))) (aE (vs 2) (ps 2)) (aE v p) (aE (vs 3) (ps 3)) (by rw[e,l2])
  rw[List.length_cons,List.length_append,d,f,List.cons_append,List.cons_append,List.append_assoc,List.append_assoc] at h;exact h
 ·have h:=lI (.int .i64 lv::(aE (vs 0) (ps 0)++(aE (vs 1) (ps 1)++aE (vs 2) (ps 2)))) (aE (vs 3) (ps 3)) (aE v p) [] (by rw[e,l3])
  rw[List.length_cons,List.length_append,List.length_append,d,f,l2,List.cons_append,List.cons_append,List.append_assoc,List.append_assoc,List.append_assoc,List.append_assoc,List.append_nil,List.append_nil] at h;exact h
 ·omega
def sZ(ps:Nat->Pt)(k:Nat):Nat->Pt:=fun j=>if j<k then ps j else zPt
theorem BC(ps:Nat->Pt)(k:Nat):sZ ps (k+1)=gY (sZ ps k) k (ps k):=by
 funext j
 unfold sZ gY
 by_cases e:j=k
 ·subst e;rw[if_pos (by omega),if_pos rfl]
 ·rw[if_neg e]
  show _=if j<k then ps j else zPt
  by_cases h:j<k
  ·rw[if_pos h,if_pos (by omega)]
  ·rw[if_neg h,if_neg (by omega)]
def IsC(w:World)(k:Nat):Prop:=∃b t,w.heap[k]?=some (.cells b t (0,0))
theorem IsC.lt(h:IsC w k):k<w.heap.size:=by obtain⟨b,t,h⟩:=h;exact lt_of_block h
theorem IsC.keep(h:IsC w k)(e:aA T w w')(d:¬T k):IsC w' k:=by obtain⟨b,t,h⟩:=h;exact⟨b,t,e.blk h d⟩
def rD(w0 w:World)(v:Value):Prop:=∀i,v.ownBlock=some i->w0.heap.size≤i/\IsC w i
theorem rD.keep(h:rD w0 w v)(k:aA T w w')(d:∀i,v.ownBlock=some i->¬T i):rD w0 w' v:=fun i b=>⟨(h i b).1,(h i b).2.keep k (d i b)⟩
def fJ(w0 w:World)(vs:Nat->Value)(ps:Nat->Pt):Prop:=∀k,k<4->PtV w (vs k) (ps k)/\rD w0 w (vs k)
theorem fJ.nv{ps:Nat->Pt}(h:fJ w0 w vs ps):dK w vs ps:=fun k b=>(h k b).1
theorem fJ.keep{ps:Nat->Pt}(h:fJ w0 w vs ps)(k:aA T w w')(f:∀i,T i->¬(w0.heap.size≤i/\∃j,j<4/\(vs j).ownBlock=some i)):fJ w0 w' vs ps:=fun i b =>
 ⟨(h i b).1.keep k fun j d e=>f j e ⟨((h i b).2 j d).1,i,b,d⟩,fun j d=>⟨((h i b).2 j d).1,((h i b).2 j d).2.keep k fun e=>f j e ⟨((h i b).2 j d).1,i,b,d⟩⟩⟩
theorem fJ.keep0{ps:Nat->Pt}(h:fJ w0 w vs ps)(k:aA aB w w'):fJ w0 w' vs ps:=h.keep k fun _ e=>e.elim
theorem tA(w:World):PtV w (.slice none 0 0) zPt:=⟨Rd.nil w 2,fun x b=>(by cases b),rfl⟩
theorem fJ.zero(w0 w:World):fJ w0 w (fun _=>.slice none 0 0) (fun _=>zPt):=fun _ _=>⟨tA w,fun i b=>by cases b⟩
theorem fJ.put{ps:Nat->Pt}(h:fJ w0 w vs ps){p:Pt}(f:PtV w v p)(d:rD w0 w v):fJ w0 w (gY vs k v) (gY ps k p):=fun i b=>by
 by_cases e:i=k
 ·subst e;rw[rS,rS];exact⟨f,d⟩
 ·rw[rT _ _ e,rT _ _ e];exact h i b
def wS(w:World)(lv:Nat)(ps:Nat->Pt)(e:Ending)(w':World):Prop:=
 ∃vs,e=.returned (.tuple #[.agg (cH (lv:Int) vs ps).toArray,.int .i64 0])/\fJ w w' vs ps/\aA aB w w'
theorem Li(lv:Int):Tryz.prog.built 98 [(0,.int .i64 lv)]=some (cH lv (fun _=>.slice none 0 0) (fun _=>zPt)).toArray:=by kernel_rfl
theorem AN(lv:Int)(w:World):(Instr.build 98 #[(0,.int .i64 lv)]).run Tryz.prog w=.ok (.agg (cH lv (fun _=>.slice none 0 0) (fun _=>zPt)).toArray) w:=run_build w 98 _ _ (Li lv)
theorem MV{o a n:Nat}{l:List UInt8}(p:∀j u,(l.map vb)[j]?=some u->w.cell? ⟨g,o+j,none⟩=some u)(r:(l.drop k).take 47=bs)(d:bs.length=47)(m:a=o+k)(q:n=47)(f:47≤c)(h:c≤maxLen):Rd w 1 (.slice (some ⟨g,a,none⟩) n c) bs.length (bs.map vb):=by
 subst m q;rw[d];refine⟨by rw[List.length_map,d],_,_,rfl,f,h,(fun e=>by cases e),fun _=>⟨g,_,rfl,fun i u b=>?_⟩⟩;rw[show o+k+i=o+(k+i) by omega];refine p _ _ ?_;rw[←r,List.getElem?_map,List.getElem?_take] at b;split at b
 ·rw[List.getElem?_drop] at b
  rw[List.getElem?_map];exact b
 ·cases b
theorem MW(lv:Nat)(ps:Nat->Pt)(h:∀k,k<4->(ptB (ps k)).length=47)(j:k<4):((nb lv ps).drop (1+k*47)).take 47=ptB (ps k):=by
 have e:mQ lv ps 4=UInt8.ofNat lv::(ptB (ps 0)++(ptB (ps 1)++(ptB (ps 2)++ptB (ps 3)))):=by
  unfold mQ;simp[List.range_succ]
 have b:=h 0 (by omega);have d:=h 1 (by omega);have l2:=h 2 (by omega);have l3:=h 3 (by omega);unfold nb;rw[e]
 have cut:∀(A B C:List UInt8) (n:Nat),A.length=n->B.length=47->((A++(B++C)).drop n).take 47=B:=fun A B C n f i=>by
  rw[←f,List.drop_left,←i,List.take_left]
 rcases k with _|_|_|_|k
 ·exact(congrArg (fun l=>(List.drop 1 l).take 47) (by simp[List.append_assoc])).trans (cut [UInt8.ofNat lv] (ptB (ps 0)) (ptB (ps 1)++(ptB (ps 2)++(ptB (ps 3)++List.replicate 67 0))) 1 rfl b)
 ·exact(congrArg (fun l=>(List.drop 48 l).take 47) (by simp[List.append_assoc])).trans (cut (UInt8.ofNat lv::ptB (ps 0)) (ptB (ps 1)) (ptB (ps 2)++(ptB (ps 3)++List.replicate 67 0)) 48 (by simp[b]) d)
 ·exact(congrArg (fun l=>(List.drop 95 l).take 47) (by simp[List.append_assoc])).trans (cut (UInt8.ofNat lv::(ptB (ps 0)++ptB (ps 1))) (ptB (ps 2)) (ptB (ps 3)++List.replicate 67 0) 95 (by simp[b,d]) l2)
 ·exact(congrArg (fun l=>(List.drop 142 l).take 47) (by simp[List.append_assoc])).trans (cut (UInt8.ofNat lv::(ptB (ps 0)++(ptB (ps 1)++ptB (ps 2)))) (ptB (ps 3)) (List.replicate 67 0) 142 (by simp[b,d,l2]) l3)
 ·omega
theorem Lj{p:Pt}(e:p.sum.length=32)(b:p.may=true):kU (ptB p)=true/\gG (ptB p)=p:=by
 have d:=Jo e b;have f:=eT e;unfold ptB;rw[if_pos b,d];unfold kU;rw[d,f,b];unfold ptB;rw[if_pos b];simp
theorem wT(w:World)(bv:Value)(lv:Nat)(ps:Nat->Pt)(h1:1≤lv)(h3:lv≤3)(hs:∀k,k<4->(ps k).sum.length=32)(hf:∀k,k<4->AL (lv:Int) (ps k))(hr:Rd w 1 bv 256 ((nb lv ps).map vb)):Calls Tryz.prog 75 #[bv] w (wS w lv ps):=by
 have hmy:∀k,k<4->(ps k).may=true:=fun k b=>(hf k b).elim jM fun h=>h.2.1
 have h47:∀k,k<4->(ptB (ps k)).length=47:=fun k b=>by unfold ptB;rw[if_pos (hmy k b),eT (hs k b)]
 have HNL:=O (NU lv ps h47);obtain⟨_,oa,ca,rfl,hca,hcm,-,hce⟩:=id hr;obtain⟨g,o,rfl,hcc⟩:=hce (by rw[List.length_map,HNL.out];decide);unfold maxLen at hcm;have HC:=O hcc;have HCM:=O (show ca≤maxLen from hcm);have HR:=O hr;have HR0:=HR;have hc0:w.cell? ⟨g,o,none⟩=some (.int .u8 (lv:Int))  :=hcc 0 _ (by unfold nb mQ;rw[List.cons_append,List.map_cons,LY (by omega)];rfl);have G:=O hc0;have HMY:=O hmy;have K:=O hs;have HF:=O hf;have H47:=O h47;have H:(cH (lv:Int) (fun _=>.slice none 0 0) (fun _=>zPt)).length=141:=rfl;have HOZ0:Hid (∀u∈cH (lv:Int) (fun _=>.slice none 0 0) (fun _=>zPt),u.oneCell'=true):=O (dQ (w:=w) (lv:Int) fun _ _=>tA w);have hbn:=AN (lv:Int);obtain⟨nz,E⟩:∃l,cH (lv:Int) (fun _=>.slice none 0 0) (fun _=>zPt)=l:=⟨_,rfl⟩
 have HOZ:Hid (∀u∈nz,u.oneCell'=true):=O (by rw[←E];exact HOZ0.out);have HNZ:=O E;rw[E] at H hbn;have HBN:=O hbn;have h10:0≤(lv:Int):=by omega
 have h13:(lv:Int)≤3:=by omega
 have d:=lN w;clear hr hce hcc hc0 hmy hs hf h47 E hbn HOZ0;go_in
 go_wp2_with ((with_reducible show WL _ _);refine alL d 98 (.agg dI.toArray) (dI.toArray) jO ?_)
 intro b2 w1 b d;replace G:=O (b.cell G.out id);replace HR:=O (HR.keep b fun _ _=>id);clear b;have c1:w1.cell? ⟨g,o,none⟩=some (.int .u8 (lv:Int)):=G.out
 go_wp2_with ((with_reducible show WL _ _);first
  | refine bld 98 #[(0,.tmp 17)] [(0,.int .i64 (lv:Int))] (.agg nz.toArray) HBN.out ?_
  | refine al 98 (.agg dI.toArray) (dI.toArray) jO ?_)
 clear c1;intro N w2 hbs hk0 hb0_
 go_wp2_with ((with_reducible show WL _ _);refine sta 98 (.tmp 4) (.tmp 18) N 0 nz hb0_ (by first|decide|(rw[List.size_toArray,H];exact Nat.le_refl _)|simp[H,bX]) (by rw[H];exact dN) HOZ.out ?_)
 intro w3 b s;rw[aK _ _ (by first|rfl|(rw[List.size_toArray,H];rfl)|simp[H,bX])] at s;replace b:=tX hk0 b (fun i V e=>by omega);replace d:=lW d hbs b s;replace G:=O (b.cell G.out id);replace HR:=O (HR.keep b fun _ _=>id);clear hbs b s hk0 hb0_;go_wp2_with fail;have n:=O (d.b 1);have m:=O (d.b 0);have HGE:=O (And.intro (d.lt 1).1 (d.lt 0).1);have HNE:Hid (b2≠N):=O (fun e=>bJ (i:=0) d.nd rfl 1 (by decide) rfl e);have HK0:=O d.keep;clear d HR G
 go_loopw [19] (fun i wr=>∃k:Nat,k≤4/\i=.int .i64 k/\Hid (aA aB w wr)/\Hid (∃vs,fJ w wr vs (sZ ps k)/\(∀j,j<4->(vs j).ownBlock≠some b2/\(vs j).ownBlock≠some N)/\wr.heap[N]?=some (.cells (cH (lv:Int) vs (sZ ps k)).toArray 98 (0,0)))/\Hid (wr.heap[b2]?=some (.cells dI.toArray 98 (0,0)))) (fun i _=>4-(intOf i).toNat)
 case atStart=>exact⟨0,by omega,rfl,HK0,O ⟨_,fJ.zero w _,fun j L=>⟨(by intro e;cases e),(by intro e;cases e)⟩,by rw[m.out,←HNZ.out];rfl⟩,n⟩
 case round =>
  obtain⟨k,b,rfl,HK,HQ,n⟩:=hrel;obtain⟨vs,hnn_,hvo,hb4⟩:=HQ.out;have f:=O hnn_;have HVO:=O hvo;have m:=O hb4;clear hnn_ hvo hb4 HQ
  by_cases t:k<4
  ·have HCW:=O (fun j u h=>HK.cell (HC.out j u h) id)
   have R:=O (Lj (K.out k t) (HMY.out k t));have HL7:=O (H47.out k t);have r:=aJ (v:=.slice none 0 0) (K.out k t);have d:=lN wr;have HWS:=O HK.size;have hk0:(0:Int)≤(k:Int):=by omega
   have hk1:(k:Int)<4:=by omega
   have hca2:(256:Int)≤(ca:Int):=by omega
   clear r;go_wp2_with fail;refine(KD wr _ (ptB (ps k)) (MV (o:=o) (fun j u h=>d.keep.cell (HCW.out j u h) id) (MW lv ps H47.out t) HL7.out (by omega) (by omega) (by omega) (by unfold maxLen;omega)) R.1).mono ?_;rintro e w4 ⟨b,hm⟩;rw[R.1,if_pos rfl,R.2] at hm;obtain⟨v1,rfl,M⟩:=hm;have q:=O (show PtV w4 v1 (ps k) from⟨Rd.of_owns M,(by rw[←R.2];exact Dc _ _),K.out k t⟩);have p:Hid (rD w w4 v1):=O (fun i V=>⟨by have:=aU M V;have:=d.keep.size;have:=HWS.out;omega,by obtain⟨cur,hc⟩:=aO M V;exact⟨_,_,hc⟩⟩);have y:Hid (v1.ownBlock≠some b2/\v1.ownBlock≠some N):=O ⟨fun e=>by have:=aU M e;have:=lt_of_block n.out;omega,fun e=>by have:=aU M e;have:=lt_of_block m.out;omega⟩;have r:=aJ (v:=v1) (K.out k t);obtain⟨pk,F⟩:∃l,aE v1 (ps k)=l:=⟨_,rfl⟩
   have HOK:Hid (∀u∈pk,u.oneCell'=true):=O (by rw[←F];exact aT q.out);have HPK:=O F;rw[F] at r ⊢;clear F M;replace d:=kL d b;replace f:=O (f.keep0 b);replace m:=O (b.blk m.out id);replace n:=O (b.blk n.out id);clear b;have HKR:=O d.keep;replace d:=O (Loc.nil aB aB w4);have HNN0:=f;have Y:=m;have W:=n;have HPT0:=q;have J:=p
   go_wp2_with ((with_reducible show WL _ _);refine alL d 27 (.agg aI.toArray) (aI.toArray) bK ?_)
   intro b6 w5 b d;replace f:=O (f.keep0 b);replace m:=O (b.blk m.out id);replace n:=O (b.blk n.out id);replace q:=O (q.keep b fun _ _=>id);replace p:=O (rD.keep p.out b fun _ _=>id);clear b
   go_wp2_with ((with_reducible show WL _ _);refine alL d 182 (.agg #[.int .i64 0,.int .i64 0]) (#[.int .i64 0,.int .i64 0]) (O Fi) ?_)
   intro b7 w6 b d;replace f:=O (f.keep0 b);replace m:=O (b.blk m.out id);replace n:=O (b.blk n.out id);replace q:=O (q.keep b fun _ _=>id);replace p:=O (rD.keep p.out b fun _ _=>id);clear b
   go_wp2_with ((with_reducible show WL _ _);refine sta 27 (.tmp 6) (.tmp 33) b6 0 pk (d.b 1) (by first|decide|(rw[r];exact Nat.le_refl _)|simp[r,aG]) (szP9 r) HOK.out ?_)
   intro w7 b s;rw[aK _ _ (by first|rfl|simp[r,aG])] at s;replace d:=O (d.set 1 b s);replace f:=O (HNN0.keep0 d.keep);replace m:=O (d.keep.blk Y.out id);replace n:=O (d.keep.blk W.out id);replace q:=O (HPT0.keep d.keep fun _ _=>id);replace p:=O (rD.keep J.out d.keep fun _ _=>id);clear b s
   go_wp2_with ((with_reducible show WL _ _);refine sta 182 (.tmp 7) (.tmp 34) b7 0 ([.int .i64 0,.int .i64 0]) (d.b 0) (by first|decide|(rw[rfl];exact Nat.le_refl _)|simp[]) (by kernel_rfl) (by intro v hv;simp only[List.mem_cons,List.not_mem_nil,or_false] at hv;rcases hv with rfl|rfl<;>rfl) ?_)
   intro w8 b s;rw[aK _ _ (by first|rfl|simp[])] at s;replace d:=O (d.set 0 b s);replace f:=O (HNN0.keep0 d.keep);replace m:=O (d.keep.blk Y.out id);replace n:=O (d.keep.blk W.out id);replace q:=O (HPT0.keep d.keep fun _ _=>id);replace p:=O (rD.keep J.out d.keep fun _ _=>id);clear b s;have HB4b:=m;have c1:w8.cell? ⟨b7,0,none⟩=some (.int .i64 0):=(aC (i:=0) (d.b 0) rfl)
   go_wp2_with ((with_reducible show WL _ _);first
    | refine wpList_load_mid rfl 27 (.tmp 6) rfl b6 0 rfl pk _ (aD (d.b 1)) aH rfl (szP9 r) ?_
    | refine sta 27 (.tmp 42) (.tmp 40) N (1+k*35) pk HB4b.out (by rw[List.size_toArray,eE (lv:Int) vs f.nv,r];omega) (szP9 r) HOK.out ?_)
   clear c1;intro w9 b s;rw[←HPK.out,NV f.nv (lv:Int) t (K.out k t),←BC] at s;have HK8:Hid (aA aB w w9):=O (((HK.trans HKR.out).trans d.keep).trans' b (fun _ _ h=>h) (fun i V e=>by have:=HGE.2;omega));have HB8:Hid (w9.heap[b2]?=some (.cells dI.toArray 98 (0,0))):=O (b.blk n.out HNE.out)
   have HQ8:Hid (∃vs,fJ w w9 vs (sZ ps (k+1))/\(∀j,j<4->(vs j).ownBlock≠some b2/\(vs j).ownBlock≠some N)/\w9.heap[N]?=some (.cells (cH (lv:Int) vs (sZ ps (k+1))).toArray 98 (0,0))):=O ⟨gY vs k v1,by
    rw[BC];refine fJ.put (f.keep b ?_) (q.keep b fun i V e=>y.2 (e▸V)) (p.keep b fun i V e=>y.2 (e▸V));rintro i rfl ⟨-,j,L,e⟩;exact(HVO.out j L).2 e,fun j L=>by
    by_cases e:j=k
    ·subst e;rw[rS];exact y.out
    ·rw[rT _ _ e];exact HVO.out j L,s⟩
   clear s b d f m n q p HB4b y;go_wp2
   go_roundw
   case rel=>exact⟨k+1,by omega,by go_num,HK8,HQ8,HB8⟩
   case measure=>simp[intOf];omega
  ·obtain rfl:k=4:=by omega
   have I:∀j,j<4->sZ ps 4 j=ps j:=fun j L=>if_pos L
   have hnde:cH (lv:Int) vs (sZ ps 4)=cH (lv:Int) vs ps:=by unfold cH;rw[I 0 (by omega),I 1 (by omega),I 2 (by omega),I 3 (by omega)]
   replace f:Hid (fJ w wr vs ps):=O (fun j L=>by have:=f.out j L;rw[I j L] at this;exact this);rw[hnde] at m;have x:=eE (lv:Int) vs f.nv;have d:=lN wr;obtain⟨nn,z⟩:∃l,cH (lv:Int) vs ps=l:=⟨_,rfl⟩
   have HOF:Hid (∀u∈nn,u.oneCell'=true):=O (by rw[←z];exact dQ (lv:Int) f.nv);have HNF:=O z;rw[z] at x m;have U:=O (HR0.keep HK.out fun _ _=>id);clear I hnde z
   go_wp2_with ((with_reducible show WL _ _);refine wpList_load_mid rfl 98 (.tmp 4) rfl N 0 rfl nn _ (aD m.out) Tryz.underlying98 rfl (by rw[x];exact dN) ?_)
   refine((by rw[←HNF.out];exact BB wr lv vs ps f.nv (by omega) (by omega) HF.out:Calls _ _ _ wr (vI wr lv ps))).mono ?_;rintro e wb ⟨v2,rfl,M,b⟩;obtain⟨qa,qc,rfl,-,-⟩:=(Rd.of_owns M).form;rw[←Jp] at M;have HO:=O M;clear M;replace d:=kL d b;replace f:=O (f.keep0 b);replace m:=O (b.blk m.out id);replace n:=O (b.blk n.out id);replace U:=O (U.keep b fun _ _=>id);clear b;go_wp2_with fail;refine(mL wb _ _ (nb lv ps) (nb lv ps) (by rw[HNL.out];exact Rd.of_owns HO.out) (by rw[HNL.out];exact U.out) true (decide_eq_true rfl)).mono ?_;rintro e wc ⟨rfl,rfl⟩;have X:=n
   go_wp2_with ((with_reducible show WL _ _);first
    | refine wpList_load_mid rfl 98 (.tmp 4) rfl N 0 rfl nn _ (aD m.out) Tryz.underlying98 rfl (by rw[x];exact dN) ?_
    | refine sta 98 (.tmp 2) (.tmp 58) b2 0 nn X.out (by rw[List.size_toArray,bX,x];omega) (by rw[x];exact dN) HOF.out ?_)
   intro w9 b s;rw[aK _ _ (by rw[List.size_toArray,bX,x])] at s;have HP:Hid (wS w lv ps (.returned (.tuple #[.agg nn.toArray,.int .i64 0])) w9):=O ⟨vs,by rw[HNF.out],f.keep b (by rintro i rfl ⟨-,j,L,e⟩;exact(HVO.out j L).1 e),(HK.trans d.keep).trans' b (fun _ _ h=>h) (fun i V e=>by have:=HGE.1;omega)⟩;have HB9:=O s;clear s b d f m n X U HO;go_wp2_with fail;refine bodyPost_ret (bN rfl _ _ b2 _ _ _ _ rfl HB9.out Tryz.underlying98 rfl (by rw[List.size_toArray,x];exact dN)) rfl ?_;exact HP.out
def KI(w:World)(c:Nat)(S:Kor)(B:Nat->Prop):Prop:=
 S.Bd/\∃a m lb g e f b d h t,t.u.txg=S.txg/\gS w c a m lb g e f b S.cp t d S.D S.Z S.M h S.L/\B=fun k=>k=c\/k=m\/k=lb\/d k\/Own g e f S.D k\/t.Own k
theorem KI.bd(h:KI w c S B):S.Bd:=h.1
theorem KI.keepT(h:KI w c S B)(k:aA T w w')(p:∀i,T i->¬B i):KI w' c S B:=by
 obtain⟨q,a,m,lb,g,j,r,d,f,s,t,b,n,rfl⟩:=h;refine⟨q,a,m,lb,g,j,r,d,f,s,t,b,n.keepT k (fun i e=>?_),rfl⟩;have:=p i e;exact⟨fun e=>this (.inl e),fun e=>this (.inr (.inl e)),fun e=>this (.inr (.inr (.inl e))),fun e=>this (.inr (.inr (.inr (.inl e)))),fun e=>this (.inr (.inr (.inr (.inr (.inl e))))),fun e=>this (.inr (.inr (.inr (.inr (.inr e)))))⟩
theorem KI.keep0(h:KI w c S B)(k:aA aB w w'):KI w' c S B:=h.keepT k fun _ e=>e.elim
theorem KI.lt(h:KI w c S B)(b:B k):k<w.heap.size:=by
 obtain⟨n,a,m,lb,g,j,p,f,i,q,t,e,d,rfl⟩:=h;rcases b with rfl|rfl|rfl|b|b|b
 ·exact lt_of_block d.cor.cor.top
 ·exact lt_of_block d.cor.mir
 ·exact lt_of_block d.cor.liv
 ·exact d.lt (.inl b)
 ·exact d.lt (.inr b)
 ·exact d.cor.cor.lst.lt b
theorem bR.isC{a m:Nat}{M:Nat->Nat->List UInt8}(h:bR w a B D Z M m)(i:B k):IsC w k:=by
 obtain⟨p,n,lv,st,f,F,W,b,rfl,q,r⟩:=h;rcases i with rfl|rfl|i|⟨d,j,rfl⟩
 ·exact⟨_,_,b.top⟩
 ·obtain⟨cur,e⟩:=aO b.devs (k:=k) rfl
  exact⟨_,_,e⟩
 ·obtain⟨cur,e⟩:=aO b.loose i
  exact⟨_,_,e⟩
 ·exact⟨_,_,b.firm d j⟩
theorem dU.isC{lo b:Nat}{f:Nat->Option Nat}{L n:List Ad}(h:dU w lo g b f D Z L)(j:dU w' lo g b f D Z n)(x:Own g b f D k):IsC w' k\/¬IsC w k:=by
 rcases x with rfl|rfl|⟨d,u,q⟩
 ·exact .inl ⟨_,_,j.top⟩
 ·obtain⟨p,e,-⟩:=j.words.row
  exact .inl ⟨_,_,e⟩
 ·right
  obtain⟨y,i,s,r,e⟩:=h.chans d u;rw[q] at i;cases i
  rintro⟨p,t,m⟩;rw[e] at m;cases m
def Cl(w w':World)(B B':Nat->Prop):Prop:=∀k,B' k->IsC w' k\/(B k/\¬IsC w k)
theorem Cl.refl(w w':World)(B:Nat->Prop)(k:aA aB w w'):Cl w w' B B:=fun i d=>by
 by_cases h:IsC w i
 ·obtain⟨b,t,h⟩:=h
  exact .inl ⟨b,t,k.blk h id⟩
 ·exact .inr ⟨d,h⟩
theorem Cl.trans{j:World}{e f:Nat->Prop}(h:Cl w w1 B e)(k:Cl w1 j e f):Cl w j B f:=fun i n=>by
 rcases k i n with b|⟨b,m⟩
 ·exact .inl b
 ·rcases h i b with d|d
  ·exact absurd d m
  ·exact .inr d
structure bC(w:World)(B:Nat->Prop)(v:Value)(p:Pt):Prop where
 pt:PtV w v p
 off:∀k,v.ownBlock=some k->¬B k/\IsC w k
theorem bC.keep{B':Nat->Prop}{p:Pt}(h:bC w B v p)(k:aA B w w')(d:∀k,B' k->B k\/w.heap.size≤k):bC w' B' v p:=
 ⟨h.pt.keep k fun i b=>(h.off i b).1,fun i b=>⟨fun e=>(d i e).elim (h.off i b).1 fun e=>by have:=(h.off i b).2.lt;omega,(h.off i b).2.keep k (h.off i b).1⟩⟩
theorem bC.keepT{p:Pt}(h:bC w B v p)(k:aA T w w')(d:∀i,v.ownBlock=some i->¬T i):bC w' B v p:=
 ⟨h.pt.keep k d,fun i b=>⟨(h.off i b).1,(h.off i b).2.keep k (d i b)⟩⟩
theorem bC.keep0{p:Pt}(h:bC w B v p)(k:aA aB w w'):bC w' B v p:=h.keepT k fun _ _=>id
theorem bC.hole(w:World)(B:Nat->Prop):bC w B (.slice none 0 0) zPt:=⟨⟨Rd.nil w 2,fun x d=>(by cases d),rfl⟩,fun k b=>by cases b⟩
theorem zS(i:D≤8)(f:Z≤4096):∀x,eF x D Z->eL x:=fun x ⟨b,d,e,h⟩=>⟨⟨by omega,by omega⟩,by omega,by omega⟩
theorem KI.get(h:KI w c S B){pv:Value}{p:Pt}(q:PtV w pv p){b:List UInt8}(e:jG S p lv b):Calls Tryz.prog 74 #[.pointer c,.agg (aE pv p).toArray] w (fQ w b):=by
 obtain⟨H,a,m,lb,g,F,I,z,E,J,t,u,n,rfl⟩:=h;have f:∀x∈p.addrs,eF x S.D S.Z:=fun x y=>(e.lies x y).1
 have G:=(iK e.may).1;cases i:p.addrs with
 | nil=>exact absurd i e.ne
 | cons x r =>
   obtain⟨d,s,rfl,-,-,-⟩:=lS (f x (by rw[i];exact List.mem_cons_self ..));have j:S.M d s=b:=(e.lies ⟨(d:Int),(s:Int)⟩ (by rw[i];exact List.mem_cons_self ..)).2.2;have:=Lc n.cor pv p q e.may e.ne_hole f (by omega) i (by rw[j];exact e.sum);rw[j] at this;exact this
theorem KI.copies(h:KI w c S B):Calls Tryz.prog 70 #[.pointer c] w (aN w (.int .i64 (S.cp:Int))):=by
 obtain⟨j,a,m,lb,g,i,n,e,f,p,t,d,b,rfl⟩:=h;exact ED b.cor.cor
def eR(w:World)(v:Value):Prop:=∀k,v.ownBlock=some k->w.heap.size≤k
def pY(w:World)(c:Nat)(B:Nat->Prop)(r:Option (Pt×Kor))(S:Kor)(e:Ending)(w':World):Prop:=
 match r with
 | none=>e=.returned (.tuple #[.agg (aE (.slice none 0 0) zPt).toArray,.int .i64 15])/\KI w' c S B/\aA aB w w'
 | some (p,T)=>∃v b,e=.returned (.tuple #[.agg (aE v p).toArray,.int .i64 0])/\bC w' b v p/\KI w' c T b/\(∀k,b k->B k\/w.heap.size≤k)/\Cl w w' B b/\eR w v/\aA B w w'
theorem KI.put(h:KI w c S B)(r:lv≤3){vv:Value}(q:bs.length=256)(M:Rd w 1 vv 256 (bs.map vb))(z:∀i,vv.ownBlock=some i->¬B i):Calls Tryz.prog 124 #[.pointer c,.int .i64 (lv:Int),vv] w (pY w c B (S.put lv bs) S):=by
 have F:=h;obtain⟨b,a,m,lb,g,E,I,J,R,W,t,f,n,rfl⟩:=h;have j:∀i,vv.ownBlock=some i->¬R i/\¬Own g E I S.D i:=fun i L=>⟨fun e=>z i L (.inr (.inr (.inr (.inl e)))),fun e=>z i L (.inr (.inr (.inr (.inr (.inl e)))))⟩
 cases s:cC (cE S.L S.D S.Z) (List.replicate S.D true) S.cp with
 | none =>
   have e:S.put lv bs=none:=by unfold Kor.put Kor.allUp;rw[s]
   rw[e];refine(MR n (by rw[f];exact⟨b.t0,b.t1⟩) lv r vv bs q M j s).mono ?_;rintro e w' ⟨rfl,u⟩;exact⟨rfl,F.keep0 u,u⟩
 | some l =>
   have e:S.put lv bs=some (⟨bD S.L S.Z l,S.txg+1,(lv:Int),cZ bs⟩,⟨S.D,S.Z,S.cp,S.L++bD S.L S.Z l,lC bs (bD S.L S.Z l) S.M,S.txg⟩):=by unfold Kor.put Kor.allUp;rw[s]
   have G:=pQ b r q e;rw[e];refine(Jh n (by rw[f];exact⟨b.t0,b.t1⟩) lv r vv bs q M j (zS b.d8 b.z4) s).mono ?_;rintro e w' ⟨v,K,rfl,H,p,U,N,u⟩;have y:∀k,v.ownBlock=some k->w.heap.size≤k:=fun k u=>aU H u
   refine⟨v,fun k=>k=c\/k=m\/k=lb\/K k\/Own g E I S.D k\/t.Own k,by rw[f],⟨⟨Rd.of_owns H,fun x V=>zS b.d8 b.z4 x (G.1.lies x V).1,G.1.sl⟩,fun k d=>⟨?_,?_⟩⟩,⟨G.2.2.1,a,m,lb,g,E,I,J,K,W+(bD S.L S.Z l).length,t,f,p,rfl⟩,?_,?_,y,u.mono fun k _ e=>.inr (.inr (.inr (e.imp id .inl)))⟩
   ·have X:=y k d
    rintro (rfl|rfl|rfl|e|e|e)
    ·have:=lt_of_block n.cor.cor.top;omega
    ·have:=lt_of_block n.cor.mir;omega
    ·have:=lt_of_block n.cor.liv;omega
    ·exact(N k d).1 e
    ·exact(N k d).2 e
    ·have:=n.cor.cor.lst.lt e;omega
   ·obtain⟨cur,s⟩:=aO H d
    exact⟨_,_,s⟩
   ·rintro k (e|e|e|e|e|e)
    ·exact .inl (.inl e)
    ·exact .inl (.inr (.inl e))
    ·exact .inl (.inr (.inr (.inl e)))
    ·exact(U k e).imp (fun h=>.inr (.inr (.inr (.inl h)))) id
    ·exact .inl (.inr (.inr (.inr (.inr (.inl e)))))
    ·exact .inl (.inr (.inr (.inr (.inr (.inr e)))))
   ·rintro k (rfl|rfl|rfl|e|e|e)
    ·exact .inl ⟨_,_,p.cor.cor.top⟩
    ·exact .inl ⟨_,_,p.cor.mir⟩
    ·exact .inl ⟨_,_,p.cor.liv⟩
    ·exact .inl (p.cor.arr.isC e)
    ·exact(n.led.isC p.led e).imp id fun h=>⟨.inr (.inr (.inr (.inr (.inl e)))),h⟩
    ·exact .inl (p.cor.cor.lst.isc k e)
def Lk:Option (Pt×Kor)->Pt
 | none=>zPt
 | some x=>x.1
def Ll:Option (Pt×Kor)->Int
 | none=>15
 | some _=>0
def Lm(S:Kor):Option (Pt×Kor)->Kor
 | none=>S
 | some x=>x.2
def MX(w:World)(c:Nat)(B:Nat->Prop)(p:Pt)(d:Int)(T:Kor)(e:Ending)(w':World):Prop:=
 ∃v b,e=.returned (.tuple #[.agg (aE v p).toArray,.int .i64 d])/\bC w' b v p/\KI w' c T b/\(∀k,b k->B k\/w.heap.size≤k)/\Cl w w' B b/\eR w v/\aA B w w'
theorem pY.all{r:Option (Pt×Kor)}{e:Ending}(h:pY w c B r S e w'):MX w c B (Lk r) (Ll r) (Lm S r) e w':=by
 cases r with
 | none =>
   obtain⟨d,f,b⟩:=h;exact⟨_,B,d,bC.hole w' B,f,fun k h=>.inl h,Cl.refl w w' B b,(fun k i=>by cases i),b.any⟩
 | some x=>exact h
theorem pK{p:Pt}(h:Hid (bC w B v p))(k:aA aB w w'):Hid (bC w' B v p):=O (bC.keep0 h.out k)
def cI(w:World)(B:Nat->Prop)(vs:Nat->Value)(ps:Nat->Pt):Prop:=∀k,k<4->bC w B (vs k) (ps k)
theorem cI.nv{ps:Nat->Pt}(h:cI w B vs ps):dK w vs ps:=fun k b=>(h k b).pt
theorem cI.keep0{ps:Nat->Pt}(h:cI w B vs ps)(k:aA aB w w'):cI w' B vs ps:=fun i b=>(h i b).keep0 k
theorem cI.hole(w:World)(B:Nat->Prop):cI w B (fun _=>.slice none 0 0) (fun _=>zPt):=fun _ _=>bC.hole w B
def gJ:Option Tr->Pt
 | none=>zPt
 | some t=>t.ptr
def lE:Option Tr->Int
 | none=>15
 | some _=>0
def cN(w:World)(c:Nat)(B:Nat->Prop)(d:Value)(r:Option Tr)(T:Kor)(e:Ending)(w':World):Prop:=
 ∃v b,e=.returned (.tuple #[.agg (aE v (gJ r)).toArray,.int .i64 (lE r)])/\bC w' b v (gJ r)/\KI w' c T b/\(∀k,b k->B k\/w.heap.size≤k)/\Cl w w' B b/\(v=d\/eR w v)/\aA B w w'
theorem eR.from(h:eR w1 v)(k:w.heap.size≤w1.heap.size):eR w v:=fun i b=>Nat.le_trans k (h i b)
theorem eR.nil(w:World):eR w (.slice none 0 0):=fun k b=>by cases b
theorem cN.hole{T:Kor}{b:Value}(h:KI w' c T B)(k:aA aB w w'):cN w c B b (some .hole) T (.returned (.tuple #[.agg (aE (.slice none 0 0) zPt).toArray,.int .i64 0])) w':=
 ⟨_,B,rfl,bC.hole w' B,h,fun _ h=>.inl h,Cl.refl w w' B k,.inr (eR.nil w),k.any⟩
theorem Tr.Ok.fit{t:Tr}(h:Tr.Ok S l t):AL ((l:Int)+1) t.ptr:=by
 cases t with
 | hole=>exact .inl iQ
 | leaf p b=>cases l with
   | zero=>exact .inr ⟨h.1.ne_hole,h.1.may,by have:=h.1.lev;show p.level=_;omega⟩
   | succ l=>exact h.elim
 | node p k=>cases l with
   | zero=>exact h.elim
   | succ l=>exact .inr ⟨h.1.ne_hole,h.1.may,by have:=h.1.lev;show p.level=_;omega⟩
theorem Tr.Ok.empty_eq{k:Nat->Tr}(h:∀i,i<4->Tr.Ok S l (k i)):jR (fun i=>(k i).ptr)=gH k:=by
 unfold jR gH;rw[(h 0 (by omega)).hole_eq,(h 1 (by omega)).hole_eq,(h 2 (by omega)).hole_eq,(h 3 (by omega)).hole_eq]
theorem ixv(T:TypeId)(x y:Operand)(b d u:Value)(j:∀w,(Instr.index T b d).run P w=.ok u w)(h:wpList P ops Q rest (a.put o.dst u) w)(m:a.eval x=b:=by rfl)(hy:a.eval y=d:=by rfl)(f:o.guard=none:=by rfl)(i:o.op=.index T x y:=by rfl):wpList P ops Q (o::rest) a w:=by
 refine wpList_plain f fun K e=>?_
 unfold Oper.wp execOp;simp only[i,m,hy,Sem.run_bind,j,Result.andThen_ok];exact e _ _ h
def shV:Value:=.agg #[.int .i64 0,.int .i64 0,.int .i64 2,.int .i64 4]
theorem AO(w:World):(Instr.build 306 #[(0,.int .i64 0),(1,.int .i64 0),(2,.int .i64 2),(3,.int .i64 4)]).run Tryz.prog w=.ok shV w:=by kernel_rfl
theorem Ow(w:World):(Instr.index 306 shV (.int .i64 1)).run Tryz.prog w=.ok (.int .i64 0) w:=by kernel_rfl
theorem Ox(w:World):(Instr.index 306 shV (.int .i64 2)).run Tryz.prog w=.ok (.int .i64 2) w:=by kernel_rfl
theorem Oy(w:World):(Instr.index 306 shV (.int .i64 3)).run Tryz.prog w=.ok (.int .i64 4) w:=by kernel_rfl
theorem GP(w:World)(l:Nat)(d:l<3):Calls Tryz.prog 184 #[.int .i64 ((l+1:Nat):Int)] w (aN w (.int .i64 ((2*l:Nat):Int))):=by
 have b:=lN w;rcases l with _|_|_|l
 ·go_in
  go_wp2_with ((with_reducible show WL _ _);first
   | refine bld 306 #[(0,.const (.int .i64 0)),(1,.const (.int .i64 0)),(2,.const (.int .i64 2)),(3,.const (.int .i64 4))] [(0,.int .i64 0),(1,.int .i64 0),(2,.int .i64 2),(3,.int .i64 4)] shV AO ?_
   | refine ixv 306 (.tmp 3) (.tmp 4) shV (.int .i64 1) (.int .i64 0) Ow ?_)
  go_ret;exact aN.of b.keep
 ·go_in
  go_wp2_with ((with_reducible show WL _ _);first
   | refine bld 306 #[(0,.const (.int .i64 0)),(1,.const (.int .i64 0)),(2,.const (.int .i64 2)),(3,.const (.int .i64 4))] [(0,.int .i64 0),(1,.int .i64 0),(2,.int .i64 2),(3,.int .i64 4)] shV AO ?_
   | refine ixv 306 (.tmp 3) (.tmp 4) shV (.int .i64 2) (.int .i64 2) Ox ?_)
  go_ret;exact aN.of b.keep
 ·go_in
  go_wp2_with ((with_reducible show WL _ _);first
   | refine bld 306 #[(0,.const (.int .i64 0)),(1,.const (.int .i64 0)),(2,.const (.int .i64 2)),(3,.const (.int .i64 4))] [(0,.int .i64 0),(1,.int .i64 0),(2,.int .i64 2),(3,.int .i64 4)] shV AO ?_
   | refine ixv 306 (.tmp 3) (.tmp 4) shV (.int .i64 3) (.int .i64 4) Oy ?_)
  go_ret;exact aN.of b.keep
 ·omega
theorem MY:∀l:Fin 3,∀n:Fin 64,bits .and .i64 ((n.val:Int) / 2 ^ (2*l.val)) 3=((n.val / 4 ^ l.val % 4:Nat):Int):=by decide +kernel
theorem BD(w:World)(n l:Nat)(i:n<64)(f:l<3):Calls Tryz.prog 125 #[.int .i64 (n:Int),.int .i64 ((l+1:Nat):Int)] w (aN w (.int .i64 ((n / 4 ^ l % 4:Nat):Int))):=by
 have b:=lN w;have h:Hid (bits .and .i64 ((n:Int) / 2 ^ (2*l)) 3=((n / 4 ^ l % 4:Nat):Int)):=O (MY ⟨l,f⟩ ⟨n,i⟩);have j:0≤(n:Int):=by omega
 have m:(n:Int)<64:=by omega
 go_in;go_wp2_with fail;refine(GP _ l f).mono ?_;rintro e w1 ⟨rfl,d⟩;replace b:=kL b d;clear d;have h0:(0:Int)≤((2*l:Nat):Int):=by omega
 go_wp2;go_ret;refine⟨?_,b.keep⟩;show Ending.returned (.int .i64 (bits .and .i64 ((n:Int) / 2 ^ (2*l)) 3))=_;rw[h.out]
theorem Jq(b:KI w c S B):Calls Tryz.prog 107 #[.pointer c] w (aN w (.bool false)):=by
 have d:=O b;have i:((S.cp:Int) == 0)=false:=by rw[beq_eq_false_iff_ne];have:=b.bd.c1;omega
 have j:decide (S.cp=0)=false:=by have:=b.bd.c1;exact decide_eq_false (by omega)
 have f:=lN w;clear b;go_in;go_wp2_with fail;refine(KI.copies d.out).mono ?_;rintro e w1 ⟨rfl,h⟩;replace f:=kL f h;replace d:=O (d.keep0 h);clear h;go_wp2;go_ret;exact aN.of f.keep
def Pt.root(p:Pt):Bool:=p.hole || (p.may && decide (p.level=3))
theorem EH(w:World)(pv:Value)(p:Pt)(i:PtV w pv p)(m:p.hole=true):Calls Tryz.prog 71 #[.agg (aE pv p).toArray] w (aN w (.int .i64 0)):=by
 have q:=O m;clear m;have b:=O i;obtain⟨n,h,j,r⟩:=nmPt i;rw[h.out];have d:=lN w;clear i;go_in
 go_wp2_with ((with_reducible show WL _ _);refine bxL d 27 (.tmp 0) (n.toArray) ?_)
 intro b1 w1 f d;replace b:=O (b.keep f fun _ _=>id);clear f
 go_wp2_with ((with_reducible show WL _ _);refine wpList_load_mid rfl 27 (.tmp 1) rfl b1 0 rfl n _ (aD (d.b 0)) aH rfl (szP9 j) ?_)
 refine((by rw[←h.out];exact cL w1 pv p b.out:Calls _ _ _ w1 (aX w1 p.hole))).mono ?_;rintro e s ⟨rfl,f⟩;replace d:=kL d f;replace b:=O (b.keep f fun _ _=>id);clear f;rw[q.out];go_wp2;go_ret;exact aN.of d.keep
theorem Jr(w:World)(pv:Value)(p:Pt)(n:PtV w pv p)(s:p.hole=false)(u:p.may=true)(t:p.level=3):Calls Tryz.prog 71 #[.agg (aE pv p).toArray] w (aN w (.int .i64 0)):=by
 have x:=O s;have y:=O u;have m:=O t;clear s u t;have b:=O n;obtain⟨q,i,j,z⟩:=nmPt n;rw[i.out];have d:=lN w;clear n;go_in
 go_wp2_with ((with_reducible show WL _ _);refine bxL d 27 (.tmp 0) (q.toArray) ?_)
 intro b1 w1 f d;replace b:=O (b.keep f fun _ _=>id);clear f
 go_wp2_with ((with_reducible show WL _ _);refine wpList_load_mid rfl 27 (.tmp 1) rfl b1 0 rfl q _ (aD (d.b 0)) aH rfl (szP9 j) ?_)
 refine((by rw[←i.out];exact cL w1 pv p b.out:Calls _ _ _ w1 (aX w1 p.hole))).mono ?_;rintro e r ⟨rfl,f⟩;replace d:=kL d f;replace b:=O (b.keep f fun _ _=>id);clear f;rw[x.out]
 go_wp2_with ((with_reducible show WL _ _);refine aP (by rfl) 27 (.tmp 1) rfl b1 0 rfl q _ (aD (d.b 0)) aH rfl (szP9 j) ?_)
 refine((by rw[←i.out];exact kC r pv p b.out:Calls _ _ _ r (lQ r p.may))).mono ?_;rintro e E ⟨rfl,f⟩;replace d:=kL d f;replace b:=O (b.keep f fun _ _=>id);clear f;rw[y.out];rw[if_pos rfl];have c1:E.cell? ⟨b1,2,none⟩=some (.int .i64 3):=(by have h:=(bQ (v:=pv) (p:=p) (by rw[i.out];exact aD (d.b 0))).2.2.1;rw[m.out] at h;exact h)
 go_wp2_with fail;clear c1;go_ret;exact aN.of d.keep
theorem wU(w:World)(pv:Value)(p:Pt)(d:PtV w pv p)(h:p.root=true):Calls Tryz.prog 71 #[.agg (aE pv p).toArray] w (aN w (.int .i64 0)):=by
 unfold Pt.root at h;cases b:p.hole with
 | true=>exact EH w pv p d b
 | false =>
   rw[b,Bool.false_or,Bool.and_eq_true,decide_eq_true_eq] at h;exact Jr w pv p d b h.1 h.2
theorem zT(r:KI w c S B)(pv:Value)(p:Pt)(m:PtV w pv p)(h:p.root=true):Calls Tryz.prog 62 #[.pointer c,.agg (aE pv p).toArray] w (aN w (.int .i64 0)):=by
 have t:=O h;clear h;have b:=O m;have i:=O r;obtain⟨s,j,n,u⟩:=nmPt m;rw[j.out];have f:=lN w;clear m r;go_in
 go_wp2_with ((with_reducible show WL _ _);refine bxL f 27 (.tmp 1) (s.toArray) ?_)
 intro x w1 d f;replace b:=O (b.keep d fun _ _=>id);replace i:=O (i.keep0 d);clear d;go_wp2_with fail;refine(Jq i.out).mono ?_;rintro e q ⟨rfl,d⟩;replace f:=kL f d;replace b:=O (b.keep d fun _ _=>id);replace i:=O (i.keep0 d);clear d
 go_wp2_with ((with_reducible show WL _ _);refine wpList_load_mid rfl 27 (.tmp 3) rfl x 0 rfl s _ (aD (f.b 0)) aH rfl (szP9 n) ?_)
 refine((by rw[←j.out];exact wU q pv p b.out t.out:Calls _ _ _ q (aN q (.int .i64 0)))).mono ?_;rintro e y ⟨rfl,d⟩;replace f:=kL f d;replace b:=O (b.keep d fun _ _=>id);replace i:=O (i.keep0 d);clear d;go_wp2;go_ret;exact aN.of f.keep
theorem EI(pv:Value)(p:Pt)(j:PtV w pv p)(q:p.hole=true):Calls Tryz.prog 91 #[.pointer c,.agg (aE pv p).toArray] w (fQ w zB):=by
 have s:=O q;clear q;have b:=O j;obtain⟨r,h,m,t⟩:=nmPt j;rw[h.out];have d:=lN w;clear j;go_in
 go_wp2_with ((with_reducible show WL _ _);refine bxL d 27 (.tmp 1) (r.toArray) ?_)
 intro u w1 f d;replace b:=O (b.keep f fun _ _=>id);clear f
 go_wp2_with ((with_reducible show WL _ _);refine wpList_load_mid rfl 27 (.tmp 3) rfl u 0 rfl r _ (aD (d.b 0)) aH rfl (szP9 m) ?_)
 refine((by rw[←h.out];exact cL w1 pv p b.out:Calls _ _ _ w1 (aX w1 p.hole))).mono ?_;rintro e y ⟨rfl,f⟩;replace d:=kL d f;replace b:=O (b.keep f fun _ _=>id);clear f;rw[s.out]
 go_wp2_with ((with_reducible show WL _ _);refine mkz (.const (.int .i64 256)) (.const (.int .i64 256)) ?_)
 intro x z i f n;replace d:=lW d i f n;replace b:=O (b.keep f fun _ _=>id);clear i f n;go_wp2
 go_ret2
 exact⟨_,rfl,mS (d.b 0) rfl (d.lt 0).1,d.keep⟩
theorem GQ(u:KI w c S B)(pv:Value)(p:Pt)(r:PtV w pv p)(n:jG S p lv bs):Calls Tryz.prog 91 #[.pointer c,.agg (aE pv p).toArray] w (fQ w bs):=by
 have z:=O n.ne_hole;have y:=O n;have h:=O u;have b:=O r;obtain⟨s,i,j,F⟩:=nmPt r;rw[i.out];have f:=lN w;clear r n u;go_in
 go_wp2_with ((with_reducible show WL _ _);refine bxL f 27 (.tmp 1) (s.toArray) ?_)
 intro t w1 d f;replace b:=O (b.keep d fun _ _=>id);replace h:=O (h.keep0 d);clear d
 go_wp2_with ((with_reducible show WL _ _);refine wpList_load_mid rfl 27 (.tmp 3) rfl t 0 rfl s _ (aD (f.b 0)) aH rfl (szP9 j) ?_)
 refine((by rw[←i.out];exact cL w1 pv p b.out:Calls _ _ _ w1 (aX w1 p.hole))).mono ?_;rintro e x ⟨rfl,d⟩;replace f:=kL f d;replace b:=O (b.keep d fun _ _=>id);replace h:=O (h.keep0 d);clear d;rw[z.out]
 go_wp2_with ((with_reducible show WL _ _);refine wpList_load_mid rfl 27 (.tmp 3) rfl t 0 rfl s _ (aD (f.b 0)) aH rfl (szP9 j) ?_)
 have m:=O f.keep.size;refine((by rw[←i.out];exact KI.get h.out b.out y.out:Calls _ _ _ x (fQ x bs))).mono ?_;rintro e J ⟨G,rfl,q,d⟩;obtain⟨H,I,rfl,-,-⟩:=(Rd.of_owns q).form;have E:=O (aQ q m.out);clear q;replace f:=kL f d;replace b:=O (b.keep d fun _ _=>id);replace h:=O (h.keep0 d);clear d;go_wp2
 go_ret2
 exact⟨_,rfl,E.out,f.keep⟩
theorem pZ(w:World):(Instr.build 27 #[]).run Tryz.prog w=.ok (.agg (aE (.slice none 0 0) zPt).toArray) w:=by kernel_rfl
def fN(w:World)(B:Nat->Prop)(l:Nat)(t:Tr)(e:Ending)(w':World):Prop:=
 ∃vs,e=.returned (.tuple #[.agg (cH ((l+1:Nat):Int) vs (fun i=>(t.kid i).ptr)).toArray,.int .i64 0])/\cI w' B vs (fun i=>(t.kid i).ptr)/\(∀q,q<4->eR w (vs q))/\aA aB w w'
theorem GR(pv:Value)(t:PtV w pv zPt)(l:Nat):Calls Tryz.prog 87 #[.pointer c,.agg (aE pv zPt).toArray,.int .i64 ((l+1:Nat):Int)] w (fN w B l .hole):=by
 obtain⟨p,m⟩:∃p,zPt=p:=⟨_,rfl⟩
 have M:Hid (p.hole=true):=O (by rw[←m];exact iQ);rw[m] at t ⊢;have b:=O t;obtain⟨L,q,H,N⟩:=nmPt t;rw[q.out];have h:(cH ((l+1:Nat):Int) (fun _=>.slice none 0 0) (fun _=>zPt)).length=141:=rfl;have j:=AN ((l+1:Nat):Int);obtain⟨I,f⟩:∃x,cH ((l+1:Nat):Int) (fun _=>.slice none 0 0) (fun _=>zPt)=x:=⟨_,rfl⟩
 have F:Hid (∀u∈I,u.oneCell'=true):=O (by rw[←f];exact dQ (w:=w) _ fun _ _=>tA w);have E:=O f;rw[f] at h j;have n:=O j;obtain⟨lv,s⟩:∃x,((l+1:Nat):Int)=x:=⟨_,rfl⟩
 rw[s] at n ⊢;have d:=lN w;clear t f j m s;have r:=b;go_in
 go_wp2_with ((with_reducible show WL _ _);refine bxL d 27 (.tmp 1) (L.toArray) ?_)
 intro R w1 i d;replace b:=O (b.keep i fun _ _=>id);clear i
 go_wp2_with ((with_reducible show WL _ _);refine alL d 98 (.agg dI.toArray) (dI.toArray) jO ?_)
 intro K J i d;replace b:=O (b.keep i fun _ _=>id);clear i
 go_wp2_with ((with_reducible show WL _ _);refine wpList_load_mid rfl 27 (.tmp 4) rfl R 0 rfl L _ (aD (d.b 1)) aH rfl (szP9 H) ?_)
 refine((by rw[←q.out];exact cL J pv p b.out:Calls _ _ _ J (aX J p.hole))).mono ?_;rintro e U ⟨rfl,i⟩;replace d:=kL d i;replace b:=O (b.keep i fun _ _=>id);clear i;rw[M.out]
 go_wp2_with ((with_reducible show WL _ _);first
  | refine bld 98 #[(0,.tmp 14)] [(0,.int .i64 lv)] (.agg I.toArray) n.out ?_
  | refine sta 98 (.tmp 6) (.tmp 15) K 0 I (d.b 0) (by first|decide|(rw[h];exact Nat.le_refl _)|simp[h,bX]) (by rw[h];exact dN) F.out ?_)
 intro V i G;rw[aK _ _ (by first|rfl|simp[h,bX])] at G;replace d:=O (d.set 0 i G);replace b:=O (r.keep d.keep fun _ _=>id);clear i G;have y:=O (d.b 0);have z:=O d.keep;clear d b;go_wp2_with fail;refine bodyPost_ret (bN rfl _ _ K _ _ _ _ rfl y.out Tryz.underlying98 rfl (by rw[List.size_toArray,h];exact dN)) rfl ?_;exact⟨fun _=>.slice none 0 0,(by rw[←E.out];rfl),cI.hole _ B,fun _ _=>eR.nil w,z.out⟩
theorem O6{ps:Nat->Pt}(lv:Nat)(h:∀k,k<4->(ps k).may=true):nb lv ps=cW lv [ps 0,ps 1,ps 2,ps 3]:=by
 unfold nb mQ cW ptB;simp[List.range_succ,h 0 (by omega),h 1 (by omega),h 2 (by omega),h 3 (by omega)]
theorem Tr.Ok.nb_eq{k:Nat->Tr}(lv:Nat)(h:∀i,i<4->Tr.Ok S l (k i)):nb lv (fun i=>(k i).ptr)=cW lv (fI k):=
 Go.Proofs.YtiinnfhjpaeffaaGreat.O6 lv fun i b=>((h i b).fit).elim jM fun h=>h.2.1
theorem fJ.nval{ps:Nat->Pt}(h:fJ w w' vs ps)(f:∀k,B k->k<w.heap.size):cI w' B vs ps:=fun k b =>
 ⟨(h k b).1,fun i d=>⟨fun e=>by have:=f i e;have:=((h k b).2 i d).1;omega,((h k b).2 i d).2⟩⟩
theorem GS(hK:KI w c S B)(pv:Value)(p:Pt)(hp:PtV w pv p)(l:Nat)(hl:l≤2)(k:Nat->Tr)(hg:jG S p (l+1) (cW (l+1) (fI k)))(J:∀i,i<4->Tr.Ok S l (k i)):Calls Tryz.prog 87 #[.pointer c,.agg (aE pv p).toArray,.int .i64 ((l+1:Nat):Int)] w (fN w B l (.node p k)):=by
 have HH:Hid (p.hole=false):=O hg.ne_hole;have d:=O hp;have s:=O hK;have HG:=O hg;have L:=O J;have K:=O (fun i (e:B i)=>hK.lt e);obtain⟨pc,G,X,HOP⟩:=nmPt hp;rw[G.out];have HNB:Hid (cW (l+1) (fI k)=nb (l+1) (fun i=>(k i).ptr)):=O (Tr.Ok.nb_eq (l+1) J).symm;have hlv0:0≤((l+1:Nat):Int):=by omega
 have f:=lN w;clear hp hg J hK;go_in
 go_wp2_with ((with_reducible show WL _ _);refine bxL f 27 (.tmp 1) (pc.toArray) ?_)
 intro b4 w1 b f;replace d:=O (d.keep b fun _ _=>id);replace s:=O (s.keep0 b);clear b
 go_wp2_with ((with_reducible show WL _ _);refine alL f 98 (.agg dI.toArray) (dI.toArray) jO ?_)
 intro b6 w2 b f;replace d:=O (d.keep b fun _ _=>id);replace s:=O (s.keep0 b);clear b
 go_wp2_with ((with_reducible show WL _ _);refine wpList_load_mid rfl 27 (.tmp 4) rfl b4 0 rfl pc _ (aD (f.b 1)) aH rfl (szP9 X) ?_)
 refine((by rw[←G.out];exact cL w2 pv p d.out:Calls _ _ _ w2 (aX w2 p.hole))).mono ?_;rintro e w3 ⟨rfl,b⟩;replace f:=kL f b;replace d:=O (d.keep b fun _ _=>id);replace s:=O (s.keep0 b);clear b;rw[HH.out]
 go_wp2_with ((with_reducible show WL _ _);refine wpList_load_mid rfl 27 (.tmp 4) rfl b4 0 rfl pc _ (aD (f.b 1)) aH rfl (szP9 X) ?_)
 refine((by rw[←G.out];exact KI.get s.out d.out HG.out:Calls _ _ _ w3 (fQ w3 (cW (l+1) (fI k))))).mono ?_;rintro e w4 ⟨v1,rfl,ho,b⟩;rw[HNB.out] at ho;obtain⟨va,vc,rfl,-,-⟩:=(Rd.of_owns ho).form;have HO:=O ho;clear ho;replace f:=kL f b;replace d:=O (d.keep b fun _ _=>id);replace s:=O (s.keep0 b);clear b;go_wp2_with fail;have U:=O f.keep.size;have HL6:=O (f.lt 0).2;refine((wT w4 (.slice va 256 vc) (l+1) (fun i=>(k i).ptr) (by omega) (by omega) (fun i t=>(L.out i t).sl) (fun i t=>by have:=(L.out i t).fit;exact this) (Rd.of_owns HO.out))).mono ?_;rintro e w5 ⟨vs,rfl,r,b⟩;have HV6:=O (fun j (hj:j<4) i (t:(vs j).ownBlock=some i) (e:i=b6)=>by have h1:=((r j hj).2 i t).1;have h2:=HL6.out;omega:∀j,j<4->∀i,(vs j).ownBlock=some i->¬i=b6);have M:=O (fun q (hq:q<4) i (t:(vs q).ownBlock=some i)=>by have:=((r q hq).2 i t).1;have:=U.out;omega:∀q,q<4->eR w (vs q));have z:=O (r.nval (B:=B) (fun i e=>by have:=K.out i e;have:=U.out;omega));have m:=eE ((l+1:Nat):Int) vs r.nv;have E:=dQ ((l+1:Nat):Int) r.nv;obtain⟨Y,n⟩:∃x,cH ((l+1:Nat):Int) vs (fun i=>(k i).ptr)=x:=⟨_,rfl⟩
 have R:Hid (∀u∈Y,u.oneCell'=true):=O (by rw[←n];exact E);have N:=O n;rw[n] at m ⊢;clear E n r;replace f:=kL f b;replace d:=O (d.keep b fun _ _=>id);replace s:=O (s.keep0 b);replace HO:=O (b.owns HO.out fun _ _=>id);clear b;have HKR:=O f.keep;have y:=O (f.b 0);have HG6:=O (f.lt 0);replace f:=O (Loc.nil aB aB w5);have HNN0:=z;have HB60:=y;clear d s HO
 go_wp2_with ((with_reducible show WL _ _);refine al 98 (.agg dI.toArray) (dI.toArray) jO ?_)
 intro H w6 V W F
 go_wp2_with ((with_reducible show WL _ _);refine sta 98 (.tmp 10) (.tmp 29) H 0 Y F (by first|decide|(rw[List.size_toArray,m];exact Nat.le_refl _)|simp[m,bX]) (by rw[m];exact dN) R.out ?_)
 intro w7 b I;rw[aK _ _ (by first|rfl|(rw[List.size_toArray,m];rfl)|simp[m,bX])] at I;replace b:=tX W b (fun i t e=>by omega);replace f:=lW f V b I;replace z:=O (cI.keep0 z.out b);replace y:=O (b.blk y.out id);clear V b I W F;have c1:w7.cell? ⟨H,0,none⟩=some (.int .i64 ((l+1:Nat):Int)):=aC (i:=0) (f.b 0) (by rw[←N.out];rfl)
 go_wp2_with ((with_reducible show WL _ _);first
  | refine wpList_load_mid rfl 98 (.tmp 10) rfl H 0 rfl Y _ (aD (f.b 0)) Tryz.underlying98 rfl (by rw[m];exact dN) ?_
  | refine sta 98 (.tmp 6) (.tmp 40) b6 0 Y y.out (by rw[List.size_toArray,bX,m];omega) (by rw[m];exact dN) R.out ?_)
 clear c1;intro w9 b I;rw[aK _ _ (by rw[List.size_toArray,bX,m])] at I;have HP:Hid (fN w B l (.node p k) (.returned (.tuple #[.agg Y.toArray,.int .i64 0])) w9):=O ⟨vs,by rw[←N.out];rfl,fun i t=>(z.out i t).keepT b (fun j hj e=>HV6.out i t j hj e),M.out,(HKR.trans f.keep).trans' b (fun _ _ h=>h) (fun i t e=>by have:=HG6.1;omega)⟩;have HB9:=O I;clear I b f z y;go_wp2_with fail;refine bodyPost_ret (bN rfl _ _ b6 _ _ _ _ rfl HB9.out Tryz.underlying98 rfl (by rw[List.size_toArray,m];exact dN)) rfl ?_;exact HP.out
theorem Js(f:KI w c S B)(h:l≤2)(pv:Value)(t:Tr)(d:Tr.Ok S (l+1) t)(e:PtV w pv t.ptr):Calls Tryz.prog 87 #[.pointer c,.agg (aE pv t.ptr).toArray,.int .i64 ((l+1:Nat):Int)] w (fN w B l t):=by
 cases t with
 | hole=>exact GR pv e l
 | leaf p b=>exact d.elim
 | node p k=>exact GS f pv p e l h k d.1 d.2.1
def vX(w:World)(B:Nat->Prop)(p:Pt)(e:Ending)(w':World):Prop:=∃v,e=.returned (.agg (aE v p).toArray)/\bC w' B v p/\eR w v/\aA aB w w'
theorem DI(hB:∀k,B k->k<w.heap.size)(pv:Value)(p:Pt)(Y:PtV w pv p)(hl:p.addrs.length≤65536):Calls Tryz.prog 89 #[.agg (aE pv p).toArray] w (vX w B p):=by
 have L:=O hB;have HLN:=O hl;have I:=O Y.ads;have x:=O Y.sum;have f:=O Y;obtain⟨pc,z,hpc,HOP⟩:=nmPt Y;rw[z.out];have HPS:Hid (∃r,pc=pv::r):=O ⟨_,z.symm⟩;have d:=lN w;clear Y hl hB;have HPT0:=f;go_in
 go_wp2_with ((with_reducible show WL _ _);refine bxL d 27 (.tmp 0) (pc.toArray) ?_)
 intro b1 w1 b d;replace f:=O (f.keep b fun _ _=>id);clear b
 go_wp2_with ((with_reducible show WL _ _);refine alL d 27 (.agg aI.toArray) (aI.toArray) bK ?_)
 intro b2 w2 b d;replace f:=O (f.keep b fun _ _=>id);clear b;have c1:w2.cell? ⟨b1,0,none⟩=some (pv):=(by obtain⟨r,e⟩:=HPS.out;exact aC (i:=0) (d.b 1) (by rw[e];rfl))
 go_wp2_with fail;clear c1;have X:=O d.keep.size;have W:=O (And.intro (d.lt 0).2 (d.lt 1).2);refine(nH w2 pv p.addrs f.rd HLN.out).mono ?_;rintro e w3 ⟨v1,rfl,y,b⟩;obtain⟨G,H,rfl,-,-⟩:=(Rd.of_owns y).form;have E:Hid (bC w3 B (.slice G p.addrs.length H) p):=O ⟨⟨Rd.of_owns y,I.out,x.out⟩,fun i m=>⟨fun e=>by have:=aU y m;have:=L.out i e;have:=X.out;omega,by obtain⟨cur,hc⟩:=aO y m;exact⟨_,_,hc⟩⟩⟩;have V:Hid (eR w (.slice G p.addrs.length H)):=O (fun i m=>by have:=aU y m;have:=X.out;omega);have R:=O (fun(i:Nat) (m:(Value.slice G p.addrs.length H).ownBlock=some i)=>show ¬i=b1/\¬i=b2 from⟨fun e=>by have:=aU y m;have:=W.2;omega,fun e=>by have:=aU y m;have:=W.1;omega⟩);have J:=O (b.blk (d.b 1) id);have K:=O (b.blk (d.b 0) id);have HG:=O (And.intro (d.lt 1).1 (d.lt 0).1);have N:Hid (b1≠b2):=O (fun e=>bJ (i:=0) d.nd rfl 1 (by decide) rfl e);have HKW:=O (d.keep.trans b);clear y;clear b d f
 go_wp2_with ((with_reducible show WL _ _);refine sta 23 (.tmp 6) (.tmp 5) b1 0 [.slice G p.addrs.length H] J.out (by rw[List.size_toArray,hpc];simp) (by kernel_rfl) (one9) ?_)
 intro w6 b F;rw[←z.out,DG] at F;have q:=O F;have s:=O (b.blk K.out N.symm);have t:=O (E.keepT b (fun i m=>(R.out i m).1));have M:=O (HKW.trans' b (fun _ _ h=>h) (U:=aB) (fun i m e=>by have:=HG.1;omega));clear b F J K;have n:=aJ (v:=.slice G p.addrs.length H) x.out;obtain⟨qc,j⟩:∃l,aE (.slice G p.addrs.length H) p=l:=⟨_,rfl⟩
 have HOQ:Hid (∀u∈qc,u.oneCell'=true):=O (by rw[←j];exact aT E.pt);have HQC:=O j;rw[j] at n q;clear j E
 go_wp2_with ((with_reducible show WL _ _);first
  | refine wpList_load_mid rfl 27 (.tmp 1) rfl b1 0 rfl qc _ (aD q.out) aH rfl (szP9 n) ?_
  | refine sta 27 (.tmp 2) (.tmp 7) b2 0 qc s.out (by rw[List.size_toArray,aG,n];omega) (szP9 n) HOQ.out ?_)
 intro w8 b F;rw[aK _ _ (by rw[List.size_toArray,aG,n])] at F;have HP:Hid (vX w B p (.returned (.agg qc.toArray)) w8):=O ⟨_,by rw[←HQC.out],t.keepT b (fun i m=>(R.out i m).2),V.out,M.trans' b (fun _ _ h=>h) (fun i m e=>by have:=HG.2;omega)⟩;have HB8:=O F;clear b F q s t M;go_wp2_with fail;refine bodyPost_ret (results_cell_row rfl _ _ b2 _ _ _ _ rfl HB8.out aH rfl (by rw[List.size_toArray,n];exact dM)) rfl ?_;exact HP.out
theorem Jt:zB.length=256:=rfl
theorem AP(I:KI w c S B)(vv:Value)(G:Rd w 1 vv 256 (zB.map vb)):Calls Tryz.prog 93 #[.pointer c,vv] w (cN w c B (.slice none 0 0) (S.leaf zB).1 (S.leaf zB).2):=by
 obtain⟨N,R,rfl,-,-⟩:=G.form;have E:Hid (S.leaf zB=(some .hole,S)):=O (by unfold Kor.leaf;rw[if_pos rfl]);have i:=O I;have j:=O G;have f:(aE (.slice none 0 0) zPt).length=35:=rfl;have m:=pZ;obtain⟨s,b⟩:∃l,aE (.slice none 0 0) zPt=l:=⟨_,rfl⟩
 have p:Hid (∀u∈s,u.oneCell'=true):=O (by rw[←b];exact cP zPt);have q:=O b;rw[b] at f m;have F:=O m;clear b m;have d:=lN w;clear G I;have x:=i;have z:=j;go_in
 go_wp2_with ((with_reducible show WL _ _);refine alL d 27 (.agg aI.toArray) (aI.toArray) bK ?_)
 intro H w1 h d;replace i:=O (i.keep0 h);replace j:=O (j.keep h fun _ _=>id);clear h
 go_wp2_with ((with_reducible show WL _ _);refine mkz (.const (.int .i64 256)) (.const (.int .i64 256)) ?_)
 intro M K r h n;replace d:=lW d r h n;replace i:=O (i.keep0 h);replace j:=O (j.keep h fun _ _=>id);clear r h n;go_wp2_with fail;refine(mL K _ _ zB zB (by rw[Jt];exact j.out) (Rd.of_owns (mS (base:=0) (d.b 0) rfl (Nat.zero_le _))) true (decide_eq_true rfl)).mono ?_;rintro e U ⟨rfl,rfl⟩
 go_wp2_with ((with_reducible show WL _ _);first
  | refine bld 27 #[] [] (.agg s.toArray) F.out ?_
  | refine sta 27 (.tmp 4) (.tmp 9) H 0 s (d.b 1) (by first|decide|(rw[f];exact Nat.le_refl _)|simp[f,aG]) (szP9 f) p.out ?_)
 intro L h n;rw[aK _ _ (by first|rfl|simp[f,aG])] at n;replace d:=O (d.set 1 h n);replace i:=O (x.keep0 d.keep);replace j:=O (z.keep d.keep fun _ _=>id);clear h n;have t:=O (d.b 1);have y:=O d.keep;have J:Hid (cN w c B (.slice none 0 0) (S.leaf zB).1 (S.leaf zB).2 (.returned (.tuple #[.agg s.toArray,.int .i64 0])) L):=O (by rw[E.out,←q.out];exact cN.hole i.out y.out);clear d i;go_wp2_with fail;refine bodyPost_ret (bN rfl _ _ H _ _ _ _ rfl t.out aH rfl (by rw[List.size_toArray,f];exact dM)) rfl ?_;exact J.out
theorem AQ(hK:KI w c S B)(vv:Value)(bs:List UInt8)(W:bs.length=256)(hz:¬bs=zB)(hr:Rd w 1 vv 256 (bs.map vb))(hvb:∀i,vv.ownBlock=some i->¬B i):Calls Tryz.prog 93 #[.pointer c,vv] w (cN w c B (.slice none 0 0) (S.leaf bs).1 (S.leaf bs).2):=by
 obtain⟨va,vc,rfl,-,-⟩:=hr.form;have N:=O W;have HNZ:=O hz;have HVB:=O hvb;have y:=O (fun i (e:B i)=>hK.lt e);obtain⟨pp,I⟩:∃p,Lk (S.put 0 bs)=p:=⟨_,rfl⟩
 obtain⟨er,G⟩:∃p,Ll (S.put 0 bs)=p:=⟨_,rfl⟩
 obtain⟨T,J⟩:∃p,Lm S (S.put 0 bs)=p:=⟨_,rfl⟩
 have U:=O I;have HER:=O G;have HRK:=O J
 have s:Hid (gJ (S.leaf bs).1=pp/\lE (S.leaf bs).1=er/\(S.leaf bs).2=T):=O (by
  rw[←I,←G,←J];unfold Kor.leaf;rw[if_neg hz];cases S.put 0 bs with
  | none=>exact⟨rfl,rfl,rfl⟩
  | some x=>exact⟨rfl,rfl,rfl⟩)
 have E:=O hK;have F:=O hr;have m:=lN w;clear hr hK W hz hvb I G J;have HK0:=E;have HR0:=F;go_in
 go_wp2_with ((with_reducible show WL _ _);refine alL m 27 (.agg aI.toArray) (aI.toArray) bK ?_)
 intro b4 w1 b m;replace E:=O (E.keep0 b);replace F:=O (F.keep b fun _ _=>id);clear b
 go_wp2_with ((with_reducible show WL _ _);refine mkz (.const (.int .i64 256)) (.const (.int .i64 256)) ?_)
 intro b7 w2 X b K;replace m:=lW m X b K;replace E:=O (E.keep0 b);replace F:=O (F.keep b fun _ _=>id);clear X b K;go_wp2_with fail;refine(mL w2 _ _ bs zB (by rw[N.out];exact F.out) (Rd.of_owns (mS (base:=0) (m.b 0) rfl (Nat.zero_le _))) false (decide_eq_false HNZ.out)).mono ?_;rintro e w3 ⟨rfl,rfl⟩;replace m:=O m.tail;go_wp2_with fail;have d:=O (m.lt 0);refine((KI.put E.out (lv:=0) (by omega) N.out F.out HVB.out:Calls _ _ _ w2 (pY w2 c B (S.put 0 bs) S))).mono ?_;rintro e w8 hm;obtain⟨v,B',hm1,q,H,V,Y,n,b⟩:=hm.all;rw[U.out,HER.out] at hm1;rw[U.out] at q;rw[HRK.out] at H;subst hm1;have L:=O (b.blk (m.b 0) (fun e=>by have:=y.out _ e;have:=d.1;omega));have HV4:=O (fun i (hi:v.ownBlock=some i) (e:i=b4)=>show False from by have:=n i hi;have:=d.2;omega);have r:=aJ (v:=v) q.pt.sum;have z:=aT q.pt;obtain⟨qc,j⟩:∃l,aE v pp=l:=⟨_,rfl⟩
 have HOQ:Hid (∀u∈qc,u.oneCell'=true):=O (by rw[←j];exact z);have HQC:=O j;have f:=O m.keep;have HKI:=O H;have HPV:=O q;have M:=O V;have HCL:=O Y;have HNW:=O n;have HK8:=O b;rw[j] at r ⊢;clear q H V Y n b j z m E
 go_wp2_with ((with_reducible show WL _ _);refine sta 27 (.tmp 4) (.tmp 13) b4 0 qc L.out (by rw[List.size_toArray,aG,r];omega) (szP9 r) HOQ.out ?_)
 intro w9 b K;rw[aK _ _ (by rw[List.size_toArray,aG,r])] at K
 have R:Hid (∀i,i=b4->¬B' i):=O (by
  rintro i rfl e;rcases M.out _ e with h|h
  ·have:=y.out _ h;have:=d.1;omega
  ·have:=d.2;omega)
 have HP:Hid (cN w c B (.slice none 0 0) (S.leaf bs).1 (S.leaf bs).2 (.returned (.tuple #[.agg qc.toArray,.int .i64 er])) w9):=O ⟨v,B',by rw[s.1,s.2.1,HQC.out],by rw[s.1];exact HPV.keepT b (fun i hi e=>HV4.out i hi e),by rw[s.2.2];exact HKI.keepT b R.out,fun i e=>(M.out i e).imp id (fun h=>Nat.le_trans f.size h),((Cl.refl _ _ _ f.out).trans HCL.out).trans (fun i e=>(by
  by_cases h:IsC w8 i
  ·obtain⟨cs,t,h⟩:=h
   exact .inl ⟨cs,t,b.blk h (fun e2=>R.out i e2 e)⟩
  ·exact .inr ⟨e,h⟩)),.inr (HNW.from f.size),(f.any.trans HK8.out).trans' b (fun _ _ h=>h) (fun i hi e=>by have:=d.1;omega)⟩
 have HB9:=O K;clear b K L;go_wp2_with fail;refine bodyPost_ret (bN rfl _ _ b4 _ _ _ _ rfl HB9.out aH rfl (by rw[List.size_toArray,r];exact dM)) rfl ?_;exact HP.out
theorem Ju(W:KI w c S B)(hl:l≤2)(k:Nat->Tr)(p:∀i,i<4->Tr.Ok S l (k i))(vs:Nat->Value)(y:cI w B vs (fun i=>(k i).ptr))(N:gH k=true):Calls Tryz.prog 88 #[.pointer c,.agg (cH ((l+1:Nat):Int) vs (fun i=>(k i).ptr)).toArray] w (cN w c B (.slice none 0 0) (S.lay (l+1) k).1 (S.lay (l+1) k).2):=by
 have J:Hid (S.lay (l+1) k=(some .hole,S)):=O (by unfold Kor.lay;rw[if_pos N]);have F:Hid (jR (fun i=>(k i).ptr)=true):=O (by rw[Tr.Ok.empty_eq p];exact N);have t:=eE ((l+1:Nat):Int) vs y.nv;obtain⟨R,f⟩:∃x,cH ((l+1:Nat):Int) vs (fun i=>(k i).ptr)=x:=⟨_,rfl⟩
 have Y:Hid (∀u∈R,u.oneCell'=true):=O (by rw[←f];exact dQ _ y.nv);have I:=O f;rw[f] at t ⊢;have m:=O W;have n:=O y;have X:=O p;have j:(aE (.slice none 0 0) zPt).length=35:=rfl;have q:=pZ;obtain⟨z,h⟩:∃l,aE (.slice none 0 0) zPt=l:=⟨_,rfl⟩
 have r:Hid (∀u∈z,u.oneCell'=true):=O (by rw[←h];exact cP zPt);have s:=O h;rw[h] at j q;have L:=O q;clear h q;have b:=lN w;clear W y p f N;have G:=m;have K:=n;go_in
 go_wp2_with ((with_reducible show WL _ _);refine bxL b 98 (.tmp 1) (R.toArray) ?_)
 intro b3 w1 d b;replace m:=O (m.keep0 d);replace n:=O (cI.keep0 n.out d);clear d
 go_wp2_with ((with_reducible show WL _ _);refine alL b 27 (.agg aI.toArray) (aI.toArray) bK ?_)
 intro V U d b;replace m:=O (m.keep0 d);replace n:=O (cI.keep0 n.out d);clear d
 go_wp2_with ((with_reducible show WL _ _);refine wpList_load_mid rfl 98 (.tmp 3) rfl b3 0 rfl R _ (aD (b.b 1)) Tryz.underlying98 rfl (by rw[t];exact dN) ?_)
 refine((by rw[←I.out];exact Bx U _ vs (fun i=>(k i).ptr) n.nv:Calls _ _ _ U (aN U (.bool (jR (fun i=>(k i).ptr)))))).mono ?_;rintro e w3 ⟨rfl,d⟩;replace b:=kL b d;replace m:=O (m.keep0 d);replace n:=O (cI.keep0 n.out d);clear d;rw[F.out]
 go_wp2_with ((with_reducible show WL _ _);first
  | refine bld 27 #[] [] (.agg z.toArray) L.out ?_
  | refine sta 27 (.tmp 4) (.tmp 10) V 0 z (b.b 0) (by first|decide|(rw[j];exact Nat.le_refl _)|simp[j,aG]) (szP9 j) r.out ?_)
 intro w4 d M;rw[aK _ _ (by first|rfl|simp[j,aG])] at M;replace b:=O (b.set 0 d M);replace m:=O (G.keep0 b.keep);replace n:=O (cI.keep0 K.out b.keep);clear d M;have E:=O (b.b 0);have H:=O b.keep;have HP:Hid (cN w c B (.slice none 0 0) (S.lay (l+1) k).1 (S.lay (l+1) k).2 (.returned (.tuple #[.agg z.toArray,.int .i64 0])) w4):=O (by rw[J.out,←s.out];exact cN.hole m.out H.out);clear b m;go_wp2_with fail;refine bodyPost_ret (bN rfl _ _ V _ _ _ _ rfl E.out aH rfl (by rw[List.size_toArray,j];exact dM)) rfl ?_;exact HP.out
theorem Jv(hK:KI w c S B)(hl:l≤2)(k:Nat->Tr)(r:∀i,i<4->Tr.Ok S l (k i))(vs:Nat->Value)(hv:cI w B vs (fun i=>(k i).ptr))(hh:gH k=false):Calls Tryz.prog 88 #[.pointer c,.agg (cH ((l+1:Nat):Int) vs (fun i=>(k i).ptr)).toArray] w (cN w c B (.slice none 0 0) (S.lay (l+1) k).1 (S.lay (l+1) k).2):=by
 have q:=O (fun i (e:B i)=>hK.lt e);have HEM:Hid (jR (fun i=>(k i).ptr)=false):=O (by rw[Tr.Ok.empty_eq r];exact hh);have HNB:Hid (nb (l+1) (fun i=>(k i).ptr)=cW (l+1) (fI k)):=O (Tr.Ok.nb_eq (l+1) r);have HBL:Hid ((cW (l+1) (fI k)).length=256):=O (AH r);obtain⟨pp,N⟩:∃p,Lk (S.put (l+1) (cW (l+1) (fI k)))=p:=⟨_,rfl⟩
 obtain⟨er,K⟩:∃p,Ll (S.put (l+1) (cW (l+1) (fI k)))=p:=⟨_,rfl⟩
 obtain⟨T,R⟩:∃p,Lm S (S.put (l+1) (cW (l+1) (fI k)))=p:=⟨_,rfl⟩
 have X:=O N;have HER:=O K;have HRK:=O R
 have G:Hid (gJ (S.lay (l+1) k).1=pp/\lE (S.lay (l+1) k).1=er/\(S.lay (l+1) k).2=T):=O (by
  rw[←N,←K,←R];unfold Kor.lay;rw[hh];cases S.put (l+1) (cW (l+1) (fI k)) with
  | none=>exact⟨rfl,rfl,rfl⟩
  | some x=>exact⟨rfl,rfl,rfl⟩)
 have M:=eE ((l+1:Nat):Int) vs hv.nv;obtain⟨nc,m⟩:∃x,cH ((l+1:Nat):Int) vs (fun i=>(k i).ptr)=x:=⟨_,rfl⟩
 have HON:Hid (∀u∈nc,u.oneCell'=true):=O (by rw[←m];exact dQ _ hv.nv);have J:=O m;rw[m] at M ⊢;have E:=O hK;have F:=O hv;have HK4:=O r;have f:=lN w;clear hK hv r m hh N K R;go_in
 go_wp2_with ((with_reducible show WL _ _);refine bxL f 98 (.tmp 1) (nc.toArray) ?_)
 intro b3 w1 b f;replace E:=O (E.keep0 b);replace F:=O (cI.keep0 F.out b);clear b
 go_wp2_with ((with_reducible show WL _ _);refine alL f 27 (.agg aI.toArray) (aI.toArray) bK ?_)
 intro b4 w2 b f;replace E:=O (E.keep0 b);replace F:=O (cI.keep0 F.out b);clear b
 go_wp2_with ((with_reducible show WL _ _);refine wpList_load_mid rfl 98 (.tmp 3) rfl b3 0 rfl nc _ (aD (f.b 1)) Tryz.underlying98 rfl (by rw[M];exact dN) ?_)
 refine((by rw[←J.out];exact Bx w2 _ vs (fun i=>(k i).ptr) F.nv:Calls _ _ _ w2 (aN w2 (.bool (jR (fun i=>(k i).ptr)))))).mono ?_;rintro e w3 ⟨rfl,b⟩;replace f:=kL f b;replace E:=O (E.keep0 b);replace F:=O (cI.keep0 F.out b);clear b;rw[HEM.out]
 go_wp2_with ((with_reducible show WL _ _);refine wpList_load_mid rfl 98 (.tmp 3) rfl b3 0 rfl nc _ (aD (f.b 1)) Tryz.underlying98 rfl (by rw[M];exact dN) ?_)
 have HSZ:=O f.keep.size;refine((by rw[←J.out];exact BB w3 (l+1) vs (fun i=>(k i).ptr) F.nv (by omega) (by omega) (fun i I=>by have:=(HK4.out i I).fit;exact this):Calls _ _ _ w3 (vI w3 (l+1) (fun i=>(k i).ptr)))).mono ?_;rintro e w4 ⟨v1,rfl,ho,b⟩;rw[←Jp,HNB.out] at ho;obtain⟨va,vc,rfl,-,-⟩:=(Rd.of_owns ho).form;have HO:=O ho;have HVB:Hid (∀i,(Value.slice va 256 vc).ownBlock=some i->¬B i):=O (fun i I e=>by have:=aU ho I;have:=q.out i e;have:=HSZ.out;omega);clear ho;replace f:=kL f b;replace E:=O (E.keep0 b);replace F:=O (cI.keep0 F.out b);clear b;have c1:w4.cell? ⟨b3,0,none⟩=some (.int .i64 ((l+1:Nat):Int)):=(aC (i:=0) (f.b 1) (by rw[←J.out];rfl))
 go_wp2_with fail;clear c1;have d:=O (f.lt 0);refine((KI.put E.out (lv:=l+1) (by omega) HBL.out (Rd.of_owns HO.out) HVB.out:Calls _ _ _ w4 (pY w4 c B (S.put (l+1) (cW (l+1) (fI k))) S))).mono ?_;rintro e w8 hm;obtain⟨v,B',hm1,y,L,Y,hcl,s,b⟩:=hm.all;rw[X.out,HER.out] at hm1;rw[X.out] at y;rw[HRK.out] at L;subst hm1;have U:=O (b.blk (f.b 0) (fun e=>by have:=q.out _ e;have:=d.1;omega));have HV4:=O (fun i (I:v.ownBlock=some i) (e:i=b4)=>show False from by have:=s i I;have:=d.2;omega);have z:=aJ (v:=v) y.pt.sum;have H:=aT y.pt;obtain⟨qc,n⟩:∃l,aE v pp=l:=⟨_,rfl⟩
 have HOQ:Hid (∀u∈qc,u.oneCell'=true):=O (by rw[←n];exact H);have HQC:=O n;have j:=O f.keep;have HKI:=O L;have HPV:=O y;have V:=O Y;have HCL:=O hcl;have HNW:=O s;have HK8:=O b;rw[n] at z ⊢;clear y L Y hcl s b n H f E
 go_wp2_with ((with_reducible show WL _ _);refine sta 27 (.tmp 4) (.tmp 25) b4 0 qc U.out (by rw[List.size_toArray,aG,z];omega) (szP9 z) HOQ.out ?_)
 intro w9 b hb;rw[aK _ _ (by rw[List.size_toArray,aG,z])] at hb
 have W:Hid (∀i,i=b4->¬B' i):=O (by
  rintro i rfl e;rcases V.out _ e with h|h
  ·have:=q.out _ h;have:=d.1;omega
  ·have:=d.2;omega)
 have HP:Hid (cN w c B (.slice none 0 0) (S.lay (l+1) k).1 (S.lay (l+1) k).2 (.returned (.tuple #[.agg qc.toArray,.int .i64 er])) w9):=O ⟨v,B',by rw[G.1,G.2.1,HQC.out],by rw[G.1];exact HPV.keepT b (fun i I e=>HV4.out i I e),by rw[G.2.2];exact HKI.keepT b W.out,fun i e=>(V.out i e).imp id (fun h=>Nat.le_trans j.size h),((Cl.refl _ _ _ j.out).trans HCL.out).trans (fun i e=>(by
  by_cases h:IsC w8 i
  ·obtain⟨cs,t,h⟩:=h
   exact .inl ⟨cs,t,b.blk h (fun e2=>W.out i e2 e)⟩
  ·exact .inr ⟨e,h⟩)),.inr (HNW.from j.size),(j.any.trans HK8.out).trans' b (fun _ _ h=>h) (fun i I e=>by have:=d.1;omega)⟩
 have HB9:=O hb;clear b hb U;go_wp2_with fail;refine bodyPost_ret (bN rfl _ _ b4 _ _ _ _ rfl HB9.out aH rfl (by rw[List.size_toArray,z];exact dM)) rfl ?_;exact HP.out
theorem Ln(d:KI w c S B)(f:l≤2)(k:Nat->Tr)(b:∀i,i<4->Tr.Ok S l (k i))(vs:Nat->Value)(h:cI w B vs (fun i=>(k i).ptr)):Calls Tryz.prog 88 #[.pointer c,.agg (cH ((l+1:Nat):Int) vs (fun i=>(k i).ptr)).toArray] w (cN w c B (.slice none 0 0) (S.lay (l+1) k).1 (S.lay (l+1) k).2):=by
 cases e:gH k with
 | true=>exact Ju d f k b vs h e
 | false=>exact Jv d f k b vs h e
theorem Ce(e:KI w c S B)(vv:Value)(bs:List UInt8)(b:bs.length=256)(f:Rd w 1 vv 256 (bs.map vb))(d:∀i,vv.ownBlock=some i->¬B i):Calls Tryz.prog 93 #[.pointer c,vv] w (cN w c B (.slice none 0 0) (S.leaf bs).1 (S.leaf bs).2):=by
 by_cases h:bs=zB
 ·subst h;exact AP e vv f
 ·exact AQ e vv bs b h f d
end
end Go.Proofs.YtiinnfhjpaeffaaGreat
