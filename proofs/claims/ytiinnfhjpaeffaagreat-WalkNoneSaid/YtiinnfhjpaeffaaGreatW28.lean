import Derived.Test.YtiinnfhjpaeffaaGreatW1
import Derived.Test.YtiinnfhjpaeffaaGreatW27
import Derived.Deep.DeepAppendRoom
namespace Go.Proofs.YtiinnfhjpaeffaaGreat
set_option maxHeartbeats 64000000
set_option maxRecDepth 100000
set_option linter.unusedVariables false
section
open Go.RowKit Go.Maps Go.ChangeMaps
theorem BP{P:Program}(w:World)(T e:TypeId)(len size i:Nat)(cs:Array Value)(k:IntKind)(d:TypeDesc)(hu:P.underlying T=some (.array len e))(hi:i<len)(hue:P.underlying e=some d)(hd:(match d with|.struct _|.array _ _=>true|_=>false)=true)(hs:(P.info? e).map (·.size)=some size) :
 (Instr.index T (.agg cs) (.int k (i:Int))).run P w=.ok (.agg (cs.extract (i*size) (i*size+size))) w:=by
 cases hq:P.info? e with
 | none=>simp[hq] at hs
 | some ie =>
   have hsz:ie.size=size:=by simpa [hq] using hs
   have hagg:(isAgg e).run P w=.ok true w:=by
    unfold isAgg;rw[Sem.run_bind,run_underlying hue w];cases d<;>simp_all
   have h1:(0:Int)≤(i:Int)/\(i:Int)<(len:Int):=by omega
   simp[Instr.index,asIntOf,run_underlying hu,sizeOf,typeInfo,hq,hsz,h1,part,hagg,Sem.run_bind];intro h2;omega
theorem idx{P:Program}{w:World}{ops:Array Oper}{rest:List Oper}{o:Oper}{a:Act}{Q:Exit->Act->World->Prop}(T e:TypeId)(len size i:Nat)(cs:Array Value)(k:IntKind)(d:TypeDesc)(x y:Operand)(hu:P.underlying T=some (.array len e))(hi:i<len)(hue:P.underlying e=some d)(hd:(match d with|.struct _|.array _ _=>true|_=>false)=true)(hs:(P.info? e).map (·.size)=some size)
 (h:wpList P ops Q rest (a.put o.dst (.agg (cs.extract (i*size) (i*size+size)))) w) (hx:a.eval x=.agg cs:=by rfl) (hy:a.eval y=.int k (i:Int):=by rfl) (hg:o.guard=none:=by rfl) (ho:o.op=.index T x y:=by rfl):wpList P ops Q (o::rest) a w:=by
 refine wpList_plain hg fun K hK=>?_
 unfold Oper.wp execOp;simp only[ho,hx,hy,Sem.run_bind,BP w T e len size i cs k d hu hi hue hd hs,Result.andThen_ok];exact hK _ _ h
theorem xL{A C:List Value}(h:A.length=35):(A++C).take 35=A:=by rw[←h,List.take_left]
theorem mO{A C:List Value}(h:A.length=35):(A++C).drop 35=C:=by rw[←h,List.drop_left]
def uX(vs:Nat->Value)(ps:Nat->Pt):List Value:=aE (vs 0) (ps 0)++(aE (vs 1) (ps 1)++(aE (vs 2) (ps 2)++aE (vs 3) (ps 3)))
theorem Mv{w:World}{vs:Nat->Value}{ps:Nat->Pt}(hv:dE w vs ps){k:Nat}(hk:k<4):(uX vs ps).toArray.extract (k*35) (k*35+35)=(aE (vs k) (ps k)).toArray:=by
 have l0:=aJ (v:=vs 0) (hv 0 (by omega)).sum;have l1:=aJ (v:=vs 1) (hv 1 (by omega)).sum;have l2:=aJ (v:=vs 2) (hv 2 (by omega)).sum;have l3:=aJ (v:=vs 3) (hv 3 (by omega)).sum;rw[List.extract_toArray,List.extract_eq_take_drop,Nat.add_sub_cancel_left]
 congr 1
 unfold uX;rcases k with _|_|_|_|k
 ·exact xL l0
 ·rw[show (0+1)*35=35 from rfl,mO l0];exact xL l1
 ·rw[show (0+1+1)*35=35+35 from rfl,←List.drop_drop,mO l0,mO l1];exact xL l2
 ·rw[show (0+1+1+1)*35=35+(35+35) from rfl,←List.drop_drop,←List.drop_drop,mO l0,mO l1,mO l2,←l3,List.take_length]
 ·omega
theorem xM{P:Program}{w:World}{ops:Array Oper}{rest:List Oper}{o:Oper}{a:Act}{Q:Exit->Act->World->Prop}(hgd:o.guard=none)(s x:Operand)(t:TypeId)
 (ho:o.op=.call { callee:=.builtin .append,args:=#[s,x],argTypes:=#[t,t] })
 (e:TypeId) (i:TypeInfo) (ht:P.underlying t=some (.slice e)) (hi:P.info? e=some i) (hsize:i.size=1)
 (g n cap:Nat) (cur:Array Value) (hb:w.heap[g]?=some (.cells cur e (0,0))) (hs:a.eval s=.slice (some ⟨g,0,none⟩) n cap)
 (ad:Addr) (m c:Nat) (news:List Value) (hx:a.eval x=.slice (some ad) m c) (hl:news.length=m) (hnews:∀j u,news[j]?=some u->w.cell? (ad.add j)=some u) (h1:∀u∈news,u.oneCell'=true)
 (hroom:n+m≤cap) (hfit:n+m≤cur.size)
 (h:∀w',w'.heap[g]?=some (.cells (spl cur n news) e (0,0))->aA (fun k=>k=g) w w'->wpList P ops Q rest (a.put o.dst (.slice (some ⟨g,0,none⟩) (n+m) cap)) w'):wpList P ops Q (o::rest) a w:=by
 have hr:=run_append_room (P:=P) w t o.type e i ht hi g n cap cur hb ad m c news (by rw[hsize,Nat.mul_one];exact hl) hnews h1 hroom (by rw[hsize,Nat.mul_one,hl];exact hfit);refine wpList_plain hgd fun K hK=>?_
 unfold Oper.wp execOp;simp only[ho,resolve,invoke,builtin,Sem.run_bind,Sem.run_pure,Result.andThen_ok,List.map_toArray,List.map_cons,List.map_nil,hs,hx,hr];refine hK _ _ (h _ ?_ ⟨rfl,rfl,rfl,by simp,fun k _ hk=>setRow_other w g k _ hk⟩);rw[setRow_heap w g cur _ e _ hb,←tJ cur n news (by rw[hl];exact hfit)];simp[hsize]
theorem N8(w:World):(Instr.makeSlice 109 (.int .i64 1) (.int .i64 256)).run Tryz.prog w=.ok (.slice (some ⟨w.heap.size,0,none⟩) 1 256) (w.alloc (.cells dB.toArray 5)):=by kernel_rfl
theorem mks{w:World}{ops:Array Oper}{rest:List Oper}{o:Oper}{a:Act}{Q:Exit->Act->World->Prop}(x y:Operand)(h:∀b w',w.heap.size=b->aA aB w w'->w'.heap[b]?=some (.cells dB.toArray 5 (0,0))->wpList Tryz.prog ops Q rest (a.put o.dst (.slice (some ⟨b,0,none⟩) 1 256)) w')(hx:a.eval x=.int .i64 1:=by rfl)(hy:a.eval y=.int .i64 256:=by rfl)(hg:o.guard=none:=by rfl)(ho:o.op=.makeSlice 109 x y:=by rfl):wpList Tryz.prog ops Q (o::rest) a w:=by
 refine wpList_plain hg fun K hK=>?_
 unfold Oper.wp execOp;simp only[ho,hx,hy,Sem.run_bind,N8,Result.andThen_ok];exact hK _ _ (h _ _ rfl ((aA.refl _ _).alloc _) (heap_alloc_new _ _))
theorem Nw(w:World):(Instr.makeSlice 109 (.int .i64 256) (.int .i64 256)).run Tryz.prog w=.ok (.slice (some ⟨w.heap.size,0,none⟩) 256 256) (w.alloc (.cells dB.toArray 5)):=by kernel_rfl
theorem mkz{w:World}{ops:Array Oper}{rest:List Oper}{o:Oper}{a:Act}{Q:Exit->Act->World->Prop}(x y:Operand)(h:∀b w',w.heap.size=b->aA aB w w'->w'.heap[b]?=some (.cells dB.toArray 5 (0,0))->wpList Tryz.prog ops Q rest (a.put o.dst (.slice (some ⟨b,0,none⟩) 256 256)) w')(hx:a.eval x=.int .i64 256:=by rfl)(hy:a.eval y=.int .i64 256:=by rfl)(hg:o.guard=none:=by rfl)(ho:o.op=.makeSlice 109 x y:=by rfl):wpList Tryz.prog ops Q (o::rest) a w:=by
 refine wpList_plain hg fun K hK=>?_
 unfold Oper.wp execOp;simp only[ho,hx,hy,Sem.run_bind,Nw,Result.andThen_ok];exact hK _ _ (h _ _ rfl ((aA.refl _ _).alloc _) (heap_alloc_new _ _))
def mP(lv:Nat)(ps:Nat->Pt)(k:Nat):List UInt8:=UInt8.ofNat lv::(List.range k).flatMap fun j=>ptB (ps j)
theorem Bc(lv:Nat)(ps:Nat->Pt)(k:Nat):mP lv ps (k+1)=mP lv ps k++ptB (ps k):=by unfold mP;rw[List.range_succ,List.flatMap_append,List.flatMap_cons,List.flatMap_nil,List.append_nil];rfl
theorem sR(lv:Nat)(ps:Nat->Pt)(h:∀k,k<4->(ptB (ps k)).length=47):∀k,k≤4->(mP lv ps k).length=1+k*47
 | 0,_=>rfl
 | k+1,hk=>by rw[Bc,List.length_append,sR lv ps h k (by omega),h k (by omega)];omega
def pU(lv:Nat)(ps:Nat->Pt)(k:Nat):List Value:=(mP lv ps k).map vb++List.replicate (255-k*47) (.int .u8 0)
theorem xN(lv:Nat)(ps:Nat->Pt)(h:∀k,k<4->(ptB (ps k)).length=47)(k:Nat)(hk:k≤4):(pU lv ps k).length=256:=by
 unfold pU;rw[List.length_append,List.length_map,sR lv ps h k hk,List.length_replicate];omega
theorem IR(lv:Nat)(ps:Nat->Pt)(h:∀k,k<4->(ptB (ps k)).length=47)(k:Nat)(hk:k<4):spl (pU lv ps k).toArray (1+k*47) ((ptB (ps k)).map vb)=(pU lv ps (k+1)).toArray:=by
 have hl:=sR lv ps h k (by omega);have h7:=h k hk;rw[←tJ _ _ _ (by rw[List.size_toArray,xN lv ps h k (by omega),List.length_map,h7];omega)]
 congr 1
 unfold pU;rw[Bc,List.map_append,List.append_assoc];have e1:(mP lv ps k).map vb=((mP lv ps k).map vb++List.replicate (255-k*47) (Value.int .u8 0)).take (1+k*47):=by rw[List.take_left' (by rw[List.length_map,hl])]
 simp only[];rw[←e1,List.length_map,h7]
 congr 2
 rw[←List.drop_drop,List.drop_left' (by rw[List.length_map,hl]),List.drop_replicate]
 congr 1
 omega
theorem N9:(Tryz.prog.info? 96).map (·.size)=some 140:=by kernel_rfl
theorem IS(lv:Nat)(hlv:lv<256)(ps:Nat->Pt):spl dB.toArray 0 [.int .u8 (lv:Int)]=(pU lv ps 0).toArray:=by
 rw[←tJ _ _ _ (by simp[lM])]
 congr 1
 unfold pU mP;rw[List.map_cons,Lx hlv];rfl
def uY(w:World)(lv:Nat)(ps:Nat->Pt)(e:Ending)(w':World):Prop:=
 ∃v,e=.returned (.tuple #[v,.int .i64 0])/\w'.ownsRow w.heap.size 5 1 v 256 (pU lv ps 4)/\aA aB w w'
theorem Mw{w:World}{vs:Nat->Value}{ps:Nat->Pt}{lv:Int}(h:dE w vs ps)(hf:∀k,k<4->Au lv (ps k)):∀k,k<4->(ptB (ps k)).length=47:=fun k hk=>by
 have hm:(ps k).may=true:=(hf k hk).elim jI fun h=>h.2.1
 unfold ptB;rw[if_pos hm,eP (h k hk).sum]
theorem mQ{w:World}{base b:Nat}{cs:List Value}(hb:w.heap[b]?=some (.cells cs.toArray 5 (0,0)))(hl:cs.length=256)(hge:base≤b):w.ownsRow base 5 1 (.slice (some ⟨b,0,none⟩) 256 256) 256 cs:=by
 refine⟨by simp[hl],.inr ⟨b,256,cs.toArray,rfl,hge,hb,Nat.le_refl _,by unfold maxLen;omega,by simp[hl],?_⟩⟩;rw[List.toList_toArray,←hl];simp
theorem Be(w:World)(lv:Nat)(vs:Nat->Value)(ps:Nat->Pt)(h:dE w vs ps)(h1:1≤lv)(h3:lv≤3)(hf:∀k,k<4->Au (lv:Int) (ps k)):Calls Tryz.prog 113 #[.agg (cE (lv:Int) vs ps).toArray] w (uY w lv ps):=by
 have hnc:=dY (lv:Int) vs h
 have htc:(uX vs ps).length=140:=by
  have:=hnc;unfold cE at this;rw[List.length_cons] at this;unfold uX;omega
 obtain⟨tc,htce⟩:∃l,uX vs ps=l:=⟨_,rfl⟩
 obtain⟨nc,hnce⟩:∃l,cE (lv:Int) vs ps=l:=⟨_,rfl⟩
 have HNT:Hid (nc=.int .i64 (lv:Int)::tc):=O (by rw[←hnce,←htce];rfl);have HTC:=O htce;have HON:Hid (∀u∈nc,u.oneCell'=true):=O (by rw[←hnce];exact dI (lv:Int) h);have HNS:=O hnce;have H47:=O (Mw h hf);rw[hnce] at hnc ⊢;rw[htce] at htc;have HNV:=O h;have HF:=O hf;have h10:0≤(lv:Int):=by omega
 have h13:(lv:Int)≤3:=by omega
 have HL:=lN w;clear h hnce hf htce;have HNV0:=HNV;go_in
 go_wp2_with ((with_reducible show WL _ _);refine bxL HL 98 (.tmp 0) (nc.toArray) ?_)
 intro b1 w1 hk HL;replace HNV:=O (dE.keep HNV.out hk);clear hk
 go_wp2_with ((with_reducible show WL _ _);refine wpList_load_mid rfl 98 (.tmp 1) rfl b1 0 rfl nc _ (aD (HL.out.b 0)) Tryz.underlying98 rfl (by rw[hnc];exact dG) ?_)
 refine((by rw[←HNS.out];exact Gh w1 (lv:Int) vs ps HNV.out (by omega) (by omega) HF.out:Calls _ _ _ w1 (aK w1 (.int .i64 0)))).mono ?_;rintro e w2 ⟨rfl,hk⟩;replace HL:=kL HL hk;replace HNV:=O (dE.keep HNV.out hk);clear hk
 go_wp2_with ((with_reducible show WL _ _);refine mks (.const (.int .i64 1)) (.const (.int .i64 256)) ?_)
 intro b15 w3 hbs hk hb;replace HL:=lW HL hbs hk hb;replace HNV:=O (dE.keep HNV.out hk);clear hbs hk hb;have c1:w3.cell? ⟨b1,0,none⟩=some (.int .i64 (lv:Int)):=(aC (i:=0) (HL.out.b 1) (by rw[HNT.out];rfl))
 go_wp2_with ((with_reducible show WL _ _);refine sta 5 (.tmp 20) (.tmp 19) b15 0 ([.int .u8 (lv:Int)]) (HL.out.b 0) (by simp[lM]) (by kernel_rfl) (one9) ?_)
 clear c1;intro w4 hk hb;rw[IS lv (by omega) ps] at hb;replace HL:=O (HL.out.set 0 hk hb);replace HNV:=O (dE.keep HNV0.out HL.out.keep);clear hk hb
 go_wp2_with ((with_reducible show WL _ _);refine wpList_load_mid rfl 96 (.tmp 21) rfl b1 1 rfl tc _ (by have h:=aD (HL.out.b 1);rw[HNT.out] at h;exact yZ h) Tryz.underlying96 rfl (by rw[htc];exact N9) ?_)
 have HB:=O (HL.out.b 1);have HB15:=O (HL.out.b 0);have HGE:=O (HL.out.lt 0);have HNE:Hid (b1≠b15):=O (fun e=>by have h1:=HB.out;rw[e,HB15.out] at h1;injection h1 with h1;injection h1 with h1 h2;revert h2;decide);have HK0:=O HL.out.keep
 obtain⟨iu,hiu,hsu⟩:∃i,Tryz.prog.info? 5=some i/\i.size=1:=by
  cases hq:Tryz.prog.info? 5 with
  | none=>have:=yA;rw[hq] at this;cases this
  | some i=>exact⟨i,rfl,by have:=yA;rw[hq] at this;simpa using this⟩
 have HIU:=O hiu;have HSU:=O hsu;clear HL HNV hiu hsu
 go_loopw [5,23] (fun s i wr=>∃k:Nat,k≤4/\s=.slice (some ⟨b15,0,none⟩) (1+k*47) 256/\i=.int .i64 k/\Hid (aA aB w wr)/\Hid (wr.heap[b15]?=some (.cells (pU lv ps k).toArray 5 (0,0)))) (fun _ i _=>4-(intOf i).toNat)
 case atStart=>exact⟨0,by omega,rfl,rfl,HK0,HB15⟩
 case round =>
  obtain⟨k,hk,rfl,rfl,HK,HB5⟩:=hrel
  by_cases hk8:k<4
  ·have HNW:=O (dE.keep HNV0.out HK.out)
   have hpk:=aJ (v:=vs k) (HNV0.out k hk8).sum;have HEX:=O (Mv HNV0.out hk8);rw[HTC.out] at HEX;have HMY:Hid ((ps k).may=true):=O ((HF.out k hk8).elim jI fun h=>h.2.1);have HL7:=O (H47.out k hk8);obtain⟨pk,hpke⟩:∃l,aE (vs k) (ps k)=l:=⟨_,rfl⟩
   have HOK:Hid (∀u∈pk,u.oneCell'=true):=O (by rw[←hpke];exact aU (HNV0.out k hk8));have HPK:=O hpke;rw[hpke] at hpk HEX;have HL:=lN wr;have hk0:(0:Int)≤(k:Int):=by omega
   have hk1:(k:Int)<4:=by omega
   clear hpke
   go_wp2_with ((with_reducible show WL _ _);first
    | refine idx 96 27 4 35 k _ .i64 _ (.tmp 22) (.tmp 23) Tryz.underlying96 hk8 aF rfl yK ?_;rw[HEX.out]
    | refine al 27 (.agg aH.toArray) (aH.toArray) bG ?_)
   intro b7 w5 hbs hk0 hb0_
   go_wp2_with ((with_reducible show WL _ _);refine sta 27 (.tmp 7) (.tmp 25) b7 0 pk hb0_ (by first|decide|(rw[List.size_toArray,hpk];exact Nat.le_refl _)|simp[hpk]) (szP9 hpk) HOK.out ?_)
   intro w6 hk hb;rw[aI _ _ (by first|rfl|(rw[List.size_toArray,hpk];rfl)|simp[hpk])] at hb;replace hk:=tX hk0 hk (fun i hi e=>by omega);replace HL:=lW HL hbs hk hb;replace HNW:=O (dE.keep HNW.out hk);replace HB5:=O (hk.blk HB5.out id);clear hbs hk hb hk0 hb0_
   go_wp2_with ((with_reducible show WL _ _);refine wpList_load_mid rfl 27 (.tmp 7) rfl b7 0 rfl pk _ (aD (HL.out.b 0)) aF rfl (szP9 hpk) ?_)
   refine((by rw[←HPK.out];exact uB w6 (vs k) (ps k) (HNW.out k hk8):Calls _ _ _ w6 (AW w6 (ps k)))).mono ?_;rintro e w7 ⟨v1,rfl,ho,hk⟩;rw[if_pos HMY.out];rw[HL7.out] at ho;obtain⟨pa,pc,rfl,-,-⟩:=(Rd.of_owns ho).form;have HO:=O ho;clear ho;replace HL:=kL HL hk;replace HNW:=O (dE.keep HNW.out hk);replace HB5:=O (hk.blk HB5.out id);clear hk
   obtain⟨pg,po,pcap,hpv,hpc⟩:∃g o cap,Value.slice pa 47 pc=.slice (some ⟨g,o,none⟩) 47 cap/\∀j u,((ptB (ps k)).map vb)[j]?=some u->w7.cell? ⟨g,o+j,none⟩=some u:=by
    obtain⟨_,a',cap,he,-,-,-,h4⟩:=Rd.of_owns HO.out;obtain⟨g,o,rfl,hc⟩:=h4 (by rw[List.length_map,HL7.out];decide);exact⟨g,o,cap,he,hc⟩
   injection hpv with e1 e2 e3
   subst e1;subst e3;have HCC:=O hpc;clear hpc e2;have HB6:=HB5;have HKL:=O HL.out.keep
   go_wp2_with (first
    | (at_builtin;refine xM rfl (.tmp 31) (.tmp 32) 109 rfl 5 iu Tryz.underlying109 HIU.out HSU.out b15 (1+k*47) 256 _ HB6.out rfl ⟨pg,po,none⟩ 47 pc ((ptB (ps k)).map vb) rfl (by rw[List.length_map,HL7.out]) (fun j u hj=>by rw[lB];exact HCC.out j u hj) (bN _) (by omega) (by rw[List.size_toArray,xN lv ps H47.out k (by omega)];omega) ?_))
   intro w9 hb hk;rw[IR lv ps H47.out k hk8] at hb;have HK8:Hid (aA aB w w9):=O ((HK.out.trans HKL.out).trans' hk (fun _ _ h=>h) (fun i hi e=>by have:=HGE.out.1;omega));have HB8:=O hb;clear hb hk HL HNW HB5 HO HCC HB6 HKL;go_wp2
   go_roundw
   case rel=>exact⟨k+1,by omega,(by rw[show 1+(k+1)*47=1+k*47+47 by omega]),by go_num,HK8,HB8⟩
   case measure=>simp[intOf];omega
  ·obtain rfl:k=4:=by omega
   go_wp2
   go_ret2
   exact⟨_,rfl,mQ HB5.out (xN lv ps H47.out 4 (by omega)) HGE.out.1,HK.out⟩
def nb(lv:Nat)(ps:Nat->Pt):List UInt8:=mP lv ps 4++List.replicate 67 0
theorem IV(lv:Nat)(ps:Nat->Pt):(nb lv ps).map vb=pU lv ps 4:=by unfold nb pU;rw[List.map_append,List.map_replicate];rfl
theorem Nx(lv:Nat)(ps:Nat->Pt)(h:∀k,k<4->(ptB (ps k)).length=47):(nb lv ps).length=256:=by
 unfold nb;rw[List.length_append,sR lv ps h 4 (by omega),List.length_replicate]
def gQ{α:Type}(f:Nat->α)(k:Nat)(v:α):Nat->α:=fun j=>if j=k then v else f j
theorem rK{α:Type}(f:Nat->α)(k:Nat)(v:α):gQ f k v k=v:=if_pos rfl
theorem rL{α:Type}(f:Nat->α){k j:Nat}(v:α)(h:j≠k):gQ f k v j=f j:=if_neg h
theorem lE(P A B R:List Value)(h:B.length=A.length):spl (P++(A++R)).toArray P.length B=(P++(B++R)).toArray:=by
 rw[←tJ _ _ _ (by simp;omega)]
 congr 1
 rw[List.toList_toArray,List.take_left,←List.drop_drop,List.drop_left,h,List.drop_left]
theorem Ny{w:World}{vs:Nat->Value}{ps:Nat->Pt}(hv:dE w vs ps)(lv:Int){k:Nat}(hk:k<4){v:Value}{p:Pt}(hp:p.sum.length=32):spl (cE lv vs ps).toArray (1+k*35) (aE v p)=(cE lv (gQ vs k v) (gQ ps k p)).toArray:=by
 have l0:=aJ (v:=vs 0) (hv 0 (by omega)).sum;have l1:=aJ (v:=vs 1) (hv 1 (by omega)).sum;have l2:=aJ (v:=vs 2) (hv 2 (by omega)).sum;have l3:=aJ (v:=vs 3) (hv 3 (by omega)).sum;have lp:=aJ (v:=v) hp;rcases k with _|_|_|_|k
 ·exact lE [.int .i64 lv] (aE (vs 0) (ps 0)) (aE v p) (aE (vs 1) (ps 1)++(aE (vs 2) (ps 2)++aE (vs 3) (ps 3))) (by rw[lp,l0])
 ·have h:=lE (.int .i64 lv::aE (vs 0) (ps 0)) (aE (vs 1) (ps 1)) (aE v p) (aE (vs 2) (ps 2)++aE (vs 3) (ps 3)) (by rw[lp,l1])
  rw[List.length_cons,l0] at h;exact h
 ·have h:=lE (.int .i64 lv::(aE (vs 0) (ps 0)++aE (vs 1) (ps 1))) (aE (vs 2) (ps 2)) (aE v p) (aE (vs 3) (ps 3)) (by rw[lp,l2])
  rw[List.length_cons,List.length_append,l0,l1,List.cons_append,List.cons_append,List.append_assoc,List.append_assoc] at h;exact h
 ·have h:=lE (.int .i64 lv::(aE (vs 0) (ps 0)++(aE (vs 1) (ps 1)++aE (vs 2) (ps 2)))) (aE (vs 3) (ps 3)) (aE v p) [] (by rw[lp,l3])
  rw[List.length_cons,List.length_append,List.length_append,l0,l1,l2,List.cons_append,List.cons_append,List.append_assoc,List.append_assoc,List.append_assoc,List.append_assoc,List.append_nil,List.append_nil] at h;exact h
 ·omega
def sS(ps:Nat->Pt)(k:Nat):Nat->Pt:=fun j=>if j<k then ps j else zPt
theorem Bf(ps:Nat->Pt)(k:Nat):sS ps (k+1)=gQ (sS ps k) k (ps k):=by
 funext j
 unfold sS gQ
 by_cases e:j=k
 ·subst e;rw[if_pos (by omega),if_pos rfl]
 ·rw[if_neg e]
  show _=if j<k then ps j else zPt
  by_cases h:j<k
  ·rw[if_pos h,if_pos (by omega)]
  ·rw[if_neg h,if_neg (by omega)]
def IsC(w:World)(k:Nat):Prop:=∃cs t,w.heap[k]?=some (.cells cs t (0,0))
theorem IsC.lt{w:World}{k:Nat}(h:IsC w k):k<w.heap.size:=by obtain⟨cs,t,h⟩:=h;exact lt_of_block h
theorem IsC.keep{T:Nat->Prop}{w w':World}{k:Nat}(h:IsC w k)(kp:aA T w w')(hT:¬T k):IsC w' k:=by obtain⟨cs,t,h⟩:=h;exact⟨cs,t,kp.blk h hT⟩
def qY(w0 w:World)(v:Value):Prop:=∀i,v.ownBlock=some i->w0.heap.size≤i/\IsC w i
theorem qY.keep{T:Nat->Prop}{w0 w w':World}{v:Value}(h:qY w0 w v)(k:aA T w w')(hT:∀i,v.ownBlock=some i->¬T i):qY w0 w' v:=fun i hi=>⟨(h i hi).1,(h i hi).2.keep k (hT i hi)⟩
def fC(w0 w:World)(vs:Nat->Value)(ps:Nat->Pt):Prop:=∀k,k<4->PtV w (vs k) (ps k)/\qY w0 w (vs k)
theorem fC.nv{w0 w:World}{vs:Nat->Value}{ps:Nat->Pt}(h:fC w0 w vs ps):dE w vs ps:=fun k hk=>(h k hk).1
theorem fC.keep{T:Nat->Prop}{w0 w w':World}{vs:Nat->Value}{ps:Nat->Pt}(h:fC w0 w vs ps)(k:aA T w w')(hT:∀i,T i->¬(w0.heap.size≤i/\∃j,j<4/\(vs j).ownBlock=some i)):fC w0 w' vs ps:=fun i hi =>
 ⟨(h i hi).1.keep k fun j hj e=>hT j e ⟨((h i hi).2 j hj).1,i,hi,hj⟩,fun j hj=>⟨((h i hi).2 j hj).1,((h i hi).2 j hj).2.keep k fun e=>hT j e ⟨((h i hi).2 j hj).1,i,hi,hj⟩⟩⟩
theorem fC.keep0{w0 w w':World}{vs:Nat->Value}{ps:Nat->Pt}(h:fC w0 w vs ps)(k:aA aB w w'):fC w0 w' vs ps:=h.keep k fun _ e=>e.elim
theorem sU(w:World):PtV w (.slice none 0 0) zPt:=⟨Rd.nil w 2,fun x hx=>(by cases hx),rfl⟩
theorem fC.zero(w0 w:World):fC w0 w (fun _=>.slice none 0 0) (fun _=>zPt):=fun _ _=>⟨sU w,fun i hi=>by cases hi⟩
theorem fC.put{w0 w:World}{vs:Nat->Value}{ps:Nat->Pt}(h:fC w0 w vs ps){k:Nat}{v:Value}{p:Pt}(hp:PtV w v p)(hn:qY w0 w v):fC w0 w (gQ vs k v) (gQ ps k p):=fun i hi=>by
 by_cases e:i=k
 ·subst e;rw[rK,rK];exact⟨hp,hn⟩
 ·rw[rL _ _ e,rL _ _ e];exact h i hi
def wH(w:World)(lv:Nat)(ps:Nat->Pt)(e:Ending)(w':World):Prop:=
 ∃vs,e=.returned (.tuple #[.agg (cE (lv:Int) vs ps).toArray,.int .i64 0])/\fC w w' vs ps/\aA aB w w'
theorem KL(lv:Int):Tryz.prog.built 98 [(0,.int .i64 lv)]=some (cE lv (fun _=>.slice none 0 0) (fun _=>zPt)).toArray:=by kernel_rfl
theorem Aw(lv:Int)(w:World):(Instr.build 98 #[(0,.int .i64 lv)]).run Tryz.prog w=.ok (.agg (cE lv (fun _=>.slice none 0 0) (fun _=>zPt)).toArray) w:=run_build w 98 _ _ (KL lv)
theorem My{w:World}{g o a n c k:Nat}{l:List UInt8}{bs:List UInt8}(hc:∀j u,(l.map vb)[j]?=some u->w.cell? ⟨g,o+j,none⟩=some u)(hs:(l.drop k).take 47=bs)(hl:bs.length=47)(ha:a=o+k)(hn:n=47)(h1:47≤c)(h2:c≤maxLen):Rd w 1 (.slice (some ⟨g,a,none⟩) n c) bs.length (bs.map vb):=by
 subst ha hn;rw[hl];refine⟨by rw[List.length_map,hl],_,_,rfl,h1,h2,(fun e=>by cases e),fun _=>⟨g,_,rfl,fun i u hi=>?_⟩⟩;rw[show o+k+i=o+(k+i) by omega];refine hc _ _ ?_;rw[←hs,List.getElem?_map,List.getElem?_take] at hi;split at hi
 ·rw[List.getElem?_drop] at hi
  rw[List.getElem?_map];exact hi
 ·cases hi
theorem Mz(lv:Nat)(ps:Nat->Pt)(h:∀k,k<4->(ptB (ps k)).length=47){k:Nat}(hk:k<4):((nb lv ps).drop (1+k*47)).take 47=ptB (ps k):=by
 have e:mP lv ps 4=UInt8.ofNat lv::(ptB (ps 0)++(ptB (ps 1)++(ptB (ps 2)++ptB (ps 3)))):=by
  unfold mP;simp[List.range_succ]
 have l0:=h 0 (by omega);have l1:=h 1 (by omega);have l2:=h 2 (by omega);have l3:=h 3 (by omega);unfold nb;rw[e]
 have cut:∀(A B C:List UInt8) (n:Nat),A.length=n->B.length=47->((A++(B++C)).drop n).take 47=B:=fun A B C n hA hB=>by
  rw[←hA,List.drop_left,←hB,List.take_left]
 rcases k with _|_|_|_|k
 ·exact(congrArg (fun l=>(List.drop 1 l).take 47) (by simp[List.append_assoc])).trans (cut [UInt8.ofNat lv] (ptB (ps 0)) (ptB (ps 1)++(ptB (ps 2)++(ptB (ps 3)++List.replicate 67 0))) 1 rfl l0)
 ·exact(congrArg (fun l=>(List.drop 48 l).take 47) (by simp[List.append_assoc])).trans (cut (UInt8.ofNat lv::ptB (ps 0)) (ptB (ps 1)) (ptB (ps 2)++(ptB (ps 3)++List.replicate 67 0)) 48 (by simp[l0]) l1)
 ·exact(congrArg (fun l=>(List.drop 95 l).take 47) (by simp[List.append_assoc])).trans (cut (UInt8.ofNat lv::(ptB (ps 0)++ptB (ps 1))) (ptB (ps 2)) (ptB (ps 3)++List.replicate 67 0) 95 (by simp[l0,l1]) l2)
 ·exact(congrArg (fun l=>(List.drop 142 l).take 47) (by simp[List.append_assoc])).trans (cut (UInt8.ofNat lv::(ptB (ps 0)++(ptB (ps 1)++ptB (ps 2)))) (ptB (ps 3)) (List.replicate 67 0) 142 (by simp[l0,l1,l2]) l3)
 ·omega
theorem KM{p:Pt}(hs:p.sum.length=32)(hm:p.may=true):kQ (ptB p)=true/\fZ (ptB p)=p:=by
 have h1:=IU hs hm;have h2:=eP hs;unfold ptB;rw[if_pos hm,h1];unfold kQ;rw[h1,h2,hm];unfold ptB;rw[if_pos hm];simp
theorem wI(w:World)(bv:Value)(lv:Nat)(ps:Nat->Pt)(h1:1≤lv)(h3:lv≤3)(hs:∀k,k<4->(ps k).sum.length=32)(hf:∀k,k<4->Au (lv:Int) (ps k))(hr:Rd w 1 bv 256 ((nb lv ps).map vb)):Calls Tryz.prog 75 #[bv] w (wH w lv ps):=by
 have hmy:∀k,k<4->(ps k).may=true:=fun k hk=>(hf k hk).elim jI fun h=>h.2.1
 have h47:∀k,k<4->(ptB (ps k)).length=47:=fun k hk=>by unfold ptB;rw[if_pos (hmy k hk),eP (hs k hk)]
 have HNL:=O (Nx lv ps h47);obtain⟨_,oa,ca,rfl,hca,hcm,-,hce⟩:=id hr;obtain⟨g,o,rfl,hcc⟩:=hce (by rw[List.length_map,HNL.out];decide);unfold maxLen at hcm;have HC:=O hcc;have HCM:=O (show ca≤maxLen from hcm);have HR:=O hr;have HR0:=HR;have hc0:w.cell? ⟨g,o,none⟩=some (.int .u8 (lv:Int))  :=hcc 0 _ (by unfold nb mP;rw[List.cons_append,List.map_cons,Lx (by omega)];rfl);have HC0:=O hc0;have HMY:=O hmy;have HSS:=O hs;have HF:=O hf;have H47:=O h47;have hnz:(cE (lv:Int) (fun _=>.slice none 0 0) (fun _=>zPt)).length=141:=rfl;have HOZ0:Hid (∀u∈cE (lv:Int) (fun _=>.slice none 0 0) (fun _=>zPt),u.oneCell'=true):=O (dI (w:=w) (lv:Int) fun _ _=>sU w);have hbn:=Aw (lv:Int);obtain⟨nz,hnze⟩:∃l,cE (lv:Int) (fun _=>.slice none 0 0) (fun _=>zPt)=l:=⟨_,rfl⟩
 have HOZ:Hid (∀u∈nz,u.oneCell'=true):=O (by rw[←hnze];exact HOZ0.out);have HNZ:=O hnze;rw[hnze] at hnz hbn;have HBN:=O hbn;have h10:0≤(lv:Int):=by omega
 have h13:(lv:Int)≤3:=by omega
 have HL:=lN w;clear hr hce hcc hc0 hmy hs hf h47 hnze hbn HOZ0;go_in
 go_wp2_with ((with_reducible show WL _ _);refine alL HL 98 (.agg dC.toArray) (dC.toArray) jK ?_)
 intro b2 w1 hk HL;replace HC0:=O (hk.cell HC0.out id);replace HR:=O (HR.out.keep hk fun _ _=>id);clear hk;have c1:w1.cell? ⟨g,o,none⟩=some (.int .u8 (lv:Int)):=HC0.out
 go_wp2_with ((with_reducible show WL _ _);first
  | refine bld 98 #[(0,.tmp 17)] [(0,.int .i64 (lv:Int))] (.agg nz.toArray) HBN.out ?_
  | refine al 98 (.agg dC.toArray) (dC.toArray) jK ?_)
 clear c1;intro b4 w2 hbs hk0 hb0_
 go_wp2_with ((with_reducible show WL _ _);refine sta 98 (.tmp 4) (.tmp 18) b4 0 nz hb0_ (by first|decide|(rw[List.size_toArray,hnz];exact Nat.le_refl _)|simp[hnz,bT]) (by rw[hnz];exact dG) HOZ.out ?_)
 intro w3 hk hb;rw[aI _ _ (by first|rfl|(rw[List.size_toArray,hnz];rfl)|simp[hnz,bT])] at hb;replace hk:=tX hk0 hk (fun i hi e=>by omega);replace HL:=lW HL hbs hk hb;replace HC0:=O (hk.cell HC0.out id);replace HR:=O (HR.out.keep hk fun _ _=>id);clear hbs hk hb hk0 hb0_;go_wp2_with fail;have HB2:=O (HL.out.b 1);have HB4:=O (HL.out.b 0);have HGE:=O (And.intro (HL.out.lt 1).1 (HL.out.lt 0).1);have HNE:Hid (b2≠b4):=O (fun e=>bF (i:=0) HL.out.nd rfl 1 (by decide) rfl e);have HK0:=O HL.out.keep;clear HL HR HC0
 go_loopw [19] (fun i wr=>∃k:Nat,k≤4/\i=.int .i64 k/\Hid (aA aB w wr)/\Hid (∃vs,fC w wr vs (sS ps k)/\(∀j,j<4->(vs j).ownBlock≠some b2/\(vs j).ownBlock≠some b4)/\wr.heap[b4]?=some (.cells (cE (lv:Int) vs (sS ps k)).toArray 98 (0,0)))/\Hid (wr.heap[b2]?=some (.cells dC.toArray 98 (0,0)))) (fun i _=>4-(intOf i).toNat)
 case atStart=>exact⟨0,by omega,rfl,HK0,O ⟨_,fC.zero w _,fun j hj=>⟨(by intro e;cases e),(by intro e;cases e)⟩,by rw[HB4.out,←HNZ.out];rfl⟩,HB2⟩
 case round =>
  obtain⟨k,hk,rfl,HK,HQ,HB2⟩:=hrel;obtain⟨vs,hnn_,hvo,hb4⟩:=HQ.out;have HNN:=O hnn_;have HVO:=O hvo;have HB4:=O hb4;clear hnn_ hvo hb4 HQ
  by_cases hk8:k<4
  ·have HCW:=O (fun j u h=>HK.out.cell (HC.out j u h) id)
   have HRO:=O (KM (HSS.out k hk8) (HMY.out k hk8));have HL7:=O (H47.out k hk8);have hpk:=aJ (v:=.slice none 0 0) (HSS.out k hk8);have HL:=lN wr;have HWS:=O HK.out.size;have hk0:(0:Int)≤(k:Int):=by omega
   have hk1:(k:Int)<4:=by omega
   have hca2:(256:Int)≤(ca:Int):=by omega
   clear hpk;go_wp2_with fail;refine(Kd wr _ (ptB (ps k)) (My (o:=o) (fun j u h=>HL.out.keep.cell (HCW.out j u h) id) (Mz lv ps H47.out hk8) HL7.out (by omega) (by omega) (by omega) (by unfold maxLen;omega)) HRO.out.1).mono ?_;rintro e w4 ⟨hk,hm⟩;rw[HRO.out.1,if_pos rfl,HRO.out.2] at hm;obtain⟨v1,rfl,ho⟩:=hm;have HPT:=O (show PtV w4 v1 (ps k) from⟨Rd.of_owns ho,(by rw[←HRO.out.2];exact CN _ _),HSS.out k hk8⟩);have HNEW:Hid (qY w w4 v1):=O (fun i hi=>⟨by have:=aS ho hi;have:=HL.out.keep.size;have:=HWS.out;omega,by obtain⟨cur,hc⟩:=aL ho hi;exact⟨_,_,hc⟩⟩);have HOFF:Hid (v1.ownBlock≠some b2/\v1.ownBlock≠some b4):=O ⟨fun e=>by have:=aS ho e;have:=lt_of_block HB2.out;omega,fun e=>by have:=aS ho e;have:=lt_of_block HB4.out;omega⟩;have hpk:=aJ (v:=v1) (HSS.out k hk8);obtain⟨pk,hpke⟩:∃l,aE v1 (ps k)=l:=⟨_,rfl⟩
   have HOK:Hid (∀u∈pk,u.oneCell'=true):=O (by rw[←hpke];exact aU HPT.out);have HPK:=O hpke;rw[hpke] at hpk ⊢;clear hpke ho;replace HL:=kL HL hk;replace HNN:=O (HNN.out.keep0 hk);replace HB4:=O (hk.blk HB4.out id);replace HB2:=O (hk.blk HB2.out id);clear hk;have HKR:=O HL.out.keep;replace HL:=O (Loc.nil aB aB w4);have HNN0:=HNN;have HB40:=HB4;have HB20:=HB2;have HPT0:=HPT;have HNEW0:=HNEW
   go_wp2_with ((with_reducible show WL _ _);refine alL HL 27 (.agg aH.toArray) (aH.toArray) bG ?_)
   intro b6 w5 hk HL;replace HNN:=O (HNN.out.keep0 hk);replace HB4:=O (hk.blk HB4.out id);replace HB2:=O (hk.blk HB2.out id);replace HPT:=O (HPT.out.keep hk fun _ _=>id);replace HNEW:=O (qY.keep HNEW.out hk fun _ _=>id);clear hk
   go_wp2_with ((with_reducible show WL _ _);refine alL HL 182 (.agg #[.int .i64 0,.int .i64 0]) (#[.int .i64 0,.int .i64 0]) (O EU) ?_)
   intro b7 w6 hk HL;replace HNN:=O (HNN.out.keep0 hk);replace HB4:=O (hk.blk HB4.out id);replace HB2:=O (hk.blk HB2.out id);replace HPT:=O (HPT.out.keep hk fun _ _=>id);replace HNEW:=O (qY.keep HNEW.out hk fun _ _=>id);clear hk
   go_wp2_with ((with_reducible show WL _ _);refine sta 27 (.tmp 6) (.tmp 33) b6 0 pk (HL.out.b 1) (by first|decide|(rw[hpk];exact Nat.le_refl _)|simp[hpk,aG]) (szP9 hpk) HOK.out ?_)
   intro w7 hk hb;rw[aI _ _ (by first|rfl|simp[hpk,aG])] at hb;replace HL:=O (HL.out.set 1 hk hb);replace HNN:=O (HNN0.out.keep0 HL.out.keep);replace HB4:=O (HL.out.keep.blk HB40.out id);replace HB2:=O (HL.out.keep.blk HB20.out id);replace HPT:=O (HPT0.out.keep HL.out.keep fun _ _=>id);replace HNEW:=O (qY.keep HNEW0.out HL.out.keep fun _ _=>id);clear hk hb
   go_wp2_with ((with_reducible show WL _ _);refine sta 182 (.tmp 7) (.tmp 34) b7 0 ([.int .i64 0,.int .i64 0]) (HL.out.b 0) (by first|decide|(rw[rfl];exact Nat.le_refl _)|simp[]) (by kernel_rfl) (by intro v hv;simp only[List.mem_cons,List.not_mem_nil,or_false] at hv;rcases hv with rfl|rfl<;>rfl) ?_)
   intro w8 hk hb;rw[aI _ _ (by first|rfl|simp[])] at hb;replace HL:=O (HL.out.set 0 hk hb);replace HNN:=O (HNN0.out.keep0 HL.out.keep);replace HB4:=O (HL.out.keep.blk HB40.out id);replace HB2:=O (HL.out.keep.blk HB20.out id);replace HPT:=O (HPT0.out.keep HL.out.keep fun _ _=>id);replace HNEW:=O (qY.keep HNEW0.out HL.out.keep fun _ _=>id);clear hk hb;have HB4b:=HB4;have c1:w8.cell? ⟨b7,0,none⟩=some (.int .i64 0):=(aC (i:=0) (HL.out.b 0) rfl)
   go_wp2_with ((with_reducible show WL _ _);first
    | refine wpList_load_mid rfl 27 (.tmp 6) rfl b6 0 rfl pk _ (aD (HL.out.b 1)) aF rfl (szP9 hpk) ?_
    | refine sta 27 (.tmp 42) (.tmp 40) b4 (1+k*35) pk HB4b.out (by rw[List.size_toArray,dY (lv:Int) vs HNN.out.nv,hpk];omega) (szP9 hpk) HOK.out ?_)
   clear c1;intro w9 hk hb;rw[←HPK.out,Ny HNN.out.nv (lv:Int) hk8 (HSS.out k hk8),←Bf] at hb;have HK8:Hid (aA aB w w9):=O (((HK.out.trans HKR.out).trans HL.out.keep).trans' hk (fun _ _ h=>h) (fun i hi e=>by have:=HGE.out.2;omega));have HB8:Hid (w9.heap[b2]?=some (.cells dC.toArray 98 (0,0))):=O (hk.blk HB2.out HNE.out)
   have HQ8:Hid (∃vs,fC w w9 vs (sS ps (k+1))/\(∀j,j<4->(vs j).ownBlock≠some b2/\(vs j).ownBlock≠some b4)/\w9.heap[b4]?=some (.cells (cE (lv:Int) vs (sS ps (k+1))).toArray 98 (0,0))):=O ⟨gQ vs k v1,by
    rw[Bf];refine fC.put (HNN.out.keep hk ?_) (HPT.out.keep hk fun i hi e=>HOFF.out.2 (e▸hi)) (HNEW.out.keep hk fun i hi e=>HOFF.out.2 (e▸hi));rintro i rfl ⟨-,j,hj,e⟩;exact(HVO.out j hj).2 e,fun j hj=>by
    by_cases e:j=k
    ·subst e;rw[rK];exact HOFF.out
    ·rw[rL _ _ e];exact HVO.out j hj,hb⟩
   clear hb hk HL HNN HB4 HB2 HPT HNEW HB4b HOFF;go_wp2
   go_roundw
   case rel=>exact⟨k+1,by omega,by go_num,HK8,HQ8,HB8⟩
   case measure=>simp[intOf];omega
  ·obtain rfl:k=4:=by omega
   have hps:∀j,j<4->sS ps 4 j=ps j:=fun j hj=>if_pos hj
   have hnde:cE (lv:Int) vs (sS ps 4)=cE (lv:Int) vs ps:=by unfold cE;rw[hps 0 (by omega),hps 1 (by omega),hps 2 (by omega),hps 3 (by omega)]
   replace HNN:Hid (fC w wr vs ps):=O (fun j hj=>by have:=HNN.out j hj;rw[hps j hj] at this;exact this);rw[hnde] at HB4;have hnn:=dY (lv:Int) vs HNN.out.nv;have HL:=lN wr;obtain⟨nn,hnne⟩:∃l,cE (lv:Int) vs ps=l:=⟨_,rfl⟩
   have HOF:Hid (∀u∈nn,u.oneCell'=true):=O (by rw[←hnne];exact dI (lv:Int) HNN.out.nv);have HNF:=O hnne;rw[hnne] at hnn HB4;have HRW:=O (HR0.out.keep HK.out fun _ _=>id);clear hps hnde hnne
   go_wp2_with ((with_reducible show WL _ _);refine wpList_load_mid rfl 98 (.tmp 4) rfl b4 0 rfl nn _ (aD HB4.out) Tryz.underlying98 rfl (by rw[hnn];exact dG) ?_)
   refine((by rw[←HNF.out];exact Be wr lv vs ps HNN.out.nv (by omega) (by omega) HF.out:Calls _ _ _ wr (uY wr lv ps))).mono ?_;rintro e wb ⟨v2,rfl,ho,hk⟩;obtain⟨qa,qc,rfl,-,-⟩:=(Rd.of_owns ho).form;rw[←IV] at ho;have HO:=O ho;clear ho;replace HL:=kL HL hk;replace HNN:=O (HNN.out.keep0 hk);replace HB4:=O (hk.blk HB4.out id);replace HB2:=O (hk.blk HB2.out id);replace HRW:=O (HRW.out.keep hk fun _ _=>id);clear hk;go_wp2_with fail;refine(mJ wb _ _ (nb lv ps) (nb lv ps) (by rw[HNL.out];exact Rd.of_owns HO.out) (by rw[HNL.out];exact HRW.out) true (decide_eq_true rfl)).mono ?_;rintro e wc ⟨rfl,rfl⟩;have HB2b:=HB2
   go_wp2_with ((with_reducible show WL _ _);first
    | refine wpList_load_mid rfl 98 (.tmp 4) rfl b4 0 rfl nn _ (aD HB4.out) Tryz.underlying98 rfl (by rw[hnn];exact dG) ?_
    | refine sta 98 (.tmp 2) (.tmp 58) b2 0 nn HB2b.out (by rw[List.size_toArray,bT,hnn];omega) (by rw[hnn];exact dG) HOF.out ?_)
   intro w9 hk hb;rw[aI _ _ (by rw[List.size_toArray,bT,hnn])] at hb;have HP:Hid (wH w lv ps (.returned (.tuple #[.agg nn.toArray,.int .i64 0])) w9):=O ⟨vs,by rw[HNF.out],HNN.out.keep hk (by rintro i rfl ⟨-,j,hj,e⟩;exact(HVO.out j hj).1 e),(HK.out.trans HL.out.keep).trans' hk (fun _ _ h=>h) (fun i hi e=>by have:=HGE.out.1;omega)⟩;have HB9:=O hb;clear hb hk HL HNN HB4 HB2 HB2b HRW HO;go_wp2_with fail;refine bodyPost_ret (bI rfl _ _ b2 _ _ _ _ rfl HB9.out Tryz.underlying98 rfl (by rw[List.size_toArray,hnn];exact dG)) rfl ?_;exact HP.out
def KI(w:World)(c:Nat)(S:Kor)(B:Nat->Prop):Prop:=
 S.Bd/\∃a m lb g b2 lc pid BA nw t,t.u.txg=S.txg/\gM w c a m lb g b2 lc pid S.cp t BA S.D S.Z S.M nw S.L/\B=fun k=>k=c\/k=m\/k=lb\/BA k\/Own g b2 lc S.D k\/t.Own k
theorem KI.bd{w:World}{c:Nat}{S:Kor}{B:Nat->Prop}(h:KI w c S B):S.Bd:=h.1
theorem KI.keepT{T:Nat->Prop}{w w':World}{c:Nat}{S:Kor}{B:Nat->Prop}(h:KI w c S B)(k:aA T w w')(hT:∀i,T i->¬B i):KI w' c S B:=by
 obtain⟨hb,a,m,lb,g,b2,lc,pid,BA,nw,t,htx,h1,rfl⟩:=h;refine⟨hb,a,m,lb,g,b2,lc,pid,BA,nw,t,htx,h1.keepT k (fun i e=>?_),rfl⟩;have:=hT i e;exact⟨fun e=>this (.inl e),fun e=>this (.inr (.inl e)),fun e=>this (.inr (.inr (.inl e))),fun e=>this (.inr (.inr (.inr (.inl e)))),fun e=>this (.inr (.inr (.inr (.inr (.inl e))))),fun e=>this (.inr (.inr (.inr (.inr (.inr e)))))⟩
theorem KI.keep0{w w':World}{c:Nat}{S:Kor}{B:Nat->Prop}(h:KI w c S B)(k:aA aB w w'):KI w' c S B:=h.keepT k fun _ e=>e.elim
theorem KI.lt{w:World}{c:Nat}{S:Kor}{B:Nat->Prop}(h:KI w c S B){k:Nat}(hk:B k):k<w.heap.size:=by
 obtain⟨hb,a,m,lb,g,b2,lc,pid,BA,nw,t,htx,h1,rfl⟩:=h;rcases hk with rfl|rfl|rfl|hk|hk|hk
 ·exact lt_of_block h1.cor.cor.top
 ·exact lt_of_block h1.cor.mir
 ·exact lt_of_block h1.cor.liv
 ·exact h1.lt (.inl hk)
 ·exact h1.lt (.inr hk)
 ·exact h1.cor.cor.lst.lt hk
theorem bM.isC{w:World}{a D Z nw:Nat}{B:Nat->Prop}{M:Nat->Nat->List UInt8}(h:bM w a B D Z M nw){k:Nat}(hk:B k):IsC w k:=by
 obtain⟨dv,dc,lv,st,f,F,W,h1,rfl,h3,h4⟩:=h;rcases hk with rfl|rfl|hk|⟨d,hd,rfl⟩
 ·exact⟨_,_,h1.top⟩
 ·obtain⟨cur,hc⟩:=aL h1.devs (k:=k) rfl
  exact⟨_,_,hc⟩
 ·obtain⟨cur,hc⟩:=aL h1.loose hk
  exact⟨_,_,hc⟩
 ·exact⟨_,_,h1.firm d hd⟩
theorem dM.isC{w w':World}{lo g b2 D Z:Nat}{lc:Nat->Option Nat}{L L':List Ad}(h:dM w lo g b2 lc D Z L)(h':dM w' lo g b2 lc D Z L'){k:Nat}(hk:Own g b2 lc D k):IsC w' k\/¬IsC w k:=by
 rcases hk with rfl|rfl|⟨d,hd,hc⟩
 ·exact .inl ⟨_,_,h'.top⟩
 ·obtain⟨cs,h1,-⟩:=h'.words.row
  exact .inl ⟨_,_,h1⟩
 ·right
  obtain⟨g',e1,s,r,h1⟩:=h.chans d hd;rw[hc] at e1;cases e1
  rintro⟨cs,t,h2⟩;rw[h1] at h2;cases h2
def Cl(w w':World)(B B':Nat->Prop):Prop:=∀k,B' k->IsC w' k\/(B k/\¬IsC w k)
theorem Cl.refl(w w':World)(B:Nat->Prop)(k:aA aB w w'):Cl w w' B B:=fun i hi=>by
 by_cases h:IsC w i
 ·obtain⟨cs,t,h⟩:=h
  exact .inl ⟨cs,t,k.blk h id⟩
 ·exact .inr ⟨hi,h⟩
theorem Cl.trans{w w1 w2:World}{B B1 B2:Nat->Prop}(h:Cl w w1 B B1)(k:Cl w1 w2 B1 B2):Cl w w2 B B2:=fun i hi=>by
 rcases k i hi with h1|⟨h1,h2⟩
 ·exact .inl h1
 ·rcases h i h1 with h3|h3
  ·exact absurd h3 h2
  ·exact .inr h3
structure bA(w:World)(B:Nat->Prop)(v:Value)(p:Pt):Prop where
 pt:PtV w v p
 off:∀k,v.ownBlock=some k->¬B k/\IsC w k
theorem bA.keep{w w':World}{B B':Nat->Prop}{v:Value}{p:Pt}(h:bA w B v p)(k:aA B w w')(hB:∀k,B' k->B k\/w.heap.size≤k):bA w' B' v p:=
 ⟨h.pt.keep k fun i hi=>(h.off i hi).1,fun i hi=>⟨fun e=>(hB i e).elim (h.off i hi).1 fun e=>by have:=(h.off i hi).2.lt;omega,(h.off i hi).2.keep k (h.off i hi).1⟩⟩
theorem bA.keepT{T:Nat->Prop}{w w':World}{B:Nat->Prop}{v:Value}{p:Pt}(h:bA w B v p)(k:aA T w w')(hT:∀i,v.ownBlock=some i->¬T i):bA w' B v p:=
 ⟨h.pt.keep k hT,fun i hi=>⟨(h.off i hi).1,(h.off i hi).2.keep k (hT i hi)⟩⟩
theorem bA.keep0{w w':World}{B:Nat->Prop}{v:Value}{p:Pt}(h:bA w B v p)(k:aA aB w w'):bA w' B v p:=h.keepT k fun _ _=>id
theorem bA.hole(w:World)(B:Nat->Prop):bA w B (.slice none 0 0) zPt:=⟨⟨Rd.nil w 2,fun x hx=>(by cases hx),rfl⟩,fun k hk=>by cases hk⟩
theorem zA{D Z:Nat}(h8:D≤8)(h4:Z≤4096):∀x,dZ x D Z->eM x:=fun x ⟨h1,h2,h3,h5⟩=>⟨⟨by omega,by omega⟩,by omega,by omega⟩
theorem KI.get{w:World}{c:Nat}{S:Kor}{B:Nat->Prop}(h:KI w c S B){pv:Value}{p:Pt}(hp:PtV w pv p){lv:Nat}{b:List UInt8}(hg:jB S p lv b):Calls Tryz.prog 74 #[.pointer (some ⟨c,0,none⟩),.agg (aE pv p).toArray] w (fK w b):=by
 obtain⟨hb,a,m,lb,g,b2,lc,pid,BA,nw,t,htx,h1,rfl⟩:=h;have hpl:∀x∈p.addrs,dZ x S.D S.Z:=fun x hx=>(hg.lies x hx).1
 have h3:=(iC hg.may).1;cases ha:p.addrs with
 | nil=>exact absurd ha hg.ne
 | cons x r =>
   obtain⟨d,s,rfl,-,-,-⟩:=lO (hpl x (by rw[ha];exact List.mem_cons_self ..));have hM:S.M d s=b:=(hg.lies ⟨(d:Int),(s:Int)⟩ (by rw[ha];exact List.mem_cons_self ..)).2.2;have:=KE h1.cor pv p hp hg.may hg.ne_hole hpl (by omega) ha (by rw[hM];exact hg.sum);rw[hM] at this;exact this
theorem KI.copies{w:World}{c:Nat}{S:Kor}{B:Nat->Prop}(h:KI w c S B):Calls Tryz.prog 70 #[.pointer (some ⟨c,0,none⟩)] w (aK w (.int .i64 (S.cp:Int))):=by
 obtain⟨hb,a,m,lb,g,b2,lc,pid,BA,nw,t,htx,h1,rfl⟩:=h;exact Ej h1.cor.cor
def eN(w:World)(v:Value):Prop:=∀k,v.ownBlock=some k->w.heap.size≤k
def pV(w:World)(c:Nat)(B:Nat->Prop)(r:Option (Pt×Kor))(S:Kor)(e:Ending)(w':World):Prop:=
 match r with
 | none=>e=.returned (.tuple #[.agg (aE (.slice none 0 0) zPt).toArray,.int .i64 15])/\KI w' c S B/\aA aB w w'
 | some (p,T)=>∃v B',e=.returned (.tuple #[.agg (aE v p).toArray,.int .i64 0])/\bA w' B' v p/\KI w' c T B'/\(∀k,B' k->B k\/w.heap.size≤k)/\Cl w w' B B'/\eN w v/\aA B w w'
theorem KI.put{w:World}{c:Nat}{S:Kor}{B:Nat->Prop}(h:KI w c S B){lv:Nat}(hlv:lv≤3){vv:Value}{bs:List UInt8}(hbl:bs.length=256)(hr:Rd w 1 vv 256 (bs.map vb))(hvb:∀i,vv.ownBlock=some i->¬B i):Calls Tryz.prog 124 #[.pointer (some ⟨c,0,none⟩),.int .i64 (lv:Int),vv] w (pV w c B (S.put lv bs) S):=by
 have hKI:=h;obtain⟨hb,a,m,lb,g,b2,lc,pid,BA,nw,t,htx,h1,rfl⟩:=h;have hvb2:∀i,vv.ownBlock=some i->¬BA i/\¬Own g b2 lc S.D i:=fun i hi=>⟨fun e=>hvb i hi (.inr (.inr (.inr (.inl e)))),fun e=>hvb i hi (.inr (.inr (.inr (.inr (.inl e)))))⟩
 cases hc:bV (bX S.L S.D S.Z) (List.replicate S.D true) S.cp with
 | none =>
   have e:S.put lv bs=none:=by unfold Kor.put Kor.allUp;rw[hc]
   rw[e];refine(Mu h1 (by rw[htx];exact⟨hb.t0,hb.t1⟩) lv hlv vv bs hbl hr hvb2 hc).mono ?_;rintro e w' ⟨rfl,hk⟩;exact⟨rfl,hKI.keep0 hk,hk⟩
 | some l =>
   have e:S.put lv bs=some (⟨bB S.L S.Z l,S.txg+1,(lv:Int),cR bs⟩,⟨S.D,S.Z,S.cp,S.L++bB S.L S.Z l,kX bs (bB S.L S.Z l) S.M,S.txg⟩):=by unfold Kor.put Kor.allUp;rw[hc]
   have hg:=pN hb hlv hbl e;rw[e];refine(IM h1 (by rw[htx];exact⟨hb.t0,hb.t1⟩) lv hlv vv bs hbl hr hvb2 (zA hb.d8 hb.z4) hc).mono ?_;rintro e w' ⟨v,B',rfl,ho,hI,hB,hv,hk⟩;have hge:∀k,v.ownBlock=some k->w.heap.size≤k:=fun k hk=>aS ho hk
   refine⟨v,fun k=>k=c\/k=m\/k=lb\/B' k\/Own g b2 lc S.D k\/t.Own k,by rw[htx],⟨⟨Rd.of_owns ho,fun x hx=>zA hb.d8 hb.z4 x (hg.1.lies x hx).1,hg.1.sl⟩,fun k hk2=>⟨?_,?_⟩⟩,⟨hg.2.2.1,a,m,lb,g,b2,lc,pid,B',nw+(bB S.L S.Z l).length,t,htx,hI,rfl⟩,?_,?_,hge,hk.mono fun k _ e=>.inr (.inr (.inr (e.imp id .inl)))⟩
   ·have h9:=hge k hk2
    rintro (rfl|rfl|rfl|e|e|e)
    ·have:=lt_of_block h1.cor.cor.top;omega
    ·have:=lt_of_block h1.cor.mir;omega
    ·have:=lt_of_block h1.cor.liv;omega
    ·exact(hv k hk2).1 e
    ·exact(hv k hk2).2 e
    ·have:=h1.cor.cor.lst.lt e;omega
   ·obtain⟨cur,hc⟩:=aL ho hk2
    exact⟨_,_,hc⟩
   ·rintro k (e|e|e|e|e|e)
    ·exact .inl (.inl e)
    ·exact .inl (.inr (.inl e))
    ·exact .inl (.inr (.inr (.inl e)))
    ·exact(hB k e).imp (fun h=>.inr (.inr (.inr (.inl h)))) id
    ·exact .inl (.inr (.inr (.inr (.inr (.inl e)))))
    ·exact .inl (.inr (.inr (.inr (.inr (.inr e)))))
   ·rintro k (rfl|rfl|rfl|e|e|e)
    ·exact .inl ⟨_,_,hI.cor.cor.top⟩
    ·exact .inl ⟨_,_,hI.cor.mir⟩
    ·exact .inl ⟨_,_,hI.cor.liv⟩
    ·exact .inl (hI.cor.arr.isC e)
    ·exact(h1.led.isC hI.led e).imp id fun h=>⟨.inr (.inr (.inr (.inr (.inl e)))),h⟩
    ·exact .inl (hI.cor.cor.lst.isc k e)
def KN:Option (Pt×Kor)->Pt
 | none=>zPt
 | some x=>x.1
def KO:Option (Pt×Kor)->Int
 | none=>15
 | some _=>0
def KR(S:Kor):Option (Pt×Kor)->Kor
 | none=>S
 | some x=>x.2
def MA(w:World)(c:Nat)(B:Nat->Prop)(p:Pt)(er:Int)(T:Kor)(e:Ending)(w':World):Prop:=
 ∃v B',e=.returned (.tuple #[.agg (aE v p).toArray,.int .i64 er])/\bA w' B' v p/\KI w' c T B'/\(∀k,B' k->B k\/w.heap.size≤k)/\Cl w w' B B'/\eN w v/\aA B w w'
theorem pV.all{w w':World}{c:Nat}{B:Nat->Prop}{r:Option (Pt×Kor)}{S:Kor}{e:Ending}(h:pV w c B r S e w'):MA w c B (KN r) (KO r) (KR S r) e w':=by
 cases r with
 | none =>
   obtain⟨h1,h2,h3⟩:=h;exact⟨_,B,h1,bA.hole w' B,h2,fun k h=>.inl h,Cl.refl w w' B h3,(fun k hk=>by cases hk),h3.any⟩
 | some x=>exact h
theorem pK{w w':World}{B:Nat->Prop}{v:Value}{p:Pt}(h:Hid (bA w B v p))(k:aA aB w w'):Hid (bA w' B v p):=O (bA.keep0 h.out k)
def cF(w:World)(B:Nat->Prop)(vs:Nat->Value)(ps:Nat->Pt):Prop:=∀k,k<4->bA w B (vs k) (ps k)
theorem cF.nv{w:World}{B:Nat->Prop}{vs:Nat->Value}{ps:Nat->Pt}(h:cF w B vs ps):dE w vs ps:=fun k hk=>(h k hk).pt
theorem cF.keep0{w w':World}{B:Nat->Prop}{vs:Nat->Value}{ps:Nat->Pt}(h:cF w B vs ps)(k:aA aB w w'):cF w' B vs ps:=fun i hi=>(h i hi).keep0 k
theorem cF.hole(w:World)(B:Nat->Prop):cF w B (fun _=>.slice none 0 0) (fun _=>zPt):=fun _ _=>bA.hole w B
def gD:Option Tr->Pt
 | none=>zPt
 | some t=>t.ptr
def kZ:Option Tr->Int
 | none=>15
 | some _=>0
def cK(w:World)(c:Nat)(B:Nat->Prop)(v0:Value)(r:Option Tr)(T:Kor)(e:Ending)(w':World):Prop:=
 ∃v B',e=.returned (.tuple #[.agg (aE v (gD r)).toArray,.int .i64 (kZ r)])/\bA w' B' v (gD r)/\KI w' c T B'/\(∀k,B' k->B k\/w.heap.size≤k)/\Cl w w' B B'/\(v=v0\/eN w v)/\aA B w w'
theorem eN.from{w w1:World}{v:Value}(h:eN w1 v)(k:w.heap.size≤w1.heap.size):eN w v:=fun i hi=>Nat.le_trans k (h i hi)
theorem eN.nil(w:World):eN w (.slice none 0 0):=fun k hk=>by cases hk
theorem cK.hole{w w':World}{c:Nat}{B:Nat->Prop}{T:Kor}{v0:Value}(h:KI w' c T B)(k:aA aB w w'):cK w c B v0 (some .hole) T (.returned (.tuple #[.agg (aE (.slice none 0 0) zPt).toArray,.int .i64 0])) w':=
 ⟨_,B,rfl,bA.hole w' B,h,fun _ h=>.inl h,Cl.refl w w' B k,.inr (eN.nil w),k.any⟩
theorem Tr.Ok.fit{S:Kor}{l:Nat}{t:Tr}(h:Tr.Ok S l t):Au ((l:Int)+1) t.ptr:=by
 cases t with
 | hole=>exact .inl iI
 | leaf p b=>cases l with
   | zero=>exact .inr ⟨h.1.ne_hole,h.1.may,by have:=h.1.lev;show p.level=_;omega⟩
   | succ l=>exact h.elim
 | node p k=>cases l with
   | zero=>exact h.elim
   | succ l=>exact .inr ⟨h.1.ne_hole,h.1.may,by have:=h.1.lev;show p.level=_;omega⟩
theorem Tr.Ok.empty_eq{S:Kor}{l:Nat}{k:Nat->Tr}(h:∀i,i<4->Tr.Ok S l (k i)):jN (fun i=>(k i).ptr)=gA k:=by
 unfold jN gA;rw[(h 0 (by omega)).hole_eq,(h 1 (by omega)).hole_eq,(h 2 (by omega)).hole_eq,(h 3 (by omega)).hole_eq]
theorem ixv{P:Program}{w:World}{ops:Array Oper}{rest:List Oper}{o:Oper}{a:Act}{Q:Exit->Act->World->Prop}(T:TypeId)(x y:Operand)(vx vy u:Value)(hr:∀w,(Instr.index T vx vy).run P w=.ok u w)(h:wpList P ops Q rest (a.put o.dst u) w)(hx:a.eval x=vx:=by rfl)(hy:a.eval y=vy:=by rfl)(hg:o.guard=none:=by rfl)(ho:o.op=.index T x y:=by rfl):wpList P ops Q (o::rest) a w:=by
 refine wpList_plain hg fun K hK=>?_
 unfold Oper.wp execOp;simp only[ho,hx,hy,Sem.run_bind,hr,Result.andThen_ok];exact hK _ _ h
def shV:Value:=.agg #[.int .i64 0,.int .i64 0,.int .i64 2,.int .i64 4]
theorem Ax(w:World):(Instr.build 306 #[(0,.int .i64 0),(1,.int .i64 0),(2,.int .i64 2),(3,.int .i64 4)]).run Tryz.prog w=.ok shV w:=by kernel_rfl
theorem Oa(w:World):(Instr.index 306 shV (.int .i64 1)).run Tryz.prog w=.ok (.int .i64 0) w:=by kernel_rfl
theorem Ob(w:World):(Instr.index 306 shV (.int .i64 2)).run Tryz.prog w=.ok (.int .i64 2) w:=by kernel_rfl
theorem Oc(w:World):(Instr.index 306 shV (.int .i64 3)).run Tryz.prog w=.ok (.int .i64 4) w:=by kernel_rfl
theorem Gl(w:World)(l:Nat)(hl:l<3):Calls Tryz.prog 184 #[.int .i64 ((l+1:Nat):Int)] w (aK w (.int .i64 ((2*l:Nat):Int))):=by
 have HL:=lN w;rcases l with _|_|_|l
 ·go_in
  go_wp2_with ((with_reducible show WL _ _);first
   | refine bld 306 #[(0,.const (.int .i64 0)),(1,.const (.int .i64 0)),(2,.const (.int .i64 2)),(3,.const (.int .i64 4))] [(0,.int .i64 0),(1,.int .i64 0),(2,.int .i64 2),(3,.int .i64 4)] shV Ax ?_
   | refine ixv 306 (.tmp 3) (.tmp 4) shV (.int .i64 1) (.int .i64 0) Oa ?_)
  go_ret;exact aK.of HL.out.keep
 ·go_in
  go_wp2_with ((with_reducible show WL _ _);first
   | refine bld 306 #[(0,.const (.int .i64 0)),(1,.const (.int .i64 0)),(2,.const (.int .i64 2)),(3,.const (.int .i64 4))] [(0,.int .i64 0),(1,.int .i64 0),(2,.int .i64 2),(3,.int .i64 4)] shV Ax ?_
   | refine ixv 306 (.tmp 3) (.tmp 4) shV (.int .i64 2) (.int .i64 2) Ob ?_)
  go_ret;exact aK.of HL.out.keep
 ·go_in
  go_wp2_with ((with_reducible show WL _ _);first
   | refine bld 306 #[(0,.const (.int .i64 0)),(1,.const (.int .i64 0)),(2,.const (.int .i64 2)),(3,.const (.int .i64 4))] [(0,.int .i64 0),(1,.int .i64 0),(2,.int .i64 2),(3,.int .i64 4)] shV Ax ?_
   | refine ixv 306 (.tmp 3) (.tmp 4) shV (.int .i64 3) (.int .i64 4) Oc ?_)
  go_ret;exact aK.of HL.out.keep
 ·omega
theorem MB:∀l:Fin 3,∀n:Fin 64,bits .and .i64 ((n.val:Int) / 2 ^ (2*l.val)) 3=((n.val / 4 ^ l.val % 4:Nat):Int):=by decide +kernel
theorem Bg(w:World)(n l:Nat)(hn:n<64)(hl:l<3):Calls Tryz.prog 125 #[.int .i64 (n:Int),.int .i64 ((l+1:Nat):Int)] w (aK w (.int .i64 ((n / 4 ^ l % 4:Nat):Int))):=by
 have HL:=lN w;have HD:Hid (bits .and .i64 ((n:Int) / 2 ^ (2*l)) 3=((n / 4 ^ l % 4:Nat):Int)):=O (MB ⟨l,hl⟩ ⟨n,hn⟩);have hn0:0≤(n:Int):=by omega
 have hn1:(n:Int)<64:=by omega
 go_in;go_wp2_with fail;refine(Gl _ l hl).mono ?_;rintro e w1 ⟨rfl,hk⟩;replace HL:=kL HL hk;clear hk;have h0:(0:Int)≤((2*l:Nat):Int):=by omega
 go_wp2;go_ret;refine⟨?_,HL.out.keep⟩;show Ending.returned (.int .i64 (bits .and .i64 ((n:Int) / 2 ^ (2*l)) 3))=_;rw[HD.out]
theorem IW{w:World}{c:Nat}{S:Kor}{B:Nat->Prop}(hK:KI w c S B):Calls Tryz.prog 107 #[.pointer (some ⟨c,0,none⟩)] w (aK w (.bool false)):=by
 have HK:=O hK;have hc0:((S.cp:Int) == 0)=false:=by rw[beq_eq_false_iff_ne];have:=hK.bd.c1;omega
 have hc1:decide (S.cp=0)=false:=by have:=hK.bd.c1;exact decide_eq_false (by omega)
 have HL:=lN w;clear hK;go_in;go_wp2_with fail;refine(KI.copies HK.out).mono ?_;rintro e w1 ⟨rfl,hk⟩;replace HL:=kL HL hk;replace HK:=O (HK.out.keep0 hk);clear hk;go_wp2;go_ret;exact aK.of HL.out.keep
def Pt.root(p:Pt):Bool:=p.hole || (p.may && decide (p.level=3))
theorem En(w:World)(pv:Value)(p:Pt)(hp:PtV w pv p)(hh:p.hole=true):Calls Tryz.prog 71 #[.agg (aE pv p).toArray] w (aK w (.int .i64 0)):=by
 have HH:=O hh;clear hh;have HPT:=O hp;obtain⟨pc,HPC,hpc,HOP⟩:=nmPt hp;rw[HPC.out];have HL:=lN w;clear hp;go_in
 go_wp2_with ((with_reducible show WL _ _);refine bxL HL 27 (.tmp 0) (pc.toArray) ?_)
 intro b1 w1 hk HL;replace HPT:=O (HPT.out.keep hk fun _ _=>id);clear hk
 go_wp2_with ((with_reducible show WL _ _);refine wpList_load_mid rfl 27 (.tmp 1) rfl b1 0 rfl pc _ (aD (HL.out.b 0)) aF rfl (szP9 hpc) ?_)
 refine((by rw[←HPC.out];exact cJ w1 pv p HPT.out:Calls _ _ _ w1 (aX w1 p.hole))).mono ?_;rintro e w2 ⟨rfl,hk⟩;replace HL:=kL HL hk;replace HPT:=O (HPT.out.keep hk fun _ _=>id);clear hk;rw[HH.out];go_wp2;go_ret;exact aK.of HL.out.keep
theorem IX(w:World)(pv:Value)(p:Pt)(hp:PtV w pv p)(hh:p.hole=false)(hm:p.may=true)(hl:p.level=3):Calls Tryz.prog 71 #[.agg (aE pv p).toArray] w (aK w (.int .i64 0)):=by
 have HH:=O hh;have HM:=O hm;have HLV:=O hl;clear hh hm hl;have HPT:=O hp;obtain⟨pc,HPC,hpc,HOP⟩:=nmPt hp;rw[HPC.out];have HL:=lN w;clear hp;go_in
 go_wp2_with ((with_reducible show WL _ _);refine bxL HL 27 (.tmp 0) (pc.toArray) ?_)
 intro b1 w1 hk HL;replace HPT:=O (HPT.out.keep hk fun _ _=>id);clear hk
 go_wp2_with ((with_reducible show WL _ _);refine wpList_load_mid rfl 27 (.tmp 1) rfl b1 0 rfl pc _ (aD (HL.out.b 0)) aF rfl (szP9 hpc) ?_)
 refine((by rw[←HPC.out];exact cJ w1 pv p HPT.out:Calls _ _ _ w1 (aX w1 p.hole))).mono ?_;rintro e w2 ⟨rfl,hk⟩;replace HL:=kL HL hk;replace HPT:=O (HPT.out.keep hk fun _ _=>id);clear hk;rw[HH.out]
 go_wp2_with ((with_reducible show WL _ _);refine aM (by rfl) 27 (.tmp 1) rfl b1 0 rfl pc _ (aD (HL.out.b 0)) aF rfl (szP9 hpc) ?_)
 refine((by rw[←HPC.out];exact jX w2 pv p HPT.out:Calls _ _ _ w2 (lL w2 p.may))).mono ?_;rintro e w3 ⟨rfl,hk⟩;replace HL:=kL HL hk;replace HPT:=O (HPT.out.keep hk fun _ _=>id);clear hk;rw[HM.out];rw[if_pos rfl];have c1:w3.cell? ⟨b1,2,none⟩=some (.int .i64 3):=(by have h:=(bO (v:=pv) (p:=p) (by rw[HPC.out];exact aD (HL.out.b 0))).2.2.1;rw[HLV.out] at h;exact h)
 go_wp2_with fail;clear c1;go_ret;exact aK.of HL.out.keep
theorem wJ(w:World)(pv:Value)(p:Pt)(hp:PtV w pv p)(h:p.root=true):Calls Tryz.prog 71 #[.agg (aE pv p).toArray] w (aK w (.int .i64 0)):=by
 unfold Pt.root at h;cases hh:p.hole with
 | true=>exact En w pv p hp hh
 | false =>
   rw[hh,Bool.false_or,Bool.and_eq_true,decide_eq_true_eq] at h;exact IX w pv p hp hh h.1 h.2
theorem zC{w:World}{c:Nat}{S:Kor}{B:Nat->Prop}(hK:KI w c S B)(pv:Value)(p:Pt)(hp:PtV w pv p)(h:p.root=true):Calls Tryz.prog 62 #[.pointer (some ⟨c,0,none⟩),.agg (aE pv p).toArray] w (aK w (.int .i64 0)):=by
 have HH:=O h;clear h;have HPT:=O hp;have HK:=O hK;obtain⟨pc,HPC,hpc,HOP⟩:=nmPt hp;rw[HPC.out];have HL:=lN w;clear hp hK;go_in
 go_wp2_with ((with_reducible show WL _ _);refine bxL HL 27 (.tmp 1) (pc.toArray) ?_)
 intro b3 w1 hk HL;replace HPT:=O (HPT.out.keep hk fun _ _=>id);replace HK:=O (HK.out.keep0 hk);clear hk;go_wp2_with fail;refine(IW HK.out).mono ?_;rintro e w2 ⟨rfl,hk⟩;replace HL:=kL HL hk;replace HPT:=O (HPT.out.keep hk fun _ _=>id);replace HK:=O (HK.out.keep0 hk);clear hk
 go_wp2_with ((with_reducible show WL _ _);refine wpList_load_mid rfl 27 (.tmp 3) rfl b3 0 rfl pc _ (aD (HL.out.b 0)) aF rfl (szP9 hpc) ?_)
 refine((by rw[←HPC.out];exact wJ w2 pv p HPT.out HH.out:Calls _ _ _ w2 (aK w2 (.int .i64 0)))).mono ?_;rintro e w3 ⟨rfl,hk⟩;replace HL:=kL HL hk;replace HPT:=O (HPT.out.keep hk fun _ _=>id);replace HK:=O (HK.out.keep0 hk);clear hk;go_wp2;go_ret;exact aK.of HL.out.keep
theorem Eo{w:World}{c:Nat}(pv:Value)(p:Pt)(hp:PtV w pv p)(hh:p.hole=true):Calls Tryz.prog 91 #[.pointer (some ⟨c,0,none⟩),.agg (aE pv p).toArray] w (fK w zB):=by
 have HH:=O hh;clear hh;have HPT:=O hp;obtain⟨pc,HPC,hpc,HOP⟩:=nmPt hp;rw[HPC.out];have HL:=lN w;clear hp;go_in
 go_wp2_with ((with_reducible show WL _ _);refine bxL HL 27 (.tmp 1) (pc.toArray) ?_)
 intro b3 w1 hk HL;replace HPT:=O (HPT.out.keep hk fun _ _=>id);clear hk
 go_wp2_with ((with_reducible show WL _ _);refine wpList_load_mid rfl 27 (.tmp 3) rfl b3 0 rfl pc _ (aD (HL.out.b 0)) aF rfl (szP9 hpc) ?_)
 refine((by rw[←HPC.out];exact cJ w1 pv p HPT.out:Calls _ _ _ w1 (aX w1 p.hole))).mono ?_;rintro e w2 ⟨rfl,hk⟩;replace HL:=kL HL hk;replace HPT:=O (HPT.out.keep hk fun _ _=>id);clear hk;rw[HH.out]
 go_wp2_with ((with_reducible show WL _ _);refine mkz (.const (.int .i64 256)) (.const (.int .i64 256)) ?_)
 intro b8 w3 hbs hk hb;replace HL:=lW HL hbs hk hb;replace HPT:=O (HPT.out.keep hk fun _ _=>id);clear hbs hk hb;go_wp2
 go_ret2
 exact⟨_,rfl,mQ (HL.out.b 0) rfl (HL.out.lt 0).1,HL.out.keep⟩
theorem Gm{w:World}{c:Nat}{S:Kor}{B:Nat->Prop}(hK:KI w c S B)(pv:Value)(p:Pt)(hp:PtV w pv p){lv:Nat}{bs:List UInt8}(hg:jB S p lv bs):Calls Tryz.prog 91 #[.pointer (some ⟨c,0,none⟩),.agg (aE pv p).toArray] w (fK w bs):=by
 have HH:=O hg.ne_hole;have HG:=O hg;have HK:=O hK;have HPT:=O hp;obtain⟨pc,HPC,hpc,HOP⟩:=nmPt hp;rw[HPC.out];have HL:=lN w;clear hp hg hK;go_in
 go_wp2_with ((with_reducible show WL _ _);refine bxL HL 27 (.tmp 1) (pc.toArray) ?_)
 intro b3 w1 hk HL;replace HPT:=O (HPT.out.keep hk fun _ _=>id);replace HK:=O (HK.out.keep0 hk);clear hk
 go_wp2_with ((with_reducible show WL _ _);refine wpList_load_mid rfl 27 (.tmp 3) rfl b3 0 rfl pc _ (aD (HL.out.b 0)) aF rfl (szP9 hpc) ?_)
 refine((by rw[←HPC.out];exact cJ w1 pv p HPT.out:Calls _ _ _ w1 (aX w1 p.hole))).mono ?_;rintro e w2 ⟨rfl,hk⟩;replace HL:=kL HL hk;replace HPT:=O (HPT.out.keep hk fun _ _=>id);replace HK:=O (HK.out.keep0 hk);clear hk;rw[HH.out]
 go_wp2_with ((with_reducible show WL _ _);refine wpList_load_mid rfl 27 (.tmp 3) rfl b3 0 rfl pc _ (aD (HL.out.b 0)) aF rfl (szP9 hpc) ?_)
 have HSZ:=O HL.out.keep.size;refine((by rw[←HPC.out];exact KI.get HK.out HPT.out HG.out:Calls _ _ _ w2 (fK w2 bs))).mono ?_;rintro e w3 ⟨v1,rfl,ho,hk⟩;obtain⟨va,vc,rfl,-,-⟩:=(Rd.of_owns ho).form;have HO:=O (aV ho HSZ.out);clear ho;replace HL:=kL HL hk;replace HPT:=O (HPT.out.keep hk fun _ _=>id);replace HK:=O (HK.out.keep0 hk);clear hk;go_wp2
 go_ret2
 exact⟨_,rfl,HO.out,HL.out.keep⟩
theorem pW(w:World):(Instr.build 27 #[]).run Tryz.prog w=.ok (.agg (aE (.slice none 0 0) zPt).toArray) w:=by kernel_rfl
def fG(w:World)(B:Nat->Prop)(l:Nat)(t:Tr)(e:Ending)(w':World):Prop:=
 ∃vs,e=.returned (.tuple #[.agg (cE ((l+1:Nat):Int) vs (fun i=>(t.kid i).ptr)).toArray,.int .i64 0])/\cF w' B vs (fun i=>(t.kid i).ptr)/\(∀q,q<4->eN w (vs q))/\aA aB w w'
theorem Gn{w:World}{c:Nat}{B:Nat->Prop}(pv:Value)(hp:PtV w pv zPt)(l:Nat):Calls Tryz.prog 87 #[.pointer (some ⟨c,0,none⟩),.agg (aE pv zPt).toArray,.int .i64 ((l+1:Nat):Int)] w (fG w B l .hole):=by
 obtain⟨p,hpz⟩:∃p,zPt=p:=⟨_,rfl⟩
 have HH:Hid (p.hole=true):=O (by rw[←hpz];exact iI);rw[hpz] at hp ⊢;have HPT:=O hp;obtain⟨pc,HPC,hpc,HOP⟩:=nmPt hp;rw[HPC.out];have hnz:(cE ((l+1:Nat):Int) (fun _=>.slice none 0 0) (fun _=>zPt)).length=141:=rfl;have hbn:=Aw ((l+1:Nat):Int);obtain⟨nz,hnze⟩:∃x,cE ((l+1:Nat):Int) (fun _=>.slice none 0 0) (fun _=>zPt)=x:=⟨_,rfl⟩
 have HOZ:Hid (∀u∈nz,u.oneCell'=true):=O (by rw[←hnze];exact dI (w:=w) _ fun _ _=>sU w);have HNZ:=O hnze;rw[hnze] at hnz hbn;have HBN:=O hbn;obtain⟨lv,hlv⟩:∃x,((l+1:Nat):Int)=x:=⟨_,rfl⟩
 rw[hlv] at HBN ⊢;have HL:=lN w;clear hp hnze hbn hpz hlv;have HPT0:=HPT;go_in
 go_wp2_with ((with_reducible show WL _ _);refine bxL HL 27 (.tmp 1) (pc.toArray) ?_)
 intro b4 w1 hk HL;replace HPT:=O (HPT.out.keep hk fun _ _=>id);clear hk
 go_wp2_with ((with_reducible show WL _ _);refine alL HL 98 (.agg dC.toArray) (dC.toArray) jK ?_)
 intro b6 w2 hk HL;replace HPT:=O (HPT.out.keep hk fun _ _=>id);clear hk
 go_wp2_with ((with_reducible show WL _ _);refine wpList_load_mid rfl 27 (.tmp 4) rfl b4 0 rfl pc _ (aD (HL.out.b 1)) aF rfl (szP9 hpc) ?_)
 refine((by rw[←HPC.out];exact cJ w2 pv p HPT.out:Calls _ _ _ w2 (aX w2 p.hole))).mono ?_;rintro e w3 ⟨rfl,hk⟩;replace HL:=kL HL hk;replace HPT:=O (HPT.out.keep hk fun _ _=>id);clear hk;rw[HH.out]
 go_wp2_with ((with_reducible show WL _ _);first
  | refine bld 98 #[(0,.tmp 14)] [(0,.int .i64 lv)] (.agg nz.toArray) HBN.out ?_
  | refine sta 98 (.tmp 6) (.tmp 15) b6 0 nz (HL.out.b 0) (by first|decide|(rw[hnz];exact Nat.le_refl _)|simp[hnz,bT]) (by rw[hnz];exact dG) HOZ.out ?_)
 intro w4 hk hb;rw[aI _ _ (by first|rfl|simp[hnz,bT])] at hb;replace HL:=O (HL.out.set 0 hk hb);replace HPT:=O (HPT0.out.keep HL.out.keep fun _ _=>id);clear hk hb;have HB6:=O (HL.out.b 0);have HKE:=O HL.out.keep;clear HL HPT;go_wp2_with fail;refine bodyPost_ret (bI rfl _ _ b6 _ _ _ _ rfl HB6.out Tryz.underlying98 rfl (by rw[List.size_toArray,hnz];exact dG)) rfl ?_;exact⟨fun _=>.slice none 0 0,(by rw[←HNZ.out];rfl),cF.hole _ B,fun _ _=>eN.nil w,HKE.out⟩
theorem OT{ps:Nat->Pt}(lv:Nat)(h:∀k,k<4->(ps k).may=true):nb lv ps=cQ lv [ps 0,ps 1,ps 2,ps 3]:=by
 unfold nb mP cQ ptB;simp[List.range_succ,h 0 (by omega),h 1 (by omega),h 2 (by omega),h 3 (by omega)]
theorem Tr.Ok.nb_eq{S:Kor}{l:Nat}{k:Nat->Tr}(lv:Nat)(h:∀i,i<4->Tr.Ok S l (k i)):nb lv (fun i=>(k i).ptr)=cQ lv (fB k):=
 Go.Proofs.YtiinnfhjpaeffaaGreat.OT lv fun i hi=>((h i hi).fit).elim jI fun h=>h.2.1
theorem fC.nval{w w':World}{B:Nat->Prop}{vs:Nat->Value}{ps:Nat->Pt}(h:fC w w' vs ps)(hB:∀k,B k->k<w.heap.size):cF w' B vs ps:=fun k hk =>
 ⟨(h k hk).1,fun i hi=>⟨fun e=>by have:=hB i e;have:=((h k hk).2 i hi).1;omega,((h k hk).2 i hi).2⟩⟩
theorem Gp{w:World}{c:Nat}{S:Kor}{B:Nat->Prop}(hK:KI w c S B)(pv:Value)(p:Pt)(hp:PtV w pv p)(l:Nat)(hl:l≤2)(k:Nat->Tr)(hg:jB S p (l+1) (cQ (l+1) (fB k)))(hk4:∀i,i<4->Tr.Ok S l (k i)):Calls Tryz.prog 87 #[.pointer (some ⟨c,0,none⟩),.agg (aE pv p).toArray,.int .i64 ((l+1:Nat):Int)] w (fG w B l (.node p k)):=by
 have HH:Hid (p.hole=false):=O hg.ne_hole;have HPT:=O hp;have HK:=O hK;have HG:=O hg;have HK4:=O hk4;have HBLT:=O (fun i (e:B i)=>hK.lt e);obtain⟨pc,HPC,hpc,HOP⟩:=nmPt hp;rw[HPC.out];have HNB:Hid (cQ (l+1) (fB k)=nb (l+1) (fun i=>(k i).ptr)):=O (Tr.Ok.nb_eq (l+1) hk4).symm;have hlv0:0≤((l+1:Nat):Int):=by omega
 have HL:=lN w;clear hp hg hk4 hK;go_in
 go_wp2_with ((with_reducible show WL _ _);refine bxL HL 27 (.tmp 1) (pc.toArray) ?_)
 intro b4 w1 hk HL;replace HPT:=O (HPT.out.keep hk fun _ _=>id);replace HK:=O (HK.out.keep0 hk);clear hk
 go_wp2_with ((with_reducible show WL _ _);refine alL HL 98 (.agg dC.toArray) (dC.toArray) jK ?_)
 intro b6 w2 hk HL;replace HPT:=O (HPT.out.keep hk fun _ _=>id);replace HK:=O (HK.out.keep0 hk);clear hk
 go_wp2_with ((with_reducible show WL _ _);refine wpList_load_mid rfl 27 (.tmp 4) rfl b4 0 rfl pc _ (aD (HL.out.b 1)) aF rfl (szP9 hpc) ?_)
 refine((by rw[←HPC.out];exact cJ w2 pv p HPT.out:Calls _ _ _ w2 (aX w2 p.hole))).mono ?_;rintro e w3 ⟨rfl,hk⟩;replace HL:=kL HL hk;replace HPT:=O (HPT.out.keep hk fun _ _=>id);replace HK:=O (HK.out.keep0 hk);clear hk;rw[HH.out]
 go_wp2_with ((with_reducible show WL _ _);refine wpList_load_mid rfl 27 (.tmp 4) rfl b4 0 rfl pc _ (aD (HL.out.b 1)) aF rfl (szP9 hpc) ?_)
 refine((by rw[←HPC.out];exact KI.get HK.out HPT.out HG.out:Calls _ _ _ w3 (fK w3 (cQ (l+1) (fB k))))).mono ?_;rintro e w4 ⟨v1,rfl,ho,hk⟩;rw[HNB.out] at ho;obtain⟨va,vc,rfl,-,-⟩:=(Rd.of_owns ho).form;have HO:=O ho;clear ho;replace HL:=kL HL hk;replace HPT:=O (HPT.out.keep hk fun _ _=>id);replace HK:=O (HK.out.keep0 hk);clear hk;go_wp2_with fail;have HSZ:=O HL.out.keep.size;have HL6:=O (HL.out.lt 0).2;refine((wI w4 (.slice va 256 vc) (l+1) (fun i=>(k i).ptr) (by omega) (by omega) (fun i hi=>(HK4.out i hi).sl) (fun i hi=>by have:=(HK4.out i hi).fit;exact this) (Rd.of_owns HO.out))).mono ?_;rintro e w5 ⟨vs,rfl,hvs,hk⟩;have HV6:=O (fun j (hj:j<4) i (hi:(vs j).ownBlock=some i) (e:i=b6)=>by have h1:=((hvs j hj).2 i hi).1;have h2:=HL6.out;omega:∀j,j<4->∀i,(vs j).ownBlock=some i->¬i=b6);have HNB2:=O (fun q (hq:q<4) i (hi:(vs q).ownBlock=some i)=>by have:=((hvs q hq).2 i hi).1;have:=HSZ.out;omega:∀q,q<4->eN w (vs q));have HNN:=O (hvs.nval (B:=B) (fun i e=>by have:=HBLT.out i e;have:=HSZ.out;omega));have hnn:=dY ((l+1:Nat):Int) vs hvs.nv;have HOF0:=dI ((l+1:Nat):Int) hvs.nv;obtain⟨nn,hnne⟩:∃x,cE ((l+1:Nat):Int) vs (fun i=>(k i).ptr)=x:=⟨_,rfl⟩
 have HOF:Hid (∀u∈nn,u.oneCell'=true):=O (by rw[←hnne];exact HOF0);have HNF:=O hnne;rw[hnne] at hnn ⊢;clear HOF0 hnne hvs;replace HL:=kL HL hk;replace HPT:=O (HPT.out.keep hk fun _ _=>id);replace HK:=O (HK.out.keep0 hk);replace HO:=O (hk.owns HO.out fun _ _=>id);clear hk;have HKR:=O HL.out.keep;have HB6:=O (HL.out.b 0);have HG6:=O (HL.out.lt 0);replace HL:=O (Loc.nil aB aB w5);have HNN0:=HNN;have HB60:=HB6;clear HPT HK HO
 go_wp2_with ((with_reducible show WL _ _);refine al 98 (.agg dC.toArray) (dC.toArray) jK ?_)
 intro b10 w6 hbs hk0 hb0_
 go_wp2_with ((with_reducible show WL _ _);refine sta 98 (.tmp 10) (.tmp 29) b10 0 nn hb0_ (by first|decide|(rw[List.size_toArray,hnn];exact Nat.le_refl _)|simp[hnn,bT]) (by rw[hnn];exact dG) HOF.out ?_)
 intro w7 hk hb;rw[aI _ _ (by first|rfl|(rw[List.size_toArray,hnn];rfl)|simp[hnn,bT])] at hb;replace hk:=tX hk0 hk (fun i hi e=>by omega);replace HL:=lW HL hbs hk hb;replace HNN:=O (cF.keep0 HNN.out hk);replace HB6:=O (hk.blk HB6.out id);clear hbs hk hb hk0 hb0_;have c1:w7.cell? ⟨b10,0,none⟩=some (.int .i64 ((l+1:Nat):Int)):=aC (i:=0) (HL.out.b 0) (by rw[←HNF.out];rfl)
 go_wp2_with ((with_reducible show WL _ _);first
  | refine wpList_load_mid rfl 98 (.tmp 10) rfl b10 0 rfl nn _ (aD (HL.out.b 0)) Tryz.underlying98 rfl (by rw[hnn];exact dG) ?_
  | refine sta 98 (.tmp 6) (.tmp 40) b6 0 nn HB6.out (by rw[List.size_toArray,bT,hnn];omega) (by rw[hnn];exact dG) HOF.out ?_)
 clear c1;intro w9 hk hb;rw[aI _ _ (by rw[List.size_toArray,bT,hnn])] at hb;have HP:Hid (fG w B l (.node p k) (.returned (.tuple #[.agg nn.toArray,.int .i64 0])) w9):=O ⟨vs,by rw[←HNF.out];rfl,fun i hi=>(HNN.out i hi).keepT hk (fun j hj e=>HV6.out i hi j hj e),HNB2.out,(HKR.out.trans HL.out.keep).trans' hk (fun _ _ h=>h) (fun i hi e=>by have:=HG6.out.1;omega)⟩;have HB9:=O hb;clear hb hk HL HNN HB6;go_wp2_with fail;refine bodyPost_ret (bI rfl _ _ b6 _ _ _ _ rfl HB9.out Tryz.underlying98 rfl (by rw[List.size_toArray,hnn];exact dG)) rfl ?_;exact HP.out
theorem IY{w:World}{c:Nat}{S:Kor}{B:Nat->Prop}(hK:KI w c S B){l:Nat}(hl:l≤2)(pv:Value)(t:Tr)(ht:Tr.Ok S (l+1) t)(hp:PtV w pv t.ptr):Calls Tryz.prog 87 #[.pointer (some ⟨c,0,none⟩),.agg (aE pv t.ptr).toArray,.int .i64 ((l+1:Nat):Int)] w (fG w B l t):=by
 cases t with
 | hole=>exact Gn pv hp l
 | leaf p b=>exact ht.elim
 | node p k=>exact Gp hK pv p hp l hl k ht.1 ht.2.1
def vL(w:World)(B:Nat->Prop)(p:Pt)(e:Ending)(w':World):Prop:=∃v,e=.returned (.agg (aE v p).toArray)/\bA w' B v p/\eN w v/\aA aB w w'
theorem Dn{w:World}{B:Nat->Prop}(hB:∀k,B k->k<w.heap.size)(pv:Value)(p:Pt)(hp:PtV w pv p)(hl:p.addrs.length≤65536):Calls Tryz.prog 89 #[.agg (aE pv p).toArray] w (vL w B p):=by
 have HBLT:=O hB;have HLN:=O hl;have HADS:=O hp.ads;have HSUM:=O hp.sum;have HPT:=O hp;obtain⟨pc,HPC,hpc,HOP⟩:=nmPt hp;rw[HPC.out];have HPS:Hid (∃r,pc=pv::r):=O ⟨_,HPC.out.symm⟩;have HL:=lN w;clear hp hl hB;have HPT0:=HPT;go_in
 go_wp2_with ((with_reducible show WL _ _);refine bxL HL 27 (.tmp 0) (pc.toArray) ?_)
 intro b1 w1 hk HL;replace HPT:=O (HPT.out.keep hk fun _ _=>id);clear hk
 go_wp2_with ((with_reducible show WL _ _);refine alL HL 27 (.agg aH.toArray) (aH.toArray) bG ?_)
 intro b2 w2 hk HL;replace HPT:=O (HPT.out.keep hk fun _ _=>id);clear hk;have c1:w2.cell? ⟨b1,0,none⟩=some (pv):=(by obtain⟨r,e⟩:=HPS.out;exact aC (i:=0) (HL.out.b 1) (by rw[e];rfl))
 go_wp2_with fail;clear c1;have HSZ:=O HL.out.keep.size;have HSL:=O (And.intro (HL.out.lt 0).2 (HL.out.lt 1).2);refine(nG w2 pv p.addrs HPT.out.rd HLN.out).mono ?_;rintro e w3 ⟨v1,rfl,ho,hk⟩;obtain⟨va,vc,rfl,-,-⟩:=(Rd.of_owns ho).form;have HPV:Hid (bA w3 B (.slice va p.addrs.length vc) p):=O ⟨⟨Rd.of_owns ho,HADS.out,HSUM.out⟩,fun i hi=>⟨fun e=>by have:=aS ho hi;have:=HBLT.out i e;have:=HSZ.out;omega,by obtain⟨cur,hc⟩:=aL ho hi;exact⟨_,_,hc⟩⟩⟩;have HNWO:Hid (eN w (.slice va p.addrs.length vc)):=O (fun i hi=>by have:=aS ho hi;have:=HSZ.out;omega);have HNB:=O (fun(i:Nat) (hi:(Value.slice va p.addrs.length vc).ownBlock=some i)=>show ¬i=b1/\¬i=b2 from⟨fun e=>by have:=aS ho hi;have:=HSL.out.2;omega,fun e=>by have:=aS ho hi;have:=HSL.out.1;omega⟩);have HB1:=O (hk.blk (HL.out.b 1) id);have HB2:=O (hk.blk (HL.out.b 0) id);have HG:=O (And.intro (HL.out.lt 1).1 (HL.out.lt 0).1);have HN12:Hid (b1≠b2):=O (fun e=>bF (i:=0) HL.out.nd rfl 1 (by decide) rfl e);have HKW:=O (HL.out.keep.trans hk);clear ho;clear hk HL HPT
 go_wp2_with ((with_reducible show WL _ _);refine sta 23 (.tmp 6) (.tmp 5) b1 0 [.slice va p.addrs.length vc] HB1.out (by rw[List.size_toArray,hpc];simp) (by kernel_rfl) (one9) ?_)
 intro w6 hk hb;rw[←HPC.out,Dl] at hb;have HB16:=O hb;have HB26:=O (hk.blk HB2.out HN12.out.symm);have HPV6:=O (HPV.out.keepT hk (fun i hi=>(HNB.out i hi).1));have HK6:=O (HKW.out.trans' hk (fun _ _ h=>h) (U:=aB) (fun i hi e=>by have:=HG.out.1;omega));clear hk hb HB1 HB2;have hqc:=aJ (v:=.slice va p.addrs.length vc) HSUM.out;obtain⟨qc,hqce⟩:∃l,aE (.slice va p.addrs.length vc) p=l:=⟨_,rfl⟩
 have HOQ:Hid (∀u∈qc,u.oneCell'=true):=O (by rw[←hqce];exact aU HPV.out.pt);have HQC:=O hqce;rw[hqce] at hqc HB16;clear hqce HPV
 go_wp2_with ((with_reducible show WL _ _);first
  | refine wpList_load_mid rfl 27 (.tmp 1) rfl b1 0 rfl qc _ (aD HB16.out) aF rfl (szP9 hqc) ?_
  | refine sta 27 (.tmp 2) (.tmp 7) b2 0 qc HB26.out (by rw[List.size_toArray,aG,hqc];omega) (szP9 hqc) HOQ.out ?_)
 intro w8 hk hb;rw[aI _ _ (by rw[List.size_toArray,aG,hqc])] at hb;have HP:Hid (vL w B p (.returned (.agg qc.toArray)) w8):=O ⟨_,by rw[←HQC.out],HPV6.out.keepT hk (fun i hi=>(HNB.out i hi).2),HNWO.out,HK6.out.trans' hk (fun _ _ h=>h) (fun i hi e=>by have:=HG.out.2;omega)⟩;have HB8:=O hb;clear hk hb HB16 HB26 HPV6 HK6;go_wp2_with fail;refine bodyPost_ret (results_cell_row rfl _ _ b2 _ _ _ _ rfl HB8.out aF rfl (by rw[List.size_toArray,hqc];exact dF)) rfl ?_;exact HP.out
theorem IZ:zB.length=256:=rfl
theorem Ay{w:World}{c:Nat}{S:Kor}{B:Nat->Prop}(hK:KI w c S B)(vv:Value)(hr:Rd w 1 vv 256 (zB.map vb)):Calls Tryz.prog 93 #[.pointer (some ⟨c,0,none⟩),vv] w (cK w c B (.slice none 0 0) (S.leaf zB).1 (S.leaf zB).2):=by
 obtain⟨va,vc,rfl,-,-⟩:=hr.form;have HRS:Hid (S.leaf zB=(some .hole,S)):=O (by unfold Kor.leaf;rw[if_pos rfl]);have HK:=O hK;have HR:=O hr;have hzp:(aE (.slice none 0 0) zPt).length=35:=rfl;have hzb:=pW;obtain⟨zp,hzpe⟩:∃l,aE (.slice none 0 0) zPt=l:=⟨_,rfl⟩
 have HOZP:Hid (∀u∈zp,u.oneCell'=true):=O (by rw[←hzpe];exact cS zPt);have HZPE:=O hzpe;rw[hzpe] at hzp hzb;have HZB:=O hzb;clear hzpe hzb;have HL:=lN w;clear hr hK;have HK0:=HK;have HR0:=HR;go_in
 go_wp2_with ((with_reducible show WL _ _);refine alL HL 27 (.agg aH.toArray) (aH.toArray) bG ?_)
 intro b4 w1 hk HL;replace HK:=O (HK.out.keep0 hk);replace HR:=O (HR.out.keep hk fun _ _=>id);clear hk
 go_wp2_with ((with_reducible show WL _ _);refine mkz (.const (.int .i64 256)) (.const (.int .i64 256)) ?_)
 intro b7 w2 hbs hk hb;replace HL:=lW HL hbs hk hb;replace HK:=O (HK.out.keep0 hk);replace HR:=O (HR.out.keep hk fun _ _=>id);clear hbs hk hb;go_wp2_with fail;refine(mJ w2 _ _ zB zB (by rw[IZ];exact HR.out) (Rd.of_owns (mQ (base:=0) (HL.out.b 0) rfl (Nat.zero_le _))) true (decide_eq_true rfl)).mono ?_;rintro e w3 ⟨rfl,rfl⟩
 go_wp2_with ((with_reducible show WL _ _);first
  | refine bld 27 #[] [] (.agg zp.toArray) HZB.out ?_
  | refine sta 27 (.tmp 4) (.tmp 9) b4 0 zp (HL.out.b 1) (by first|decide|(rw[hzp];exact Nat.le_refl _)|simp[hzp,aG]) (szP9 hzp) HOZP.out ?_)
 intro w4 hk hb;rw[aI _ _ (by first|rfl|simp[hzp,aG])] at hb;replace HL:=O (HL.out.set 1 hk hb);replace HK:=O (HK0.out.keep0 HL.out.keep);replace HR:=O (HR0.out.keep HL.out.keep fun _ _=>id);clear hk hb;have HB4:=O (HL.out.b 1);have HKE:=O HL.out.keep;have HP:Hid (cK w c B (.slice none 0 0) (S.leaf zB).1 (S.leaf zB).2 (.returned (.tuple #[.agg zp.toArray,.int .i64 0])) w4):=O (by rw[HRS.out,←HZPE.out];exact cK.hole HK.out HKE.out);clear HL HK;go_wp2_with fail;refine bodyPost_ret (bI rfl _ _ b4 _ _ _ _ rfl HB4.out aF rfl (by rw[List.size_toArray,hzp];exact dF)) rfl ?_;exact HP.out
theorem Az{w:World}{c:Nat}{S:Kor}{B:Nat->Prop}(hK:KI w c S B)(vv:Value)(bs:List UInt8)(hbl:bs.length=256)(hz:¬bs=zB)(hr:Rd w 1 vv 256 (bs.map vb))(hvb:∀i,vv.ownBlock=some i->¬B i):Calls Tryz.prog 93 #[.pointer (some ⟨c,0,none⟩),vv] w (cK w c B (.slice none 0 0) (S.leaf bs).1 (S.leaf bs).2):=by
 obtain⟨va,vc,rfl,-,-⟩:=hr.form;have HBL:=O hbl;have HNZ:=O hz;have HVB:=O hvb;have HBLT:=O (fun i (e:B i)=>hK.lt e);obtain⟨pp,hpp⟩:∃p,KN (S.put 0 bs)=p:=⟨_,rfl⟩
 obtain⟨er,her⟩:∃p,KO (S.put 0 bs)=p:=⟨_,rfl⟩
 obtain⟨T,hrk⟩:∃p,KR S (S.put 0 bs)=p:=⟨_,rfl⟩
 have HPP:=O hpp;have HER:=O her;have HRK:=O hrk
 have HRE:Hid (gD (S.leaf bs).1=pp/\kZ (S.leaf bs).1=er/\(S.leaf bs).2=T):=O (by
  rw[←hpp,←her,←hrk];unfold Kor.leaf;rw[if_neg hz];cases S.put 0 bs with
  | none=>exact⟨rfl,rfl,rfl⟩
  | some x=>exact⟨rfl,rfl,rfl⟩)
 have HK:=O hK;have HR:=O hr;have HL:=lN w;clear hr hK hbl hz hvb hpp her hrk;have HK0:=HK;have HR0:=HR;go_in
 go_wp2_with ((with_reducible show WL _ _);refine alL HL 27 (.agg aH.toArray) (aH.toArray) bG ?_)
 intro b4 w1 hk HL;replace HK:=O (HK.out.keep0 hk);replace HR:=O (HR.out.keep hk fun _ _=>id);clear hk
 go_wp2_with ((with_reducible show WL _ _);refine mkz (.const (.int .i64 256)) (.const (.int .i64 256)) ?_)
 intro b7 w2 hbs hk hb;replace HL:=lW HL hbs hk hb;replace HK:=O (HK.out.keep0 hk);replace HR:=O (HR.out.keep hk fun _ _=>id);clear hbs hk hb;go_wp2_with fail;refine(mJ w2 _ _ bs zB (by rw[HBL.out];exact HR.out) (Rd.of_owns (mQ (base:=0) (HL.out.b 0) rfl (Nat.zero_le _))) false (decide_eq_false HNZ.out)).mono ?_;rintro e w3 ⟨rfl,rfl⟩;replace HL:=O HL.out.tail;go_wp2_with fail;have HLT4:=O (HL.out.lt 0);refine((KI.put HK.out (lv:=0) (by omega) HBL.out HR.out HVB.out:Calls _ _ _ w2 (pV w2 c B (S.put 0 bs) S))).mono ?_;rintro e w8 hm;obtain⟨v,B',hm1,hpv,hki,hB',hcl,hnew,hk⟩:=hm.all;rw[HPP.out,HER.out] at hm1;rw[HPP.out] at hpv;rw[HRK.out] at hki;subst hm1;have HB4:=O (hk.blk (HL.out.b 0) (fun e=>by have:=HBLT.out _ e;have:=HLT4.out.1;omega));have HV4:=O (fun i (hi:v.ownBlock=some i) (e:i=b4)=>show False from by have:=hnew i hi;have:=HLT4.out.2;omega);have hqc:=aJ (v:=v) hpv.pt.sum;have HOQ0:=aU hpv.pt;obtain⟨qc,hqce⟩:∃l,aE v pp=l:=⟨_,rfl⟩
 have HOQ:Hid (∀u∈qc,u.oneCell'=true):=O (by rw[←hqce];exact HOQ0);have HQC:=O hqce;have HSZ8:=O HL.out.keep;have HKI:=O hki;have HPV:=O hpv;have HBB:=O hB';have HCL:=O hcl;have HNW:=O hnew;have HK8:=O hk;rw[hqce] at hqc ⊢;clear hpv hki hB' hcl hnew hk hqce HOQ0 HL HK
 go_wp2_with ((with_reducible show WL _ _);refine sta 27 (.tmp 4) (.tmp 13) b4 0 qc HB4.out (by rw[List.size_toArray,aG,hqc];omega) (szP9 hqc) HOQ.out ?_)
 intro w9 hk hb;rw[aI _ _ (by rw[List.size_toArray,aG,hqc])] at hb
 have HN4:Hid (∀i,i=b4->¬B' i):=O (by
  rintro i rfl e;rcases HBB.out _ e with h|h
  ·have:=HBLT.out _ h;have:=HLT4.out.1;omega
  ·have:=HLT4.out.2;omega)
 have HP:Hid (cK w c B (.slice none 0 0) (S.leaf bs).1 (S.leaf bs).2 (.returned (.tuple #[.agg qc.toArray,.int .i64 er])) w9):=O ⟨v,B',by rw[HRE.out.1,HRE.out.2.1,HQC.out],by rw[HRE.out.1];exact HPV.out.keepT hk (fun i hi e=>HV4.out i hi e),by rw[HRE.out.2.2];exact HKI.out.keepT hk HN4.out,fun i e=>(HBB.out i e).imp id (fun h=>Nat.le_trans HSZ8.out.size h),((Cl.refl _ _ _ HSZ8.out).trans HCL.out).trans (fun i e=>(by
  by_cases h:IsC w8 i
  ·obtain⟨cs,t,h⟩:=h
   exact .inl ⟨cs,t,hk.blk h (fun e2=>HN4.out i e2 e)⟩
  ·exact .inr ⟨e,h⟩)),.inr (HNW.out.from HSZ8.out.size),(HSZ8.out.any.trans HK8.out).trans' hk (fun _ _ h=>h) (fun i hi e=>by have:=HLT4.out.1;omega)⟩
 have HB9:=O hb;clear hk hb HB4;go_wp2_with fail;refine bodyPost_ret (bI rfl _ _ b4 _ _ _ _ rfl HB9.out aF rfl (by rw[List.size_toArray,hqc];exact dF)) rfl ?_;exact HP.out
theorem I0{w:World}{c:Nat}{S:Kor}{B:Nat->Prop}(hK:KI w c S B){l:Nat}(hl:l≤2)(k:Nat->Tr)(hk4:∀i,i<4->Tr.Ok S l (k i))(vs:Nat->Value)(hv:cF w B vs (fun i=>(k i).ptr))(hh:gA k=true):Calls Tryz.prog 88 #[.pointer (some ⟨c,0,none⟩),.agg (cE ((l+1:Nat):Int) vs (fun i=>(k i).ptr)).toArray] w (cK w c B (.slice none 0 0) (S.lay (l+1) k).1 (S.lay (l+1) k).2):=by
 have HRS:Hid (S.lay (l+1) k=(some .hole,S)):=O (by unfold Kor.lay;rw[if_pos hh]);have HEM:Hid (jN (fun i=>(k i).ptr)=true):=O (by rw[Tr.Ok.empty_eq hk4];exact hh);have hnc:=dY ((l+1:Nat):Int) vs hv.nv;obtain⟨nc,hnce⟩:∃x,cE ((l+1:Nat):Int) vs (fun i=>(k i).ptr)=x:=⟨_,rfl⟩
 have HON:Hid (∀u∈nc,u.oneCell'=true):=O (by rw[←hnce];exact dI _ hv.nv);have HNC:=O hnce;rw[hnce] at hnc ⊢;have HK:=O hK;have HV:=O hv;have HK4:=O hk4;have hzp:(aE (.slice none 0 0) zPt).length=35:=rfl;have hzb:=pW;obtain⟨zp,hzpe⟩:∃l,aE (.slice none 0 0) zPt=l:=⟨_,rfl⟩
 have HOZP:Hid (∀u∈zp,u.oneCell'=true):=O (by rw[←hzpe];exact cS zPt);have HZPE:=O hzpe;rw[hzpe] at hzp hzb;have HZB:=O hzb;clear hzpe hzb;have HL:=lN w;clear hK hv hk4 hnce hh;have HK0:=HK;have HV0:=HV;go_in
 go_wp2_with ((with_reducible show WL _ _);refine bxL HL 98 (.tmp 1) (nc.toArray) ?_)
 intro b3 w1 hk HL;replace HK:=O (HK.out.keep0 hk);replace HV:=O (cF.keep0 HV.out hk);clear hk
 go_wp2_with ((with_reducible show WL _ _);refine alL HL 27 (.agg aH.toArray) (aH.toArray) bG ?_)
 intro b4 w2 hk HL;replace HK:=O (HK.out.keep0 hk);replace HV:=O (cF.keep0 HV.out hk);clear hk
 go_wp2_with ((with_reducible show WL _ _);refine wpList_load_mid rfl 98 (.tmp 3) rfl b3 0 rfl nc _ (aD (HL.out.b 1)) Tryz.underlying98 rfl (by rw[hnc];exact dG) ?_)
 refine((by rw[←HNC.out];exact Ba w2 _ vs (fun i=>(k i).ptr) HV.out.nv:Calls _ _ _ w2 (aK w2 (.bool (jN (fun i=>(k i).ptr)))))).mono ?_;rintro e w3 ⟨rfl,hk⟩;replace HL:=kL HL hk;replace HK:=O (HK.out.keep0 hk);replace HV:=O (cF.keep0 HV.out hk);clear hk;rw[HEM.out]
 go_wp2_with ((with_reducible show WL _ _);first
  | refine bld 27 #[] [] (.agg zp.toArray) HZB.out ?_
  | refine sta 27 (.tmp 4) (.tmp 10) b4 0 zp (HL.out.b 0) (by first|decide|(rw[hzp];exact Nat.le_refl _)|simp[hzp,aG]) (szP9 hzp) HOZP.out ?_)
 intro w4 hk hb;rw[aI _ _ (by first|rfl|simp[hzp,aG])] at hb;replace HL:=O (HL.out.set 0 hk hb);replace HK:=O (HK0.out.keep0 HL.out.keep);replace HV:=O (cF.keep0 HV0.out HL.out.keep);clear hk hb;have HB4:=O (HL.out.b 0);have HKE:=O HL.out.keep;have HP:Hid (cK w c B (.slice none 0 0) (S.lay (l+1) k).1 (S.lay (l+1) k).2 (.returned (.tuple #[.agg zp.toArray,.int .i64 0])) w4):=O (by rw[HRS.out,←HZPE.out];exact cK.hole HK.out HKE.out);clear HL HK;go_wp2_with fail;refine bodyPost_ret (bI rfl _ _ b4 _ _ _ _ rfl HB4.out aF rfl (by rw[List.size_toArray,hzp];exact dF)) rfl ?_;exact HP.out
theorem I1{w:World}{c:Nat}{S:Kor}{B:Nat->Prop}(hK:KI w c S B){l:Nat}(hl:l≤2)(k:Nat->Tr)(hk4:∀i,i<4->Tr.Ok S l (k i))(vs:Nat->Value)(hv:cF w B vs (fun i=>(k i).ptr))(hh:gA k=false):Calls Tryz.prog 88 #[.pointer (some ⟨c,0,none⟩),.agg (cE ((l+1:Nat):Int) vs (fun i=>(k i).ptr)).toArray] w (cK w c B (.slice none 0 0) (S.lay (l+1) k).1 (S.lay (l+1) k).2):=by
 have HBLT:=O (fun i (e:B i)=>hK.lt e);have HEM:Hid (jN (fun i=>(k i).ptr)=false):=O (by rw[Tr.Ok.empty_eq hk4];exact hh);have HNB:Hid (nb (l+1) (fun i=>(k i).ptr)=cQ (l+1) (fB k)):=O (Tr.Ok.nb_eq (l+1) hk4);have HBL:Hid ((cQ (l+1) (fB k)).length=256):=O (Am hk4);obtain⟨pp,hpp⟩:∃p,KN (S.put (l+1) (cQ (l+1) (fB k)))=p:=⟨_,rfl⟩
 obtain⟨er,her⟩:∃p,KO (S.put (l+1) (cQ (l+1) (fB k)))=p:=⟨_,rfl⟩
 obtain⟨T,hrk⟩:∃p,KR S (S.put (l+1) (cQ (l+1) (fB k)))=p:=⟨_,rfl⟩
 have HPP:=O hpp;have HER:=O her;have HRK:=O hrk
 have HRE:Hid (gD (S.lay (l+1) k).1=pp/\kZ (S.lay (l+1) k).1=er/\(S.lay (l+1) k).2=T):=O (by
  rw[←hpp,←her,←hrk];unfold Kor.lay;rw[hh];cases S.put (l+1) (cQ (l+1) (fB k)) with
  | none=>exact⟨rfl,rfl,rfl⟩
  | some x=>exact⟨rfl,rfl,rfl⟩)
 have hnc:=dY ((l+1:Nat):Int) vs hv.nv;obtain⟨nc,hnce⟩:∃x,cE ((l+1:Nat):Int) vs (fun i=>(k i).ptr)=x:=⟨_,rfl⟩
 have HON:Hid (∀u∈nc,u.oneCell'=true):=O (by rw[←hnce];exact dI _ hv.nv);have HNC:=O hnce;rw[hnce] at hnc ⊢;have HK:=O hK;have HV:=O hv;have HK4:=O hk4;have HL:=lN w;clear hK hv hk4 hnce hh hpp her hrk;go_in
 go_wp2_with ((with_reducible show WL _ _);refine bxL HL 98 (.tmp 1) (nc.toArray) ?_)
 intro b3 w1 hk HL;replace HK:=O (HK.out.keep0 hk);replace HV:=O (cF.keep0 HV.out hk);clear hk
 go_wp2_with ((with_reducible show WL _ _);refine alL HL 27 (.agg aH.toArray) (aH.toArray) bG ?_)
 intro b4 w2 hk HL;replace HK:=O (HK.out.keep0 hk);replace HV:=O (cF.keep0 HV.out hk);clear hk
 go_wp2_with ((with_reducible show WL _ _);refine wpList_load_mid rfl 98 (.tmp 3) rfl b3 0 rfl nc _ (aD (HL.out.b 1)) Tryz.underlying98 rfl (by rw[hnc];exact dG) ?_)
 refine((by rw[←HNC.out];exact Ba w2 _ vs (fun i=>(k i).ptr) HV.out.nv:Calls _ _ _ w2 (aK w2 (.bool (jN (fun i=>(k i).ptr)))))).mono ?_;rintro e w3 ⟨rfl,hk⟩;replace HL:=kL HL hk;replace HK:=O (HK.out.keep0 hk);replace HV:=O (cF.keep0 HV.out hk);clear hk;rw[HEM.out]
 go_wp2_with ((with_reducible show WL _ _);refine wpList_load_mid rfl 98 (.tmp 3) rfl b3 0 rfl nc _ (aD (HL.out.b 1)) Tryz.underlying98 rfl (by rw[hnc];exact dG) ?_)
 have HSZ:=O HL.out.keep.size;refine((by rw[←HNC.out];exact Be w3 (l+1) vs (fun i=>(k i).ptr) HV.out.nv (by omega) (by omega) (fun i hi=>by have:=(HK4.out i hi).fit;exact this):Calls _ _ _ w3 (uY w3 (l+1) (fun i=>(k i).ptr)))).mono ?_;rintro e w4 ⟨v1,rfl,ho,hk⟩;rw[←IV,HNB.out] at ho;obtain⟨va,vc,rfl,-,-⟩:=(Rd.of_owns ho).form;have HO:=O ho;have HVB:Hid (∀i,(Value.slice va 256 vc).ownBlock=some i->¬B i):=O (fun i hi e=>by have:=aS ho hi;have:=HBLT.out i e;have:=HSZ.out;omega);clear ho;replace HL:=kL HL hk;replace HK:=O (HK.out.keep0 hk);replace HV:=O (cF.keep0 HV.out hk);clear hk;have c1:w4.cell? ⟨b3,0,none⟩=some (.int .i64 ((l+1:Nat):Int)):=(aC (i:=0) (HL.out.b 1) (by rw[←HNC.out];rfl))
 go_wp2_with fail;clear c1;have HLT4:=O (HL.out.lt 0);refine((KI.put HK.out (lv:=l+1) (by omega) HBL.out (Rd.of_owns HO.out) HVB.out:Calls _ _ _ w4 (pV w4 c B (S.put (l+1) (cQ (l+1) (fB k))) S))).mono ?_;rintro e w8 hm;obtain⟨v,B',hm1,hpv,hki,hB',hcl,hnew,hk⟩:=hm.all;rw[HPP.out,HER.out] at hm1;rw[HPP.out] at hpv;rw[HRK.out] at hki;subst hm1;have HB4:=O (hk.blk (HL.out.b 0) (fun e=>by have:=HBLT.out _ e;have:=HLT4.out.1;omega));have HV4:=O (fun i (hi:v.ownBlock=some i) (e:i=b4)=>show False from by have:=hnew i hi;have:=HLT4.out.2;omega);have hqc:=aJ (v:=v) hpv.pt.sum;have HOQ0:=aU hpv.pt;obtain⟨qc,hqce⟩:∃l,aE v pp=l:=⟨_,rfl⟩
 have HOQ:Hid (∀u∈qc,u.oneCell'=true):=O (by rw[←hqce];exact HOQ0);have HQC:=O hqce;have HSZ8:=O HL.out.keep;have HKI:=O hki;have HPV:=O hpv;have HBB:=O hB';have HCL:=O hcl;have HNW:=O hnew;have HK8:=O hk;rw[hqce] at hqc ⊢;clear hpv hki hB' hcl hnew hk hqce HOQ0 HL HK
 go_wp2_with ((with_reducible show WL _ _);refine sta 27 (.tmp 4) (.tmp 25) b4 0 qc HB4.out (by rw[List.size_toArray,aG,hqc];omega) (szP9 hqc) HOQ.out ?_)
 intro w9 hk hb;rw[aI _ _ (by rw[List.size_toArray,aG,hqc])] at hb
 have HN4:Hid (∀i,i=b4->¬B' i):=O (by
  rintro i rfl e;rcases HBB.out _ e with h|h
  ·have:=HBLT.out _ h;have:=HLT4.out.1;omega
  ·have:=HLT4.out.2;omega)
 have HP:Hid (cK w c B (.slice none 0 0) (S.lay (l+1) k).1 (S.lay (l+1) k).2 (.returned (.tuple #[.agg qc.toArray,.int .i64 er])) w9):=O ⟨v,B',by rw[HRE.out.1,HRE.out.2.1,HQC.out],by rw[HRE.out.1];exact HPV.out.keepT hk (fun i hi e=>HV4.out i hi e),by rw[HRE.out.2.2];exact HKI.out.keepT hk HN4.out,fun i e=>(HBB.out i e).imp id (fun h=>Nat.le_trans HSZ8.out.size h),((Cl.refl _ _ _ HSZ8.out).trans HCL.out).trans (fun i e=>(by
  by_cases h:IsC w8 i
  ·obtain⟨cs,t,h⟩:=h
   exact .inl ⟨cs,t,hk.blk h (fun e2=>HN4.out i e2 e)⟩
  ·exact .inr ⟨e,h⟩)),.inr (HNW.out.from HSZ8.out.size),(HSZ8.out.any.trans HK8.out).trans' hk (fun _ _ h=>h) (fun i hi e=>by have:=HLT4.out.1;omega)⟩
 have HB9:=O hb;clear hk hb HB4;go_wp2_with fail;refine bodyPost_ret (bI rfl _ _ b4 _ _ _ _ rfl HB9.out aF rfl (by rw[List.size_toArray,hqc];exact dF)) rfl ?_;exact HP.out
theorem KS{w:World}{c:Nat}{S:Kor}{B:Nat->Prop}(hK:KI w c S B){l:Nat}(hl:l≤2)(k:Nat->Tr)(hk4:∀i,i<4->Tr.Ok S l (k i))(vs:Nat->Value)(hv:cF w B vs (fun i=>(k i).ptr)):Calls Tryz.prog 88 #[.pointer (some ⟨c,0,none⟩),.agg (cE ((l+1:Nat):Int) vs (fun i=>(k i).ptr)).toArray] w (cK w c B (.slice none 0 0) (S.lay (l+1) k).1 (S.lay (l+1) k).2):=by
 cases hh:gA k with
 | true=>exact I0 hK hl k hk4 vs hv hh
 | false=>exact I1 hK hl k hk4 vs hv hh
theorem BQ{w:World}{c:Nat}{S:Kor}{B:Nat->Prop}(hK:KI w c S B)(vv:Value)(bs:List UInt8)(hbl:bs.length=256)(hr:Rd w 1 vv 256 (bs.map vb))(hvb:∀i,vv.ownBlock=some i->¬B i):Calls Tryz.prog 93 #[.pointer (some ⟨c,0,none⟩),vv] w (cK w c B (.slice none 0 0) (S.leaf bs).1 (S.leaf bs).2):=by
 by_cases h:bs=zB
 ·subst h;exact Ay hK vv hr
 ·exact Az hK vv bs hbl h hr hvb
end
end Go.Proofs.YtiinnfhjpaeffaaGreat
