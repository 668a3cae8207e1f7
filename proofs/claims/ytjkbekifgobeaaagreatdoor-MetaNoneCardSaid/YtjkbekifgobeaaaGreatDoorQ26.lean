/- A part of the proof. Conditions: those told. -/
import Derived.Test.YtjkbekifgobeaaaGreatDoorQ1
import Derived.Test.YtjkbekifgobeaaaGreatDoorQ25
import Derived.Deep.DeepAppendRoom
namespace Go.Proofs.YtjkbekifgobeaaaGreatDoor
set_option maxHeartbeats 64000000
set_option maxRecDepth 100000
set_option linter.unusedVariables false
section
open Go.RowKit Go.Maps Go.ChangeMaps
theorem AX{P:Program}(w:World)(T e:TypeId)(len size i:Nat)(cs:Array Value)(k:IntKind)(d:TypeDesc)(hu:P.underlying T=some (.array len e))(hi:i<len)(hue:P.underlying e=some d)(hd:(match d with|.struct _|.array _ _=>true|_=>false)=true)(hs:(P.info? e).map (·.size)=some size) :
 (Instr.index T (.agg cs) (.int k (i:Int))).run P w=.ok (.agg (cs.extract (i*size) (i*size+size))) w:=by
 cases hq:P.info? e with
 | none=>simp[hq] at hs
 | some ie =>
   have hsz:ie.size=size:=by simpa [hq] using hs
   have hagg:(isAgg e).run P w=.ok true w:=by
    unfold isAgg;rw[Sem.run_bind,run_underlying hue w];cases d<;>simp_all
   have h1:(0:Int)≤(i:Int)/\(i:Int)<(len:Int):=by omega
   simp[Instr.index,asIntOf,run_underlying hu,sizeOf,typeInfo,hq,hsz,h1,part,hagg,Sem.run_bind];intro h2;omega
theorem idx{P:Program}{w:World}{ops:Array Oper}{rest:List Oper}{o:Oper}{a:Act}{Q:Exit->Act->World->Prop}(T e:TypeId)(len size i:Nat)(cs:Array Value)(k:IntKind)(d:TypeDesc)(x y:Operand)(hu:P.underlying T=some (.array len e))(hi:i<len)(hue:P.underlying e=some d)(hd:(match d with|.struct _|.array _ _=>true|_=>false)=true)(hs:(P.info? e).map (·.size)=some size)
 (h:wpList P ops Q rest (a.put o.dst (.agg (cs.extract (i*size) (i*size+size)))) w) (hx:a.eval x=.agg cs:=by rfl) (hy:a.eval y=.int k (i:Int):=by rfl) (hg:o.guard=none:=by rfl) (ho:o.op=.index T x y:=by rfl):wpList P ops Q (o::rest) a w:=by
 refine wpList_plain hg fun K hK=>?_
 unfold Oper.wp execOp;simp only[ho,hx,hy,Sem.run_bind,AX w T e len size i cs k d hu hi hue hd hs,Result.andThen_ok];exact hK _ _ h
theorem vK{A C:List Value}(h:A.length=35):(A++C).take 35=A:=by rw[←h,List.take_left]
theorem kY{A C:List Value}(h:A.length=35):(A++C).drop 35=C:=by rw[←h,List.drop_left]
def tE(vs:Nat->Value)(ps:Nat->Pt):List Value:=aE (vs 0) (ps 0)++(aE (vs 1) (ps 1)++(aE (vs 2) (ps 2)++aE (vs 3) (ps 3)))
theorem KO{w:World}{vs:Nat->Value}{ps:Nat->Pt}(hv:dS w vs ps){k:Nat}(hk:k<4):(tE vs ps).toArray.extract (k*35) (k*35+35)=(aE (vs k) (ps k)).toArray:=by
 have l0:=aU (v:=vs 0) (hv 0 (by omega)).sum;have l1:=aU (v:=vs 1) (hv 1 (by omega)).sum;have l2:=aU (v:=vs 2) (hv 2 (by omega)).sum;have l3:=aU (v:=vs 3) (hv 3 (by omega)).sum;rw[List.extract_toArray,List.extract_eq_take_drop,Nat.add_sub_cancel_left]
 congr 1
 unfold tE;rcases k with _|_|_|_|k
 ·exact vK l0
 ·rw[show (0+1)*35=35 from rfl,kY l0];exact vK l1
 ·rw[show (0+1+1)*35=35+35 from rfl,←List.drop_drop,kY l0,kY l1];exact vK l2
 ·rw[show (0+1+1+1)*35=35+(35+35) from rfl,←List.drop_drop,←List.drop_drop,kY l0,kY l1,kY l2,←l3,List.take_length]
 ·omega
theorem vL{P:Program}{w:World}{ops:Array Oper}{rest:List Oper}{o:Oper}{a:Act}{Q:Exit->Act->World->Prop}(hgd:o.guard=none)(s x:Operand)(t:TypeId)
 (ho:o.op=.call { callee:=.builtin .append,args:=#[s,x],argTypes:=#[t,t] })
 (e:TypeId) (i:TypeInfo) (ht:P.underlying t=some (.slice e)) (hi:P.info? e=some i) (hsize:i.size=1)
 (g n cap:Nat) (cur:Array Value) (hb:w.heap[g]?=some (.cells cur e (0,0))) (hs:a.eval s=.slice (some ⟨g,0,none⟩) n cap)
 (ad:Addr) (m c:Nat) (news:List Value) (hx:a.eval x=.slice (some ad) m c) (hl:news.length=m) (hnews:∀j u,news[j]?=some u->w.cell? (ad.add j)=some u) (h1:∀u∈news,u.oneCell'=true)
 (hroom:n+m≤cap) (hfit:n+m≤cur.size)
 (h:∀w',w'.heap[g]?=some (.cells (spl cur n news) e (0,0))->aA (fun k=>k=g) w w'->wpList P ops Q rest (a.put o.dst (.slice (some ⟨g,0,none⟩) (n+m) cap)) w'):wpList P ops Q (o::rest) a w:=by
 have hr:=run_append_room (P:=P) w t o.type e i ht hi g n cap cur hb ad m c news (by rw[hsize,Nat.mul_one];exact hl) hnews h1 hroom (by rw[hsize,Nat.mul_one,hl];exact hfit);refine wpList_plain hgd fun K hK=>?_
 unfold Oper.wp execOp;simp only[ho,resolve,invoke,builtin,Sem.run_bind,Sem.run_pure,Result.andThen_ok,List.map_toArray,List.map_cons,List.map_nil,hs,hx,hr];refine hK _ _ (h _ ?_ ⟨rfl,rfl,rfl,by simp,fun k _ hk=>setRow_other w g k _ hk⟩);rw[setRow_heap w g cur _ e _ hb,←pO cur n news (by rw[hl];exact hfit)];simp[hsize]
theorem L4(w:World):(Instr.makeSlice 27 (.int .i64 1) (.int .i64 256)).run Tryz.prog w=.ok (.slice (some ⟨w.heap.size,0,none⟩) 1 256) (w.alloc (.cells cX.toArray 5)):=by kernel_rfl
theorem mks{w:World}{ops:Array Oper}{rest:List Oper}{o:Oper}{a:Act}{Q:Exit->Act->World->Prop}(x y:Operand)(h:∀b w',w.heap.size=b->aA aB w w'->w'.heap[b]?=some (.cells cX.toArray 5 (0,0))->wpList Tryz.prog ops Q rest (a.put o.dst (.slice (some ⟨b,0,none⟩) 1 256)) w')(hx:a.eval x=.int .i64 1:=by rfl)(hy:a.eval y=.int .i64 256:=by rfl)(hg:o.guard=none:=by rfl)(ho:o.op=.makeSlice 27 x y:=by rfl):wpList Tryz.prog ops Q (o::rest) a w:=by
 refine wpList_plain hg fun K hK=>?_
 unfold Oper.wp execOp;simp only[ho,hx,hy,Sem.run_bind,L4,Result.andThen_ok];exact hK _ _ (h _ _ rfl ((aA.refl _ _).alloc _) (heap_alloc_new _ _))
theorem LF(w:World):(Instr.makeSlice 27 (.int .i64 256) (.int .i64 256)).run Tryz.prog w=.ok (.slice (some ⟨w.heap.size,0,none⟩) 256 256) (w.alloc (.cells cX.toArray 5)):=by kernel_rfl
theorem mkz{w:World}{ops:Array Oper}{rest:List Oper}{o:Oper}{a:Act}{Q:Exit->Act->World->Prop}(x y:Operand)(h:∀b w',w.heap.size=b->aA aB w w'->w'.heap[b]?=some (.cells cX.toArray 5 (0,0))->wpList Tryz.prog ops Q rest (a.put o.dst (.slice (some ⟨b,0,none⟩) 256 256)) w')(hx:a.eval x=.int .i64 256:=by rfl)(hy:a.eval y=.int .i64 256:=by rfl)(hg:o.guard=none:=by rfl)(ho:o.op=.makeSlice 27 x y:=by rfl):wpList Tryz.prog ops Q (o::rest) a w:=by
 refine wpList_plain hg fun K hK=>?_
 unfold Oper.wp execOp;simp only[ho,hx,hy,Sem.run_bind,LF,Result.andThen_ok];exact hK _ _ (h _ _ rfl ((aA.refl _ _).alloc _) (heap_alloc_new _ _))
def kZ(lv:Nat)(ps:Nat->Pt)(k:Nat):List UInt8:=UInt8.ofNat lv::(List.range k).flatMap fun j=>ptB (ps j)
theorem As(lv:Nat)(ps:Nat->Pt)(k:Nat):kZ lv ps (k+1)=kZ lv ps k++ptB (ps k):=by unfold kZ;rw[List.range_succ,List.flatMap_append,List.flatMap_cons,List.flatMap_nil,List.append_nil];rfl
theorem rE(lv:Nat)(ps:Nat->Pt)(h:∀k,k<4->(ptB (ps k)).length=47):∀k,k≤4->(kZ lv ps k).length=1+k*47
 | 0,_=>rfl
 | k+1,hk=>by rw[As,List.length_append,rE lv ps h k (by omega),h k (by omega)];omega
def oK(lv:Nat)(ps:Nat->Pt)(k:Nat):List Value:=(kZ lv ps k).map vb++List.replicate (255-k*47) (.int .u8 0)
theorem vM(lv:Nat)(ps:Nat->Pt)(h:∀k,k<4->(ptB (ps k)).length=47)(k:Nat)(hk:k≤4):(oK lv ps k).length=256:=by
 unfold oK;rw[List.length_append,List.length_map,rE lv ps h k hk,List.length_replicate];omega
theorem GT(lv:Nat)(ps:Nat->Pt)(h:∀k,k<4->(ptB (ps k)).length=47)(k:Nat)(hk:k<4):spl (oK lv ps k).toArray (1+k*47) ((ptB (ps k)).map vb)=(oK lv ps (k+1)).toArray:=by
 have hl:=rE lv ps h k (by omega);have h7:=h k hk;rw[←pO _ _ _ (by rw[List.size_toArray,vM lv ps h k (by omega),List.length_map,h7];omega)]
 congr 1
 unfold oK;rw[As,List.map_append,List.append_assoc];have e1:(kZ lv ps k).map vb=((kZ lv ps k).map vb++List.replicate (255-k*47) (Value.int .u8 0)).take (1+k*47):=by rw[List.take_left' (by rw[List.length_map,hl])]
 simp only[];rw[←e1,List.length_map,h7]
 congr 2
 rw[←List.drop_drop,List.drop_left' (by rw[List.length_map,hl]),List.drop_replicate]
 congr 1
 omega
theorem L5:(Tryz.prog.info? 105).map (·.size)=some 140:=by kernel_rfl
theorem GU(lv:Nat)(hlv:lv<256)(ps:Nat->Pt):spl cX.toArray 0 [.int .u8 (lv:Int)]=(oK lv ps 0).toArray:=by
 rw[←pO _ _ _ (by simp[jZ])]
 congr 1
 unfold oK kZ;rw[List.map_cons,JM hlv];rfl
def tF(w:World)(lv:Nat)(ps:Nat->Pt)(e:Ending)(w':World):Prop:=
 ∃v,e=.returned (.tuple #[v,.int .i64 0])/\w'.ownsRow w.heap.size 5 1 v 256 (oK lv ps 4)/\aA aB w w'
theorem KQ{w:World}{vs:Nat->Value}{ps:Nat->Pt}{lv:Int}(h:dS w vs ps)(hf:∀k,k<4->yP lv (ps k)):∀k,k<4->(ptB (ps k)).length=47:=fun k hk=>by
 have hm:(ps k).may=true:=(hf k hk).elim qK fun h=>h.2.1
 unfold ptB;rw[if_pos hm,fG (h k hk).sum]
theorem vO{w:World}{base b:Nat}{cs:List Value}(hb:w.heap[b]?=some (.cells cs.toArray 5 (0,0)))(hl:cs.length=256)(hge:base≤b):w.ownsRow base 5 1 (.slice (some ⟨b,0,none⟩) 256 256) 256 cs:=by
 refine⟨by simp[hl],.inr ⟨b,256,cs.toArray,rfl,hge,hb,Nat.le_refl _,by unfold maxLen;omega,by simp[hl],?_⟩⟩;rw[List.toList_toArray,←hl];simp
theorem At(w:World)(lv:Nat)(vs:Nat->Value)(ps:Nat->Pt)(h:dS w vs ps)(h1:1≤lv)(h3:lv≤3)(hf:∀k,k<4->yP (lv:Int) (ps k)):Calls Tryz.prog 58 #[.agg (cY (lv:Int) vs ps).toArray] w (tF w lv ps):=by
 have hnc:=iN (lv:Int) vs h
 have htc:(tE vs ps).length=140:=by
  have:=hnc;unfold cY at this;rw[List.length_cons] at this;unfold tE;omega
 obtain⟨tc,htce⟩:∃l,tE vs ps=l:=⟨_,rfl⟩
 obtain⟨nc,hnce⟩:∃l,cY (lv:Int) vs ps=l:=⟨_,rfl⟩
 have HNT:Hid (nc=.int .i64 (lv:Int)::tc):=O (by rw[←hnce,←htce];rfl);have HTC:=O htce;have HON:Hid (∀u∈nc,u.oneCell'=true):=O (by rw[←hnce];exact eP (lv:Int) h);have HNS:=O hnce;have H47:=O (KQ h hf);rw[hnce] at hnc ⊢;rw[htce] at htc;have HNV:=O h;have HF:=O hf;have h10:0≤(lv:Int):=by omega
 have h13:(lv:Int)≤3:=by omega
 have HL:=O (Loc.nil aB aB w);clear h hnce hf htce;have HNV0:=HNV;go_enter Tryz.func58,Tryz.ntmps58
 go_wp2_with ((with_reducible show WL _ _);refine bxL HL 107 (.tmp 0) (nc.toArray) ?_)
 intro b1 w1 hk HL;replace HNV:=O (dS.keep HNV.out hk);clear hk
 go_wp2_with ((with_reducible show WL _ _);refine wpList_load_mid rfl 107 (.tmp 1) rfl b1 0 rfl nc _ (aD (HL.out.b 0)) Tryz.underlying107 rfl (by rw[hnc];exact fN) ?_)
 refine((by rw[←HNS.out];exact E1 w1 (lv:Int) vs ps HNV.out (by omega) (by omega) HF.out:Calls _ _ _ w1 (aF w1 (.int .i64 0)))).mono ?_;rintro e w2 ⟨rfl,hk⟩;replace HL:=O (HL.out.keeps hk);replace HNV:=O (dS.keep HNV.out hk);clear hk
 go_wp2_with ((with_reducible show WL _ _);refine mks (.const (.int .i64 1)) (.const (.int .i64 256)) ?_)
 intro b15 w3 hbs hk hb;replace HL:=O (HL.out.new (fun _ h=>h.elim) hbs hk hb);replace HNV:=O (dS.keep HNV.out hk);clear hbs hk hb;have c1:w3.cell? ⟨b1,0,none⟩=some (.int .i64 (lv:Int)):=(aC (i:=0) (HL.out.b 1) (by rw[HNT.out];rfl))
 go_wp2_with ((with_reducible show WL _ _);refine sta 5 (.tmp 20) (.tmp 19) b15 0 ([.int .u8 (lv:Int)]) (HL.out.b 0) (by simp[jZ]) (by kernel_rfl) (one9) ?_)
 clear c1;intro w4 hk hb;rw[GU lv (by omega) ps] at hb;replace HL:=O (HL.out.set 0 hk hb);replace HNV:=O (dS.keep HNV0.out HL.out.keep);clear hk hb
 go_wp2_with ((with_reducible show WL _ _);refine wpList_load_mid rfl 105 (.tmp 21) rfl b1 1 rfl tc _ (by have h:=aD (HL.out.b 1);rw[HNT.out] at h;exact xF h) Tryz.underlying105 rfl (by rw[htc];exact L5) ?_)
 have HB:=O (HL.out.b 1);have HB15:=O (HL.out.b 0);have HGE:=O (HL.out.lt 0);have HNE:Hid (b1≠b15):=O (fun e=>by have h1:=HB.out;rw[e,HB15.out] at h1;injection h1 with h1;injection h1 with h1 h2;revert h2;decide);have HK0:=O HL.out.keep
 obtain⟨iu,hiu,hsu⟩:∃i,Tryz.prog.info? 5=some i/\i.size=1:=by
  cases hq:Tryz.prog.info? 5 with
  | none=>have:=wB;rw[hq] at this;cases this
  | some i=>exact⟨i,rfl,by have:=wB;rw[hq] at this;simpa using this⟩
 have HIU:=O hiu;have HSU:=O hsu;clear HL HNV hiu hsu
 go_loopw [5,23] (fun s i wr=>∃k:Nat,k≤4/\s=.slice (some ⟨b15,0,none⟩) (1+k*47) 256/\i=.int .i64 k/\Hid (aA aB w wr)/\Hid (wr.heap[b15]?=some (.cells (oK lv ps k).toArray 5 (0,0)))) (fun _ i _=>4-(intOf i).toNat)
 case atStart=>exact⟨0,by omega,rfl,rfl,HK0,HB15⟩
 case round =>
  obtain⟨k,hk,rfl,rfl,HK,HB5⟩:=hrel
  by_cases hk8:k<4
  ·have HNW:=O (dS.keep HNV0.out HK.out)
   have hpk:=aU (v:=vs k) (HNV0.out k hk8).sum;have HEX:=O (KO HNV0.out hk8);rw[HTC.out] at HEX;have HMY:Hid ((ps k).may=true):=O ((HF.out k hk8).elim qK fun h=>h.2.1);have HL7:=O (H47.out k hk8);obtain⟨pk,hpke⟩:∃l,aE (vs k) (ps k)=l:=⟨_,rfl⟩
   have HOK:Hid (∀u∈pk,u.oneCell'=true):=O (by rw[←hpke];exact dM (HNV0.out k hk8));have HPK:=O hpke;rw[hpke] at hpk HEX;have HL:=O (Loc.nil aB aB wr);have hk0:(0:Int)≤(k:Int):=by omega
   have hk1:(k:Int)<4:=by omega
   clear hpke
   go_wp2_with ((with_reducible show WL _ _);first
    | refine idx 105 26 4 35 k _ .i64 _ (.tmp 22) (.tmp 23) Tryz.underlying105 hk8 aK rfl wJ ?_;rw[HEX.out]
    | refine al 26 (.agg aL.toArray) (aL.toArray) bZ ?_)
   intro b7 w5 hbs hk0 hb0_
   go_wp2_with ((with_reducible show WL _ _);refine sta 26 (.tmp 7) (.tmp 25) b7 0 pk hb0_ (by first|decide|(rw[List.size_toArray,hpk];exact Nat.le_refl _)|simp[hpk]) (szP9 hpk) HOK.out ?_)
   intro w6 hk hb;rw[aG _ _ (by first|rfl|(rw[List.size_toArray,hpk];rfl)|simp[hpk])] at hb;replace hk:=hk0.trans' hk (U:=aB) (fun _ _ h=>h) (fun i hi e=>by omega);replace HL:=O (HL.out.new (fun _ h=>h.elim) hbs hk hb);replace HNW:=O (dS.keep HNW.out hk);replace HB5:=O (hk.blk HB5.out id);clear hbs hk hb hk0 hb0_
   go_wp2_with ((with_reducible show WL _ _);refine wpList_load_mid rfl 26 (.tmp 7) rfl b7 0 rfl pk _ (aD (HL.out.b 0)) aK rfl (szP9 hpk) ?_)
   refine((by rw[←HPK.out];exact zR w6 (vs k) (ps k) (HNW.out k hk8):Calls _ _ _ w6 (zQ w6 (ps k)))).mono ?_;rintro e w7 ⟨v1,rfl,ho,hk⟩;rw[if_pos HMY.out];rw[HL7.out] at ho;obtain⟨pa,pc,rfl,-,-⟩:=(Rd.of_owns ho).form;have HO:=O ho;clear ho;replace HL:=O (HL.out.keeps hk);replace HNW:=O (dS.keep HNW.out hk);replace HB5:=O (hk.blk HB5.out id);clear hk
   obtain⟨pg,po,pcap,hpv,hpc⟩:∃g o cap,Value.slice pa 47 pc=.slice (some ⟨g,o,none⟩) 47 cap/\∀j u,((ptB (ps k)).map vb)[j]?=some u->w7.cell? ⟨g,o+j,none⟩=some u:=by
    obtain⟨_,a',cap,he,-,-,-,h4⟩:=Rd.of_owns HO.out;obtain⟨g,o,rfl,hc⟩:=h4 (by rw[List.length_map,HL7.out];decide);exact⟨g,o,cap,he,hc⟩
   injection hpv with e1 e2 e3
   subst e1;subst e3;have HCC:=O hpc;clear hpc e2;have HB6:=HB5;have HKL:=O HL.out.keep
   go_wp2_with (first
    | (at_builtin;refine vL rfl (.tmp 31) (.tmp 32) 27 rfl 5 iu Tryz.underlying27 HIU.out HSU.out b15 (1+k*47) 256 _ HB6.out rfl ⟨pg,po,none⟩ 47 pc ((ptB (ps k)).map vb) rfl (by rw[List.length_map,HL7.out]) (fun j u hj=>by rw[iQ];exact HCC.out j u hj) (bI _) (by omega) (by rw[List.size_toArray,vM lv ps H47.out k (by omega)];omega) ?_))
   intro w9 hb hk;rw[GT lv ps H47.out k hk8] at hb;have HK8:Hid (aA aB w w9):=O ((HK.out.trans HKL.out).trans' hk (fun _ _ h=>h) (fun i hi e=>by have:=HGE.out.1;omega));have HB8:=O hb;clear hb hk HL HNW HB5 HO HCC HB6 HKL;go_wp2_with fail
   go_roundw
   case rel=>exact⟨k+1,by omega,(by rw[show 1+(k+1)*47=1+k*47+47 by omega]),by go_num,HK8,HB8⟩
   case measure=>simp[intOf];omega
  ·obtain rfl:k=4:=by omega
   go_wp2_with fail
   go_ret2
   exact⟨_,rfl,vO HB5.out (vM lv ps H47.out 4 (by omega)) HGE.out.1,HK.out⟩
def nb(lv:Nat)(ps:Nat->Pt):List UInt8:=kZ lv ps 4++List.replicate 67 0
theorem GX(lv:Nat)(ps:Nat->Pt):(nb lv ps).map vb=oK lv ps 4:=by unfold nb oK;rw[List.map_append,List.map_replicate];rfl
theorem LG(lv:Nat)(ps:Nat->Pt)(h:∀k,k<4->(ptB (ps k)).length=47):(nb lv ps).length=256:=by
 unfold nb;rw[List.length_append,rE lv ps h 4 (by omega),List.length_replicate]
def rF{α:Type}(f:Nat->α)(k:Nat)(v:α):Nat->α:=fun j=>if j=k then v else f j
theorem yQ{α:Type}(f:Nat->α)(k:Nat)(v:α):rF f k v k=v:=if_pos rfl
theorem yR{α:Type}(f:Nat->α){k j:Nat}(v:α)(h:j≠k):rF f k v j=f j:=if_neg h
theorem lA(P A B R:List Value)(h:B.length=A.length):spl (P++(A++R)).toArray P.length B=(P++(B++R)).toArray:=by
 rw[←pO _ _ _ (by simp;omega)]
 congr 1
 rw[List.toList_toArray,List.take_left,←List.drop_drop,List.drop_left,h,List.drop_left]
theorem LH{w:World}{vs:Nat->Value}{ps:Nat->Pt}(hv:dS w vs ps)(lv:Int){k:Nat}(hk:k<4){v:Value}{p:Pt}(hp:p.sum.length=32):spl (cY lv vs ps).toArray (1+k*35) (aE v p)=(cY lv (rF vs k v) (rF ps k p)).toArray:=by
 have l0:=aU (v:=vs 0) (hv 0 (by omega)).sum;have l1:=aU (v:=vs 1) (hv 1 (by omega)).sum;have l2:=aU (v:=vs 2) (hv 2 (by omega)).sum;have l3:=aU (v:=vs 3) (hv 3 (by omega)).sum;have lp:=aU (v:=v) hp;rcases k with _|_|_|_|k
 ·exact lA [.int .i64 lv] (aE (vs 0) (ps 0)) (aE v p) (aE (vs 1) (ps 1)++(aE (vs 2) (ps 2)++aE (vs 3) (ps 3))) (by rw[lp,l0])
 ·have h:=lA (.int .i64 lv::aE (vs 0) (ps 0)) (aE (vs 1) (ps 1)) (aE v p) (aE (vs 2) (ps 2)++aE (vs 3) (ps 3)) (by rw[lp,l1])
  rw[List.length_cons,l0] at h;exact h
 ·have h:=lA (.int .i64 lv::(aE (vs 0) (ps 0)++aE (vs 1) (ps 1))) (aE (vs 2) (ps 2)) (aE v p) (aE (vs 3) (ps 3)) (by rw[lp,l2])
  rw[List.length_cons,List.length_append,l0,l1,List.cons_append,List.cons_append,List.append_assoc,List.append_assoc] at h;exact h
 ·have h:=lA (.int .i64 lv::(aE (vs 0) (ps 0)++(aE (vs 1) (ps 1)++aE (vs 2) (ps 2)))) (aE (vs 3) (ps 3)) (aE v p) [] (by rw[lp,l3])
  rw[List.length_cons,List.length_append,List.length_append,l0,l1,l2,List.cons_append,List.cons_append,List.append_assoc,List.append_assoc,List.append_assoc,List.append_assoc,List.append_nil,List.append_nil] at h;exact h
 ·omega
def rG(ps:Nat->Pt)(k:Nat):Nat->Pt:=fun j=>if j<k then ps j else zPt
theorem Au(ps:Nat->Pt)(k:Nat):rG ps (k+1)=rF (rG ps k) k (ps k):=by
 funext j
 unfold rG rF
 by_cases e:j=k
 ·subst e;rw[if_pos (by omega),if_pos rfl]
 ·rw[if_neg e]
  show _=if j<k then ps j else zPt
  by_cases h:j<k
  ·rw[if_pos h,if_pos (by omega)]
  ·rw[if_neg h,if_neg (by omega)]
def IsC(w:World)(k:Nat):Prop:=∃cs t,w.heap[k]?=some (.cells cs t (0,0))
theorem IsC.lt{w:World}{k:Nat}(h:IsC w k):k<w.heap.size:=by obtain⟨cs,t,h⟩:=h;exact lt_of_block h
theorem IsC.keep{T:Nat->Prop}{w w':World}{k:Nat}(h:IsC w k)(kp:aA T w w')(hT:¬T k):IsC w' k:=by obtain⟨cs,t,h⟩:=h;exact⟨cs,t,kp.blk h hT⟩
def lB(w0 w:World)(v:Value):Prop:=∀i,v.ownBlock=some i->w0.heap.size≤i/\IsC w i
theorem lB.keep{T:Nat->Prop}{w0 w w':World}{v:Value}(h:lB w0 w v)(k:aA T w w')(hT:∀i,v.ownBlock=some i->¬T i):lB w0 w' v:=fun i hi=>⟨(h i hi).1,(h i hi).2.keep k (hT i hi)⟩
def eQ(w0 w:World)(vs:Nat->Value)(ps:Nat->Pt):Prop:=∀k,k<4->PtV w (vs k) (ps k)/\lB w0 w (vs k)
theorem eQ.nv{w0 w:World}{vs:Nat->Value}{ps:Nat->Pt}(h:eQ w0 w vs ps):dS w vs ps:=fun k hk=>(h k hk).1
theorem eQ.keep{T:Nat->Prop}{w0 w w':World}{vs:Nat->Value}{ps:Nat->Pt}(h:eQ w0 w vs ps)(k:aA T w w')(hT:∀i,T i->¬(w0.heap.size≤i/\∃j,j<4/\(vs j).ownBlock=some i)):eQ w0 w' vs ps:=fun i hi =>
 ⟨(h i hi).1.keep k fun j hj e=>hT j e ⟨((h i hi).2 j hj).1,i,hi,hj⟩,fun j hj=>⟨((h i hi).2 j hj).1,((h i hi).2 j hj).2.keep k fun e=>hT j e ⟨((h i hi).2 j hj).1,i,hi,hj⟩⟩⟩
theorem eQ.keep0{w0 w w':World}{vs:Nat->Value}{ps:Nat->Pt}(h:eQ w0 w vs ps)(k:aA aB w w'):eQ w0 w' vs ps:=h.keep k fun _ e=>e.elim
theorem rH(w:World):PtV w (.slice none 0 0) zPt:=⟨Rd.nil w 2,fun x hx=>(by cases hx),rfl⟩
theorem eQ.zero(w0 w:World):eQ w0 w (fun _=>.slice none 0 0) (fun _=>zPt):=fun _ _=>⟨rH w,fun i hi=>by cases hi⟩
theorem eQ.put{w0 w:World}{vs:Nat->Value}{ps:Nat->Pt}(h:eQ w0 w vs ps){k:Nat}{v:Value}{p:Pt}(hp:PtV w v p)(hn:lB w0 w v):eQ w0 w (rF vs k v) (rF ps k p):=fun i hi=>by
 by_cases e:i=k
 ·subst e;rw[yQ,yQ];exact⟨hp,hn⟩
 ·rw[yR _ _ e,yR _ _ e];exact h i hi
def uH(w:World)(lv:Nat)(ps:Nat->Pt)(e:Ending)(w':World):Prop:=
 ∃vs,e=.returned (.tuple #[.agg (cY (lv:Int) vs ps).toArray,.int .i64 0])/\eQ w w' vs ps/\aA aB w w'
theorem Jf(lv:Int):Tryz.prog.built 107 [(0,.int .i64 lv)]=some (cY lv (fun _=>.slice none 0 0) (fun _=>zPt)).toArray:=by kernel_rfl
theorem yS(lv:Int)(w:World):(Instr.build 107 #[(0,.int .i64 lv)]).run Tryz.prog w=.ok (.agg (cY lv (fun _=>.slice none 0 0) (fun _=>zPt)).toArray) w:=run_build w 107 _ _ (Jf lv)
theorem KS{w:World}{g o a n c k:Nat}{l:List UInt8}{bs:List UInt8}(hc:∀j u,(l.map vb)[j]?=some u->w.cell? ⟨g,o+j,none⟩=some u)(hs:(l.drop k).take 47=bs)(hl:bs.length=47)(ha:a=o+k)(hn:n=47)(h1:47≤c)(h2:c≤maxLen):Rd w 1 (.slice (some ⟨g,a,none⟩) n c) bs.length (bs.map vb):=by
 subst ha hn;rw[hl];refine⟨by rw[List.length_map,hl],_,_,rfl,h1,h2,(fun e=>by cases e),fun _=>⟨g,_,rfl,fun i u hi=>?_⟩⟩;rw[show o+k+i=o+(k+i) by omega];refine hc _ _ ?_;rw[←hs,List.getElem?_map,List.getElem?_take] at hi;split at hi
 ·rw[List.getElem?_drop] at hi
  rw[List.getElem?_map];exact hi
 ·cases hi
theorem KT(lv:Nat)(ps:Nat->Pt)(h:∀k,k<4->(ptB (ps k)).length=47){k:Nat}(hk:k<4):((nb lv ps).drop (1+k*47)).take 47=ptB (ps k):=by
 have e:kZ lv ps 4=UInt8.ofNat lv::(ptB (ps 0)++(ptB (ps 1)++(ptB (ps 2)++ptB (ps 3)))):=by
  unfold kZ;simp[List.range_succ]
 have l0:=h 0 (by omega);have l1:=h 1 (by omega);have l2:=h 2 (by omega);have l3:=h 3 (by omega);unfold nb;rw[e]
 have cut:∀(A B C:List UInt8) (n:Nat),A.length=n->B.length=47->((A++(B++C)).drop n).take 47=B:=fun A B C n hA hB=>by
  rw[←hA,List.drop_left,←hB,List.take_left]
 rcases k with _|_|_|_|k
 ·exact(congrArg (fun l=>(List.drop 1 l).take 47) (by simp[List.append_assoc])).trans (cut [UInt8.ofNat lv] (ptB (ps 0)) (ptB (ps 1)++(ptB (ps 2)++(ptB (ps 3)++List.replicate 67 0))) 1 rfl l0)
 ·exact(congrArg (fun l=>(List.drop 48 l).take 47) (by simp[List.append_assoc])).trans (cut (UInt8.ofNat lv::ptB (ps 0)) (ptB (ps 1)) (ptB (ps 2)++(ptB (ps 3)++List.replicate 67 0)) 48 (by simp[l0]) l1)
 ·exact(congrArg (fun l=>(List.drop 95 l).take 47) (by simp[List.append_assoc])).trans (cut (UInt8.ofNat lv::(ptB (ps 0)++ptB (ps 1))) (ptB (ps 2)) (ptB (ps 3)++List.replicate 67 0) 95 (by simp[l0,l1]) l2)
 ·exact(congrArg (fun l=>(List.drop 142 l).take 47) (by simp[List.append_assoc])).trans (cut (UInt8.ofNat lv::(ptB (ps 0)++(ptB (ps 1)++ptB (ps 2)))) (ptB (ps 3)) (List.replicate 67 0) 142 (by simp[l0,l1,l2]) l3)
 ·omega
theorem Jg{p:Pt}(hs:p.sum.length=32)(hm:p.may=true):jI (ptB p)=true/\fL (ptB p)=p:=by
 have h1:=GW hs hm;have h2:=fG hs;unfold ptB;rw[if_pos hm,h1];unfold jI;rw[h1,h2,hm];unfold ptB;rw[if_pos hm];simp
theorem Dd(w:World)(bv:Value)(lv:Nat)(ps:Nat->Pt)(h1:1≤lv)(h3:lv≤3)(hs:∀k,k<4->(ps k).sum.length=32)(hf:∀k,k<4->yP (lv:Int) (ps k))(hr:Rd w 1 bv 256 ((nb lv ps).map vb)):Calls Tryz.prog 124 #[bv] w (uH w lv ps):=by
 have hmy:∀k,k<4->(ps k).may=true:=fun k hk=>(hf k hk).elim qK fun h=>h.2.1
 have h47:∀k,k<4->(ptB (ps k)).length=47:=fun k hk=>by unfold ptB;rw[if_pos (hmy k hk),fG (hs k hk)]
 have HNL:=O (LG lv ps h47);obtain⟨_,oa,ca,rfl,hca,hcm,-,hce⟩:=id hr;obtain⟨g,o,rfl,hcc⟩:=hce (by rw[List.length_map,HNL.out];decide);unfold maxLen at hcm;have HC:=O hcc;have HCM:=O (show ca≤maxLen from hcm);have HR:=O hr;have HR0:=HR;have hc0:w.cell? ⟨g,o,none⟩=some (.int .u8 (lv:Int))  :=hcc 0 _ (by unfold nb kZ;rw[List.cons_append,List.map_cons,JM (by omega)];rfl);have HC0:=O hc0;have HMY:=O hmy;have HSS:=O hs;have HF:=O hf;have H47:=O h47;have hnz:(cY (lv:Int) (fun _=>.slice none 0 0) (fun _=>zPt)).length=141:=rfl;have HOZ0:Hid (∀u∈cY (lv:Int) (fun _=>.slice none 0 0) (fun _=>zPt),u.oneCell'=true):=O (eP (w:=w) (lv:Int) fun _ _=>rH w);have hbn:=yS (lv:Int);obtain⟨nz,hnze⟩:∃l,cY (lv:Int) (fun _=>.slice none 0 0) (fun _=>zPt)=l:=⟨_,rfl⟩
 have HOZ:Hid (∀u∈nz,u.oneCell'=true):=O (by rw[←hnze];exact HOZ0.out);have HNZ:=O hnze;rw[hnze] at hnz hbn;have HBN:=O hbn;have h10:0≤(lv:Int):=by omega
 have h13:(lv:Int)≤3:=by omega
 have HL:=O (Loc.nil aB aB w);clear hr hce hcc hc0 hmy hs hf h47 hnze hbn HOZ0;go_enter Tryz.func124,Tryz.ntmps124
 go_wp2_with ((with_reducible show WL _ _);refine alL HL 107 (.agg eM.toArray) (eM.toArray) nZ ?_)
 intro b2 w1 hk HL;replace HC0:=O (hk.cell HC0.out id);replace HR:=O (HR.out.keep hk fun _ _=>id);clear hk;have c1:w1.cell? ⟨g,o,none⟩=some (.int .u8 (lv:Int)):=HC0.out
 go_wp2_with ((with_reducible show WL _ _);first
  | refine bld 107 #[(0,.tmp 17)] [(0,.int .i64 (lv:Int))] (.agg nz.toArray) HBN.out ?_
  | refine al 107 (.agg eM.toArray) (eM.toArray) nZ ?_)
 clear c1;intro b4 w2 hbs hk0 hb0_
 go_wp2_with ((with_reducible show WL _ _);refine sta 107 (.tmp 4) (.tmp 18) b4 0 nz hb0_ (by first|decide|(rw[List.size_toArray,hnz];exact Nat.le_refl _)|simp[hnz,dB]) (by rw[hnz];exact fN) HOZ.out ?_)
 intro w3 hk hb;rw[aG _ _ (by first|rfl|(rw[List.size_toArray,hnz];rfl)|simp[hnz,dB])] at hb;replace hk:=hk0.trans' hk (U:=aB) (fun _ _ h=>h) (fun i hi e=>by omega);replace HL:=O (HL.out.new (fun _ h=>h.elim) hbs hk hb);replace HC0:=O (hk.cell HC0.out id);replace HR:=O (HR.out.keep hk fun _ _=>id);clear hbs hk hb hk0 hb0_;go_wp2_with fail;have HB2:=O (HL.out.b 1);have HB4:=O (HL.out.b 0);have HGE:=O (And.intro (HL.out.lt 1).1 (HL.out.lt 0).1);have HNE:Hid (b2≠b4):=O (fun e=>cW (i:=0) HL.out.nd rfl 1 (by decide) rfl e);have HK0:=O HL.out.keep;clear HL HR HC0
 go_loopw [19] (fun i wr=>∃k:Nat,k≤4/\i=.int .i64 k/\Hid (aA aB w wr)/\Hid (∃vs,eQ w wr vs (rG ps k)/\(∀j,j<4->(vs j).ownBlock≠some b2/\(vs j).ownBlock≠some b4)/\wr.heap[b4]?=some (.cells (cY (lv:Int) vs (rG ps k)).toArray 107 (0,0)))/\Hid (wr.heap[b2]?=some (.cells eM.toArray 107 (0,0)))) (fun i _=>4-(intOf i).toNat)
 case atStart=>exact⟨0,by omega,rfl,HK0,O ⟨_,eQ.zero w _,fun j hj=>⟨(by intro e;cases e),(by intro e;cases e)⟩,by rw[HB4.out,←HNZ.out];rfl⟩,HB2⟩
 case round =>
  obtain⟨k,hk,rfl,HK,HQ,HB2⟩:=hrel;obtain⟨vs,hnn_,hvo,hb4⟩:=HQ.out;have HNN:=O hnn_;have HVO:=O hvo;have HB4:=O hb4;clear hnn_ hvo hb4 HQ
  by_cases hk8:k<4
  ·have HCW:=O (fun j u h=>HK.out.cell (HC.out j u h) id)
   have HRO:=O (Jg (HSS.out k hk8) (HMY.out k hk8));have HL7:=O (H47.out k hk8);have hpk:=aU (v:=.slice none 0 0) (HSS.out k hk8);have HL:=O (Loc.nil aB aB wr);have HWS:=O HK.out.size;have hk0:(0:Int)≤(k:Int):=by omega
   have hk1:(k:Int)<4:=by omega
   have hca2:(256:Int)≤(ca:Int):=by omega
   clear hpk;go_wp2_with fail;refine(Iq wr _ (ptB (ps k)) (KS (o:=o) (fun j u h=>HL.out.keep.cell (HCW.out j u h) id) (KT lv ps H47.out hk8) HL7.out (by omega) (by omega) (by omega) (by unfold maxLen;omega)) HRO.out.1).mono ?_;rintro e w4 ⟨hk,hm⟩;rw[HRO.out.1,if_pos rfl,HRO.out.2] at hm;obtain⟨v1,rfl,ho⟩:=hm;have HPT:=O (show PtV w4 v1 (ps k) from⟨Rd.of_owns ho,(by rw[←HRO.out.2];exact BH _ _),HSS.out k hk8⟩);have HNEW:Hid (lB w w4 v1):=O (fun i hi=>⟨by have:=aS ho hi;have:=HL.out.keep.size;have:=HWS.out;omega,by obtain⟨cur,hc⟩:=aJ ho hi;exact⟨_,_,hc⟩⟩);have HOFF:Hid (v1.ownBlock≠some b2/\v1.ownBlock≠some b4):=O ⟨fun e=>by have:=aS ho e;have:=lt_of_block HB2.out;omega,fun e=>by have:=aS ho e;have:=lt_of_block HB4.out;omega⟩;have hpk:=aU (v:=v1) (HSS.out k hk8);obtain⟨pk,hpke⟩:∃l,aE v1 (ps k)=l:=⟨_,rfl⟩
   have HOK:Hid (∀u∈pk,u.oneCell'=true):=O (by rw[←hpke];exact dM HPT.out);have HPK:=O hpke;rw[hpke] at hpk ⊢;clear hpke ho;replace HL:=O (HL.out.keeps hk);replace HNN:=O (HNN.out.keep0 hk);replace HB4:=O (hk.blk HB4.out id);replace HB2:=O (hk.blk HB2.out id);clear hk;have HKR:=O HL.out.keep;replace HL:=O (Loc.nil aB aB w4);have HNN0:=HNN;have HB40:=HB4;have HB20:=HB2;have HPT0:=HPT;have HNEW0:=HNEW
   go_wp2_with ((with_reducible show WL _ _);refine alL HL 26 (.agg aL.toArray) (aL.toArray) bZ ?_)
   intro b6 w5 hk HL;replace HNN:=O (HNN.out.keep0 hk);replace HB4:=O (hk.blk HB4.out id);replace HB2:=O (hk.blk HB2.out id);replace HPT:=O (HPT.out.keep hk fun _ _=>id);replace HNEW:=O (lB.keep HNEW.out hk fun _ _=>id);clear hk
   go_wp2_with ((with_reducible show WL _ _);refine alL HL 249 (.agg #[.int .i64 0,.int .i64 0]) (#[.int .i64 0,.int .i64 0]) (O DF) ?_)
   intro b7 w6 hk HL;replace HNN:=O (HNN.out.keep0 hk);replace HB4:=O (hk.blk HB4.out id);replace HB2:=O (hk.blk HB2.out id);replace HPT:=O (HPT.out.keep hk fun _ _=>id);replace HNEW:=O (lB.keep HNEW.out hk fun _ _=>id);clear hk
   go_wp2_with ((with_reducible show WL _ _);refine sta 26 (.tmp 6) (.tmp 33) b6 0 pk (HL.out.b 1) (by first|decide|(rw[hpk];exact Nat.le_refl _)|simp[hpk,aI]) (szP9 hpk) HOK.out ?_)
   intro w7 hk hb;rw[aG _ _ (by first|rfl|simp[hpk,aI])] at hb;replace HL:=O (HL.out.set 1 hk hb);replace HNN:=O (HNN0.out.keep0 HL.out.keep);replace HB4:=O (HL.out.keep.blk HB40.out id);replace HB2:=O (HL.out.keep.blk HB20.out id);replace HPT:=O (HPT0.out.keep HL.out.keep fun _ _=>id);replace HNEW:=O (lB.keep HNEW0.out HL.out.keep fun _ _=>id);clear hk hb
   go_wp2_with ((with_reducible show WL _ _);refine sta 249 (.tmp 7) (.tmp 34) b7 0 ([.int .i64 0,.int .i64 0]) (HL.out.b 0) (by first|decide|(rw[rfl];exact Nat.le_refl _)|simp[]) (by kernel_rfl) (by intro v hv;simp only[List.mem_cons,List.not_mem_nil,or_false] at hv;rcases hv with rfl|rfl<;>rfl) ?_)
   intro w8 hk hb;rw[aG _ _ (by first|rfl|simp[])] at hb;replace HL:=O (HL.out.set 0 hk hb);replace HNN:=O (HNN0.out.keep0 HL.out.keep);replace HB4:=O (HL.out.keep.blk HB40.out id);replace HB2:=O (HL.out.keep.blk HB20.out id);replace HPT:=O (HPT0.out.keep HL.out.keep fun _ _=>id);replace HNEW:=O (lB.keep HNEW0.out HL.out.keep fun _ _=>id);clear hk hb;have HB4b:=HB4;have c1:w8.cell? ⟨b7,0,none⟩=some (.int .i64 0):=(aC (i:=0) (HL.out.b 0) rfl)
   go_wp2_with ((with_reducible show WL _ _);first
    | refine wpList_load_mid rfl 26 (.tmp 6) rfl b6 0 rfl pk _ (aD (HL.out.b 1)) aK rfl (szP9 hpk) ?_
    | refine sta 26 (.tmp 42) (.tmp 40) b4 (1+k*35) pk HB4b.out (by rw[List.size_toArray,iN (lv:Int) vs HNN.out.nv,hpk];omega) (szP9 hpk) HOK.out ?_)
   clear c1;intro w9 hk hb;rw[←HPK.out,LH HNN.out.nv (lv:Int) hk8 (HSS.out k hk8),←Au] at hb;have HK8:Hid (aA aB w w9):=O (((HK.out.trans HKR.out).trans HL.out.keep).trans' hk (fun _ _ h=>h) (fun i hi e=>by have:=HGE.out.2;omega));have HB8:Hid (w9.heap[b2]?=some (.cells eM.toArray 107 (0,0))):=O (hk.blk HB2.out HNE.out)
   have HQ8:Hid (∃vs,eQ w w9 vs (rG ps (k+1))/\(∀j,j<4->(vs j).ownBlock≠some b2/\(vs j).ownBlock≠some b4)/\w9.heap[b4]?=some (.cells (cY (lv:Int) vs (rG ps (k+1))).toArray 107 (0,0))):=O ⟨rF vs k v1,by
    rw[Au];refine eQ.put (HNN.out.keep hk ?_) (HPT.out.keep hk fun i hi e=>HOFF.out.2 (e▸hi)) (HNEW.out.keep hk fun i hi e=>HOFF.out.2 (e▸hi));rintro i rfl ⟨-,j,hj,e⟩;exact(HVO.out j hj).2 e,fun j hj=>by
    by_cases e:j=k
    ·subst e;rw[yQ];exact HOFF.out
    ·rw[yR _ _ e];exact HVO.out j hj,hb⟩
   clear hb hk HL HNN HB4 HB2 HPT HNEW HB4b HOFF;go_wp2_with fail
   go_roundw
   case rel=>exact⟨k+1,by omega,by go_num,HK8,HQ8,HB8⟩
   case measure=>simp[intOf];omega
  ·obtain rfl:k=4:=by omega
   have hps:∀j,j<4->rG ps 4 j=ps j:=fun j hj=>if_pos hj
   have hnde:cY (lv:Int) vs (rG ps 4)=cY (lv:Int) vs ps:=by unfold cY;rw[hps 0 (by omega),hps 1 (by omega),hps 2 (by omega),hps 3 (by omega)]
   replace HNN:Hid (eQ w wr vs ps):=O (fun j hj=>by have:=HNN.out j hj;rw[hps j hj] at this;exact this);rw[hnde] at HB4;have hnn:=iN (lv:Int) vs HNN.out.nv;have HL:=O (Loc.nil aB aB wr);obtain⟨nn,hnne⟩:∃l,cY (lv:Int) vs ps=l:=⟨_,rfl⟩
   have HOF:Hid (∀u∈nn,u.oneCell'=true):=O (by rw[←hnne];exact eP (lv:Int) HNN.out.nv);have HNF:=O hnne;rw[hnne] at hnn HB4;have HRW:=O (HR0.out.keep HK.out fun _ _=>id);clear hps hnde hnne
   go_wp2_with ((with_reducible show WL _ _);refine wpList_load_mid rfl 107 (.tmp 4) rfl b4 0 rfl nn _ (aD HB4.out) Tryz.underlying107 rfl (by rw[hnn];exact fN) ?_)
   refine((by rw[←HNF.out];exact At wr lv vs ps HNN.out.nv (by omega) (by omega) HF.out:Calls _ _ _ wr (tF wr lv ps))).mono ?_;rintro e wb ⟨v2,rfl,ho,hk⟩;obtain⟨qa,qc,rfl,-,-⟩:=(Rd.of_owns ho).form;rw[←GX] at ho;have HO:=O ho;clear ho;replace HL:=O (HL.out.keeps hk);replace HNN:=O (HNN.out.keep0 hk);replace HB4:=O (hk.blk HB4.out id);replace HB2:=O (hk.blk HB2.out id);replace HRW:=O (HRW.out.keep hk fun _ _=>id);clear hk;go_wp2_with fail;refine(xY wb _ _ (nb lv ps) (nb lv ps) (by rw[HNL.out];exact Rd.of_owns HO.out) (by rw[HNL.out];exact HRW.out) true (decide_eq_true rfl)).mono ?_;rintro e wc ⟨rfl,rfl⟩;have HB2b:=HB2
   go_wp2_with ((with_reducible show WL _ _);first
    | refine wpList_load_mid rfl 107 (.tmp 4) rfl b4 0 rfl nn _ (aD HB4.out) Tryz.underlying107 rfl (by rw[hnn];exact fN) ?_
    | refine sta 107 (.tmp 2) (.tmp 58) b2 0 nn HB2b.out (by rw[List.size_toArray,dB,hnn];omega) (by rw[hnn];exact fN) HOF.out ?_)
   intro w9 hk hb;rw[aG _ _ (by rw[List.size_toArray,dB,hnn])] at hb;have HP:Hid (uH w lv ps (.returned (.tuple #[.agg nn.toArray,.int .i64 0])) w9):=O ⟨vs,by rw[HNF.out],HNN.out.keep hk (by rintro i rfl ⟨-,j,hj,e⟩;exact(HVO.out j hj).1 e),(HK.out.trans HL.out.keep).trans' hk (fun _ _ h=>h) (fun i hi e=>by have:=HGE.out.1;omega)⟩;have HB9:=O hb;clear hb hk HL HNN HB4 HB2 HB2b HRW HO;go_wp2_with fail;refine bodyPost_ret (dP rfl _ _ b2 _ _ _ _ rfl HB9.out Tryz.underlying107 rfl (by rw[List.size_toArray,hnn];exact fN)) rfl ?_;exact HP.out
def KI(w:World)(c:Nat)(S:Kor)(B:Nat->Prop):Prop:=
 S.Bd/\∃a m lb g b2 lc pid BA nw,iH w c a m lb g b2 lc pid S.cp S.txg BA S.D S.Z S.M nw S.L/\B=fun k=>k=c\/k=m\/k=lb\/BA k\/Own g b2 lc S.D k
theorem KI.bd{w:World}{c:Nat}{S:Kor}{B:Nat->Prop}(h:KI w c S B):S.Bd:=h.1
theorem KI.keepT{T:Nat->Prop}{w w':World}{c:Nat}{S:Kor}{B:Nat->Prop}(h:KI w c S B)(k:aA T w w')(hT:∀i,T i->¬B i):KI w' c S B:=by
 obtain⟨hb,a,m,lb,g,b2,lc,pid,BA,nw,h1,rfl⟩:=h;refine⟨hb,a,m,lb,g,b2,lc,pid,BA,nw,h1.keepT k (fun i e=>?_),rfl⟩;have:=hT i e;exact⟨fun e=>this (.inl e),fun e=>this (.inr (.inl e)),fun e=>this (.inr (.inr (.inl e))),fun e=>this (.inr (.inr (.inr (.inl e)))),fun e=>this (.inr (.inr (.inr (.inr e))))⟩
theorem KI.keep0{w w':World}{c:Nat}{S:Kor}{B:Nat->Prop}(h:KI w c S B)(k:aA aB w w'):KI w' c S B:=h.keepT k fun _ e=>e.elim
theorem KI.lt{w:World}{c:Nat}{S:Kor}{B:Nat->Prop}(h:KI w c S B){k:Nat}(hk:B k):k<w.heap.size:=by
 obtain⟨hb,a,m,lb,g,b2,lc,pid,BA,nw,h1,rfl⟩:=h;rcases hk with rfl|rfl|rfl|hk|hk
 ·exact lt_of_block h1.cor.cor.top
 ·exact lt_of_block h1.cor.mir
 ·exact lt_of_block h1.cor.liv
 ·exact h1.lt (.inl hk)
 ·exact h1.lt (.inr hk)
theorem bH.isC{w:World}{a D Z nw:Nat}{B:Nat->Prop}{M:Nat->Nat->List UInt8}(h:bH w a B D Z M nw){k:Nat}(hk:B k):IsC w k:=by
 obtain⟨dv,dc,lv,st,f,F,W,h1,rfl,h3,h4⟩:=h;rcases hk with rfl|rfl|hk|⟨d,hd,rfl⟩
 ·exact⟨_,_,h1.top⟩
 ·obtain⟨cur,hc⟩:=aJ h1.devs (k:=k) rfl
  exact⟨_,_,hc⟩
 ·obtain⟨cur,hc⟩:=aJ h1.loose hk
  exact⟨_,_,hc⟩
 ·exact⟨_,_,h1.firm d hd⟩
theorem dD.isC{w w':World}{lo g b2 D Z:Nat}{lc:Nat->Option Nat}{L L':List Ad}(h:dD w lo g b2 lc D Z L)(h':dD w' lo g b2 lc D Z L'){k:Nat}(hk:Own g b2 lc D k):IsC w' k\/¬IsC w k:=by
 rcases hk with rfl|rfl|⟨d,hd,hc⟩
 ·exact .inl ⟨_,_,h'.top⟩
 ·obtain⟨cs,h1,-⟩:=h'.words.row
  exact .inl ⟨_,_,h1⟩
 ·right
  obtain⟨g',e1,s,r,h1⟩:=h.chans d hd;rw[hc] at e1;cases e1
  rintro⟨cs,t,h2⟩;rw[h1] at h2;cases h2
def Cl(w w':World)(B B':Nat->Prop):Prop:=∀k,B' k->IsC w' k\/(B k/\¬IsC w k)
theorem Cl.refl(w w':World)(B:Nat->Prop)(k:aA aB w w'):Cl w w' B B:=fun i hi=>by
 by_cases h:IsC w i
 ·obtain⟨cs,t,h⟩:=h
  exact .inl ⟨cs,t,k.blk h id⟩
 ·exact .inr ⟨hi,h⟩
theorem Cl.trans{w w1 w2:World}{B B1 B2:Nat->Prop}(h:Cl w w1 B B1)(k:Cl w1 w2 B1 B2):Cl w w2 B B2:=fun i hi=>by
 rcases k i hi with h1|⟨h1,h2⟩
 ·exact .inl h1
 ·rcases h i h1 with h3|h3
  ·exact absurd h3 h2
  ·exact .inr h3
structure bB(w:World)(B:Nat->Prop)(v:Value)(p:Pt):Prop where
 pt:PtV w v p
 off:∀k,v.ownBlock=some k->¬B k/\IsC w k
theorem bB.keep{w w':World}{B B':Nat->Prop}{v:Value}{p:Pt}(h:bB w B v p)(k:aA B w w')(hB:∀k,B' k->B k\/w.heap.size≤k):bB w' B' v p:=
 ⟨h.pt.keep k fun i hi=>(h.off i hi).1,fun i hi=>⟨fun e=>(hB i e).elim (h.off i hi).1 fun e=>by have:=(h.off i hi).2.lt;omega,(h.off i hi).2.keep k (h.off i hi).1⟩⟩
theorem bB.keepT{T:Nat->Prop}{w w':World}{B:Nat->Prop}{v:Value}{p:Pt}(h:bB w B v p)(k:aA T w w')(hT:∀i,v.ownBlock=some i->¬T i):bB w' B v p:=
 ⟨h.pt.keep k hT,fun i hi=>⟨(h.off i hi).1,(h.off i hi).2.keep k (hT i hi)⟩⟩
theorem bB.keep0{w w':World}{B:Nat->Prop}{v:Value}{p:Pt}(h:bB w B v p)(k:aA aB w w'):bB w' B v p:=h.keepT k fun _ _=>id
theorem bB.hole(w:World)(B:Nat->Prop):bB w B (.slice none 0 0) zPt:=⟨⟨Rd.nil w 2,fun x hx=>(by cases hx),rfl⟩,fun k hk=>by cases hk⟩
theorem xG{D Z:Nat}(h8:D≤8)(h4:Z≤4096):∀x,dO x D Z->eB x:=fun x ⟨h1,h2,h3,h5⟩=>⟨⟨by omega,by omega⟩,by omega,by omega⟩
theorem KI.get{w:World}{c:Nat}{S:Kor}{B:Nat->Prop}(h:KI w c S B){pv:Value}{p:Pt}(hp:PtV w pv p){lv:Nat}{b:List UInt8}(hg:iY S p lv b):Calls Tryz.prog 91 #[.pointer (some ⟨c,0,none⟩),.agg (aE pv p).toArray] w (gD w b):=by
 obtain⟨hb,a,m,lb,g,b2,lc,pid,BA,nw,h1,rfl⟩:=h;have hpl:∀x∈p.addrs,dO x S.D S.Z:=fun x hx=>(hg.lies x hx).1
 have h3:=(oQ hg.may).1;cases ha:p.addrs with
 | nil=>exact absurd ha hg.ne
 | cons x r =>
   obtain⟨d,s,rfl,-,-,-⟩:=kD (hpl x (by rw[ha];exact List.mem_cons_self ..));have hM:S.M d s=b:=(hg.lies ⟨(d:Int),(s:Int)⟩ (by rw[ha];exact List.mem_cons_self ..)).2.2;have:=I9 h1.cor pv p hp hg.may hg.ne_hole hpl (by omega) ha (by rw[hM];exact hg.sum);rw[hM] at this;exact this
theorem KI.copies{w:World}{c:Nat}{S:Kor}{B:Nat->Prop}(h:KI w c S B):Calls Tryz.prog 26 #[.pointer (some ⟨c,0,none⟩)] w (aF w (.int .i64 (S.cp:Int))):=by
 obtain⟨hb,a,m,lb,g,b2,lc,pid,BA,nw,h1,rfl⟩:=h;exact C8 h1.cor.cor
def eF(w:World)(v:Value):Prop:=∀k,v.ownBlock=some k->w.heap.size≤k
def Cr(w:World)(c:Nat)(B:Nat->Prop)(r:Option (Pt×Kor))(S:Kor)(e:Ending)(w':World):Prop:=
 match r with
 | none=>e=.returned (.tuple #[.agg (aE (.slice none 0 0) zPt).toArray,.int .i64 15])/\KI w' c S B/\aA aB w w'
 | some (p,T)=>∃v B',e=.returned (.tuple #[.agg (aE v p).toArray,.int .i64 0])/\bB w' B' v p/\KI w' c T B'/\(∀k,B' k->B k\/w.heap.size≤k)/\Cl w w' B B'/\eF w v/\aA B w w'
theorem KI.put{w:World}{c:Nat}{S:Kor}{B:Nat->Prop}(h:KI w c S B){lv:Nat}(hlv:lv≤3){vv:Value}{bs:List UInt8}(hbl:bs.length=256)(hr:Rd w 1 vv 256 (bs.map vb))(hvb:∀i,vv.ownBlock=some i->¬B i):Calls Tryz.prog 92 #[.pointer (some ⟨c,0,none⟩),.int .i64 (lv:Int),vv] w (Cr w c B (S.put lv bs) S):=by
 have hKI:=h;obtain⟨hb,a,m,lb,g,b2,lc,pid,BA,nw,h1,rfl⟩:=h;have hvb2:∀i,vv.ownBlock=some i->¬BA i/\¬Own g b2 lc S.D i:=fun i hi=>⟨fun e=>hvb i hi (.inr (.inr (.inr (.inl e)))),fun e=>hvb i hi (.inr (.inr (.inr (.inr e))))⟩
 cases hc:bS (bU S.L S.D S.Z) (List.replicate S.D true) S.cp with
 | none =>
   have e:S.put lv bs=none:=by unfold Kor.put Kor.allUp;rw[hc]
   rw[e];refine(KN h1 ⟨hb.t0,hb.t1⟩ lv hlv vv bs hbl hr hvb2 hc).mono ?_;rintro e w' ⟨rfl,hk⟩;exact⟨rfl,hKI.keep0 hk,hk⟩
 | some l =>
   have e:S.put lv bs=some (⟨aY S.L S.Z l,S.txg+1,(lv:Int),cJ bs⟩,⟨S.D,S.Z,S.cp,S.L++aY S.L S.Z l,jO bs (aY S.L S.Z l) S.M,S.txg⟩):=by unfold Kor.put Kor.allUp;rw[hc]
   have hg:=oC hb hlv hbl e;rw[e];refine(GQ h1 ⟨hb.t0,hb.t1⟩ lv hlv vv bs hbl hr hvb2 (xG hb.d8 hb.z4) hc).mono ?_;rintro e w' ⟨v,B',rfl,ho,hI,hB,hv,hk⟩;have hge:∀k,v.ownBlock=some k->w.heap.size≤k:=fun k hk=>aS ho hk
   refine⟨v,fun k=>k=c\/k=m\/k=lb\/B' k\/Own g b2 lc S.D k,rfl,⟨⟨Rd.of_owns ho,fun x hx=>xG hb.d8 hb.z4 x (hg.1.lies x hx).1,hg.1.sl⟩,fun k hk2=>⟨?_,?_⟩⟩,⟨hg.2.2.1,a,m,lb,g,b2,lc,pid,B',nw+(aY S.L S.Z l).length,hI,rfl⟩,?_,?_,hge,hk.mono fun k _ e=>.inr (.inr (.inr e))⟩
   ·have h9:=hge k hk2
    rintro (rfl|rfl|rfl|e|e)
    ·have:=lt_of_block h1.cor.cor.top;omega
    ·have:=lt_of_block h1.cor.mir;omega
    ·have:=lt_of_block h1.cor.liv;omega
    ·exact(hv k hk2).1 e
    ·exact(hv k hk2).2 e
   ·obtain⟨cur,hc⟩:=aJ ho hk2
    exact⟨_,_,hc⟩
   ·rintro k (e|e|e|e|e)
    ·exact .inl (.inl e)
    ·exact .inl (.inr (.inl e))
    ·exact .inl (.inr (.inr (.inl e)))
    ·exact(hB k e).imp (fun h=>.inr (.inr (.inr (.inl h)))) id
    ·exact .inl (.inr (.inr (.inr (.inr e))))
   ·rintro k (rfl|rfl|rfl|e|e)
    ·exact .inl ⟨_,_,hI.cor.cor.top⟩
    ·exact .inl ⟨_,_,hI.cor.mir⟩
    ·exact .inl ⟨_,_,hI.cor.liv⟩
    ·exact .inl (hI.cor.arr.isC e)
    ·exact(h1.led.isC hI.led e).imp id fun h=>⟨.inr (.inr (.inr (.inr e))),h⟩
def MH:Option (Pt×Kor)->Pt
 | none=>zPt
 | some x=>x.1
def MI:Option (Pt×Kor)->Int
 | none=>15
 | some _=>0
def MJ(S:Kor):Option (Pt×Kor)->Kor
 | none=>S
 | some x=>x.2
def ME(w:World)(c:Nat)(B:Nat->Prop)(p:Pt)(er:Int)(T:Kor)(e:Ending)(w':World):Prop:=
 ∃v B',e=.returned (.tuple #[.agg (aE v p).toArray,.int .i64 er])/\bB w' B' v p/\KI w' c T B'/\(∀k,B' k->B k\/w.heap.size≤k)/\Cl w w' B B'/\eF w v/\aA B w w'
def iD(w:World)(B:Nat->Prop)(vs:Nat->Value)(ps:Nat->Pt):Prop:=∀k,k<4->bB w B (vs k) (ps k)
theorem iD.nv{w:World}{B:Nat->Prop}{vs:Nat->Value}{ps:Nat->Pt}(h:iD w B vs ps):dS w vs ps:=fun k hk=>(h k hk).pt
theorem iD.keep0{w w':World}{B:Nat->Prop}{vs:Nat->Value}{ps:Nat->Pt}(h:iD w B vs ps)(k:aA aB w w'):iD w' B vs ps:=fun i hi=>(h i hi).keep0 k
theorem iD.keep{w w':World}{B B':Nat->Prop}{vs:Nat->Value}{ps:Nat->Pt}(h:iD w B vs ps)(k:aA B w w')(hB:∀k,B' k->B k\/w.heap.size≤k):iD w' B' vs ps:=fun i hi=>(h i hi).keep k hB
theorem iD.hole(w:World)(B:Nat->Prop):iD w B (fun _=>.slice none 0 0) (fun _=>zPt):=fun _ _=>bB.hole w B
def yT:Option Tr->Pt
 | none=>zPt
 | some t=>t.ptr
def Ct:Option Tr->Int
 | none=>15
 | some _=>0
def tG(w:World)(c:Nat)(B:Nat->Prop)(v0:Value)(r:Option Tr)(T:Kor)(e:Ending)(w':World):Prop:=
 ∃v B',e=.returned (.tuple #[.agg (aE v (yT r)).toArray,.int .i64 (Ct r)])/\bB w' B' v (yT r)/\KI w' c T B'/\(∀k,B' k->B k\/w.heap.size≤k)/\Cl w w' B B'/\(v=v0\/eF w v)/\aA B w w'
theorem eF.from{w w1:World}{v:Value}(h:eF w1 v)(k:w.heap.size≤w1.heap.size):eF w v:=fun i hi=>Nat.le_trans k (h i hi)
theorem eF.nil(w:World):eF w (.slice none 0 0):=fun k hk=>by cases hk
theorem Tr.Ok.fit{S:Kor}{l:Nat}{t:Tr}(h:Tr.Ok S l t):yP ((l:Int)+1) t.ptr:=by
 cases t with
 | hole=>exact .inl kT
 | leaf p b=>cases l with
   | zero=>exact .inr ⟨h.1.ne_hole,h.1.may,by have:=h.1.lev;show p.level=_;omega⟩
   | succ l=>exact h.elim
 | node p k=>cases l with
   | zero=>exact h.elim
   | succ l=>exact .inr ⟨h.1.ne_hole,h.1.may,by have:=h.1.lev;show p.level=_;omega⟩
theorem GY(w:World)(l:Nat)(hl:l≤3):Calls Tryz.prog 62 #[.int .i64 (l:Int)] w (aF w (.int .i64 ((4 ^ l:Nat):Int))):=by
 have HL:=O (Loc.nil aB aB w);rcases l with _|_|_|_|l
 ·go_enter Tryz.func62,Tryz.ntmps62
  go_wp2_with fail;go_ret;exact aF.of HL.out.keep
 ·go_enter Tryz.func62,Tryz.ntmps62
  go_wp2_with fail;go_ret;exact aF.of HL.out.keep
 ·go_enter Tryz.func62,Tryz.ntmps62
  go_wp2_with fail;go_ret;exact aF.of HL.out.keep
 ·go_enter Tryz.func62,Tryz.ntmps62
  go_wp2_with fail;go_ret;exact aF.of HL.out.keep
 ·omega
theorem GZ{w:World}{c:Nat}{S:Kor}{B:Nat->Prop}(hK:KI w c S B):Calls Tryz.prog 88 #[.pointer (some ⟨c,0,none⟩)] w (aF w (.bool false)):=by
 have HK:=O hK;have hc0:((S.cp:Int) == 0)=false:=by rw[beq_eq_false_iff_ne];have:=hK.bd.c1;omega
 have hc1:decide (S.cp=0)=false:=by have:=hK.bd.c1;exact decide_eq_false (by omega)
 have HL:=O (Loc.nil aB aB w);clear hK;go_enter Tryz.func88,Tryz.ntmps88;go_wp2_with fail;refine(KI.copies HK.out).mono ?_;rintro e w1 ⟨rfl,hk⟩;replace HL:=O (HL.out.keeps hk);replace HK:=O (HK.out.keep0 hk);clear hk;go_wp2_with fail;go_ret;exact aF.of HL.out.keep
def Pt.root(p:Pt):Bool:=p.hole || (p.may && decide (p.level=3))
theorem De(w:World)(pv:Value)(p:Pt)(hp:PtV w pv p)(hh:p.hole=true):Calls Tryz.prog 21 #[.agg (aE pv p).toArray] w (aF w (.int .i64 0)):=by
 have HH:=O hh;clear hh;have HPT:=O hp;obtain⟨pc,HPC,hpc,HOP⟩:=nmPt hp;rw[HPC.out];have HL:=O (Loc.nil aB aB w);clear hp;go_enter Tryz.func21,Tryz.ntmps21
 go_wp2_with ((with_reducible show WL _ _);refine bxL HL 26 (.tmp 0) (pc.toArray) ?_)
 intro b1 w1 hk HL;replace HPT:=O (HPT.out.keep hk fun _ _=>id);clear hk
 go_wp2_with ((with_reducible show WL _ _);refine wpList_load_mid rfl 26 (.tmp 1) rfl b1 0 rfl pc _ (aD (HL.out.b 0)) aK rfl (szP9 hpc) ?_)
 refine((by rw[←HPC.out];exact dW w1 pv p HPT.out:Calls _ _ _ w1 (bJ w1 p.hole))).mono ?_;rintro e w2 ⟨rfl,hk⟩;replace HL:=O (HL.out.keeps hk);replace HPT:=O (HPT.out.keep hk fun _ _=>id);clear hk;rw[HH.out];go_wp2_with fail;go_ret;exact aF.of HL.out.keep
theorem G0(w:World)(pv:Value)(p:Pt)(hp:PtV w pv p)(hh:p.hole=false)(hm:p.may=true)(hl:p.level=3):Calls Tryz.prog 21 #[.agg (aE pv p).toArray] w (aF w (.int .i64 0)):=by
 have HH:=O hh;have HM:=O hm;have HLV:=O hl;clear hh hm hl;have HPT:=O hp;obtain⟨pc,HPC,hpc,HOP⟩:=nmPt hp;rw[HPC.out];have HL:=O (Loc.nil aB aB w);clear hp;go_enter Tryz.func21,Tryz.ntmps21
 go_wp2_with ((with_reducible show WL _ _);refine bxL HL 26 (.tmp 0) (pc.toArray) ?_)
 intro b1 w1 hk HL;replace HPT:=O (HPT.out.keep hk fun _ _=>id);clear hk
 go_wp2_with ((with_reducible show WL _ _);refine wpList_load_mid rfl 26 (.tmp 1) rfl b1 0 rfl pc _ (aD (HL.out.b 0)) aK rfl (szP9 hpc) ?_)
 refine((by rw[←HPC.out];exact dW w1 pv p HPT.out:Calls _ _ _ w1 (bJ w1 p.hole))).mono ?_;rintro e w2 ⟨rfl,hk⟩;replace HL:=O (HL.out.keeps hk);replace HPT:=O (HPT.out.keep hk fun _ _=>id);clear hk;rw[HH.out]
 go_wp2_with ((with_reducible show WL _ _);refine bC (by rfl) 26 (.tmp 1) rfl b1 0 rfl pc _ (aD (HL.out.b 0)) aK rfl (szP9 hpc) ?_)
 refine((by rw[←HPC.out];exact iU w2 pv p HPT.out:Calls _ _ _ w2 (pV w2 p.may))).mono ?_;rintro e w3 ⟨rfl,hk⟩;replace HL:=O (HL.out.keeps hk);replace HPT:=O (HPT.out.keep hk fun _ _=>id);clear hk;rw[HM.out];rw[if_pos rfl];have c1:w3.cell? ⟨b1,2,none⟩=some (.int .i64 3):=(by have h:=(dQ (v:=pv) (p:=p) (by rw[HPC.out];exact aD (HL.out.b 0))).2.2.1;rw[HLV.out] at h;exact h)
 go_wp2_with fail;clear c1;go_ret;exact aF.of HL.out.keep
theorem E5(w:World)(pv:Value)(p:Pt)(hp:PtV w pv p)(hh:p.hole=false)(hm:p.may=true)(hl:¬p.level=3):Calls Tryz.prog 21 #[.agg (aE pv p).toArray] w (aF w (.int .i64 2)):=by
 have HH:=O hh;have HM:=O hm;clear hh hm;have HPT:=O hp;obtain⟨pc,HPC,hpc,HOP⟩:=nmPt hp;rw[HPC.out];have HL:=O (Loc.nil aB aB w);clear hp;go_enter Tryz.func21,Tryz.ntmps21
 go_wp2_with ((with_reducible show WL _ _);refine bxL HL 26 (.tmp 0) (pc.toArray) ?_)
 intro b1 w1 hk HL;replace HPT:=O (HPT.out.keep hk fun _ _=>id);clear hk
 go_wp2_with ((with_reducible show WL _ _);refine wpList_load_mid rfl 26 (.tmp 1) rfl b1 0 rfl pc _ (aD (HL.out.b 0)) aK rfl (szP9 hpc) ?_)
 refine((by rw[←HPC.out];exact dW w1 pv p HPT.out:Calls _ _ _ w1 (bJ w1 p.hole))).mono ?_;rintro e w2 ⟨rfl,hk⟩;replace HL:=O (HL.out.keeps hk);replace HPT:=O (HPT.out.keep hk fun _ _=>id);clear hk;rw[HH.out]
 go_wp2_with ((with_reducible show WL _ _);refine bC (by rfl) 26 (.tmp 1) rfl b1 0 rfl pc _ (aD (HL.out.b 0)) aK rfl (szP9 hpc) ?_)
 refine((by rw[←HPC.out];exact iU w2 pv p HPT.out:Calls _ _ _ w2 (pV w2 p.may))).mono ?_;rintro e w3 ⟨rfl,hk⟩;replace HL:=O (HL.out.keeps hk);replace HPT:=O (HPT.out.keep hk fun _ _=>id);clear hk;rw[HM.out];rw[if_pos rfl];have c1:w3.cell? ⟨b1,2,none⟩=some (.int .i64 p.level):=(dQ (v:=pv) (p:=p) (by rw[HPC.out];exact aD (HL.out.b 0))).2.2.1;go_wp2_with fail;clear c1;go_ret;exact aF.of HL.out.keep
theorem pI(w:World)(pv:Value)(p:Pt)(hp:PtV w pv p)(h:p.root=true):Calls Tryz.prog 21 #[.agg (aE pv p).toArray] w (aF w (.int .i64 0)):=by
 unfold Pt.root at h;cases hh:p.hole with
 | true=>exact De w pv p hp hh
 | false =>
   rw[hh,Bool.false_or,Bool.and_eq_true,decide_eq_true_eq] at h;exact G0 w pv p hp hh h.1 h.2
theorem E6{w:World}{c:Nat}{S:Kor}{B:Nat->Prop}(hK:KI w c S B)(pv:Value)(p:Pt)(hp:PtV w pv p)(h:p.root=true):Calls Tryz.prog 45 #[.pointer (some ⟨c,0,none⟩),.agg (aE pv p).toArray] w (aF w (.int .i64 0)):=by
 have HH:=O h;clear h;have HPT:=O hp;have HK:=O hK;obtain⟨pc,HPC,hpc,HOP⟩:=nmPt hp;rw[HPC.out];have HL:=O (Loc.nil aB aB w);clear hp hK;go_enter Tryz.func45,Tryz.ntmps45
 go_wp2_with ((with_reducible show WL _ _);refine bxL HL 26 (.tmp 1) (pc.toArray) ?_)
 intro b3 w1 hk HL;replace HPT:=O (HPT.out.keep hk fun _ _=>id);replace HK:=O (HK.out.keep0 hk);clear hk;go_wp2_with fail;refine(GZ HK.out).mono ?_;rintro e w2 ⟨rfl,hk⟩;replace HL:=O (HL.out.keeps hk);replace HPT:=O (HPT.out.keep hk fun _ _=>id);replace HK:=O (HK.out.keep0 hk);clear hk
 go_wp2_with ((with_reducible show WL _ _);refine wpList_load_mid rfl 26 (.tmp 3) rfl b3 0 rfl pc _ (aD (HL.out.b 0)) aK rfl (szP9 hpc) ?_)
 refine((by rw[←HPC.out];exact pI w2 pv p HPT.out HH.out:Calls _ _ _ w2 (aF w2 (.int .i64 0)))).mono ?_;rintro e w3 ⟨rfl,hk⟩;replace HL:=O (HL.out.keeps hk);replace HPT:=O (HPT.out.keep hk fun _ _=>id);replace HK:=O (HK.out.keep0 hk);clear hk;go_wp2_with fail;go_ret;exact aF.of HL.out.keep
theorem Df{w:World}{c:Nat}(pv:Value)(p:Pt)(hp:PtV w pv p)(hh:p.hole=true):Calls Tryz.prog 47 #[.pointer (some ⟨c,0,none⟩),.agg (aE pv p).toArray] w (gD w zB):=by
 have HH:=O hh;clear hh;have HPT:=O hp;obtain⟨pc,HPC,hpc,HOP⟩:=nmPt hp;rw[HPC.out];have HL:=O (Loc.nil aB aB w);clear hp;go_enter Tryz.func47,Tryz.ntmps47
 go_wp2_with ((with_reducible show WL _ _);refine bxL HL 26 (.tmp 1) (pc.toArray) ?_)
 intro b3 w1 hk HL;replace HPT:=O (HPT.out.keep hk fun _ _=>id);clear hk
 go_wp2_with ((with_reducible show WL _ _);refine wpList_load_mid rfl 26 (.tmp 3) rfl b3 0 rfl pc _ (aD (HL.out.b 0)) aK rfl (szP9 hpc) ?_)
 refine((by rw[←HPC.out];exact dW w1 pv p HPT.out:Calls _ _ _ w1 (bJ w1 p.hole))).mono ?_;rintro e w2 ⟨rfl,hk⟩;replace HL:=O (HL.out.keeps hk);replace HPT:=O (HPT.out.keep hk fun _ _=>id);clear hk;rw[HH.out]
 go_wp2_with ((with_reducible show WL _ _);refine mkz (.const (.int .i64 256)) (.const (.int .i64 256)) ?_)
 intro b8 w3 hbs hk hb;replace HL:=O (HL.out.new (fun _ h=>h.elim) hbs hk hb);replace HPT:=O (HPT.out.keep hk fun _ _=>id);clear hbs hk hb;go_wp2_with fail
 go_ret2
 exact⟨_,rfl,vO (HL.out.b 0) rfl (HL.out.lt 0).1,HL.out.keep⟩
theorem E7{w:World}{c:Nat}{S:Kor}{B:Nat->Prop}(hK:KI w c S B)(pv:Value)(p:Pt)(hp:PtV w pv p){lv:Nat}{bs:List UInt8}(hg:iY S p lv bs):Calls Tryz.prog 47 #[.pointer (some ⟨c,0,none⟩),.agg (aE pv p).toArray] w (gD w bs):=by
 have HH:=O hg.ne_hole;have HG:=O hg;have HK:=O hK;have HPT:=O hp;obtain⟨pc,HPC,hpc,HOP⟩:=nmPt hp;rw[HPC.out];have HL:=O (Loc.nil aB aB w);clear hp hg hK;go_enter Tryz.func47,Tryz.ntmps47
 go_wp2_with ((with_reducible show WL _ _);refine bxL HL 26 (.tmp 1) (pc.toArray) ?_)
 intro b3 w1 hk HL;replace HPT:=O (HPT.out.keep hk fun _ _=>id);replace HK:=O (HK.out.keep0 hk);clear hk
 go_wp2_with ((with_reducible show WL _ _);refine wpList_load_mid rfl 26 (.tmp 3) rfl b3 0 rfl pc _ (aD (HL.out.b 0)) aK rfl (szP9 hpc) ?_)
 refine((by rw[←HPC.out];exact dW w1 pv p HPT.out:Calls _ _ _ w1 (bJ w1 p.hole))).mono ?_;rintro e w2 ⟨rfl,hk⟩;replace HL:=O (HL.out.keeps hk);replace HPT:=O (HPT.out.keep hk fun _ _=>id);replace HK:=O (HK.out.keep0 hk);clear hk;rw[HH.out]
 go_wp2_with ((with_reducible show WL _ _);refine wpList_load_mid rfl 26 (.tmp 3) rfl b3 0 rfl pc _ (aD (HL.out.b 0)) aK rfl (szP9 hpc) ?_)
 have HSZ:=O HL.out.keep.size;refine((by rw[←HPC.out];exact KI.get HK.out HPT.out HG.out:Calls _ _ _ w2 (gD w2 bs))).mono ?_;rintro e w3 ⟨v1,rfl,ho,hk⟩;obtain⟨va,vc,rfl,-,-⟩:=(Rd.of_owns ho).form;have HO:=O (aP ho HSZ.out);clear ho;replace HL:=O (HL.out.keeps hk);replace HPT:=O (HPT.out.keep hk fun _ _=>id);replace HK:=O (HK.out.keep0 hk);clear hk;go_wp2_with fail
 go_ret2
 exact⟨_,rfl,HO.out,HL.out.keep⟩
theorem iO(w:World):(Instr.build 26 #[]).run Tryz.prog w=.ok (.agg (aE (.slice none 0 0) zPt).toArray) w:=by kernel_rfl
def mF(w:World)(B:Nat->Prop)(l:Nat)(t:Tr)(e:Ending)(w':World):Prop:=
 ∃vs,e=.returned (.tuple #[.agg (cY ((l+1:Nat):Int) vs (fun i=>(t.kid i).ptr)).toArray,.int .i64 0])/\iD w' B vs (fun i=>(t.kid i).ptr)/\(∀q,q<4->eF w (vs q))/\aA aB w w'
theorem E8{w:World}{c:Nat}{B:Nat->Prop}(pv:Value)(hp:PtV w pv zPt)(l:Nat):Calls Tryz.prog 89 #[.pointer (some ⟨c,0,none⟩),.agg (aE pv zPt).toArray,.int .i64 ((l+1:Nat):Int)] w (mF w B l .hole):=by
 obtain⟨p,hpz⟩:∃p,zPt=p:=⟨_,rfl⟩
 have HH:Hid (p.hole=true):=O (by rw[←hpz];exact kT);rw[hpz] at hp ⊢;have HPT:=O hp;obtain⟨pc,HPC,hpc,HOP⟩:=nmPt hp;rw[HPC.out];have hnz:(cY ((l+1:Nat):Int) (fun _=>.slice none 0 0) (fun _=>zPt)).length=141:=rfl;have hbn:=yS ((l+1:Nat):Int);obtain⟨nz,hnze⟩:∃x,cY ((l+1:Nat):Int) (fun _=>.slice none 0 0) (fun _=>zPt)=x:=⟨_,rfl⟩
 have HOZ:Hid (∀u∈nz,u.oneCell'=true):=O (by rw[←hnze];exact eP (w:=w) _ fun _ _=>rH w);have HNZ:=O hnze;rw[hnze] at hnz hbn;have HBN:=O hbn;obtain⟨lv,hlv⟩:∃x,((l+1:Nat):Int)=x:=⟨_,rfl⟩
 rw[hlv] at HBN ⊢;have HL:=O (Loc.nil aB aB w);clear hp hnze hbn hpz hlv;have HPT0:=HPT;go_enter Tryz.func89,Tryz.ntmps89
 go_wp2_with ((with_reducible show WL _ _);refine bxL HL 26 (.tmp 1) (pc.toArray) ?_)
 intro b4 w1 hk HL;replace HPT:=O (HPT.out.keep hk fun _ _=>id);clear hk
 go_wp2_with ((with_reducible show WL _ _);refine alL HL 107 (.agg eM.toArray) (eM.toArray) nZ ?_)
 intro b6 w2 hk HL;replace HPT:=O (HPT.out.keep hk fun _ _=>id);clear hk
 go_wp2_with ((with_reducible show WL _ _);refine wpList_load_mid rfl 26 (.tmp 4) rfl b4 0 rfl pc _ (aD (HL.out.b 1)) aK rfl (szP9 hpc) ?_)
 refine((by rw[←HPC.out];exact dW w2 pv p HPT.out:Calls _ _ _ w2 (bJ w2 p.hole))).mono ?_;rintro e w3 ⟨rfl,hk⟩;replace HL:=O (HL.out.keeps hk);replace HPT:=O (HPT.out.keep hk fun _ _=>id);clear hk;rw[HH.out]
 go_wp2_with ((with_reducible show WL _ _);first
  | refine bld 107 #[(0,.tmp 14)] [(0,.int .i64 lv)] (.agg nz.toArray) HBN.out ?_
  | refine sta 107 (.tmp 6) (.tmp 15) b6 0 nz (HL.out.b 0) (by first|decide|(rw[hnz];exact Nat.le_refl _)|simp[hnz,dB]) (by rw[hnz];exact fN) HOZ.out ?_)
 intro w4 hk hb;rw[aG _ _ (by first|rfl|simp[hnz,dB])] at hb;replace HL:=O (HL.out.set 0 hk hb);replace HPT:=O (HPT0.out.keep HL.out.keep fun _ _=>id);clear hk hb;have HB6:=O (HL.out.b 0);have HKE:=O HL.out.keep;clear HL HPT;go_wp2_with fail;refine bodyPost_ret (dP rfl _ _ b6 _ _ _ _ rfl HB6.out Tryz.underlying107 rfl (by rw[List.size_toArray,hnz];exact fN)) rfl ?_;exact⟨fun _=>.slice none 0 0,(by rw[←HNZ.out];rfl),iD.hole _ B,fun _ _=>eF.nil w,HKE.out⟩
theorem MG{ps:Nat->Pt}(lv:Nat)(h:∀k,k<4->(ps k).may=true):nb lv ps=dG lv [ps 0,ps 1,ps 2,ps 3]:=by
 unfold nb kZ dG ptB;simp[List.range_succ,h 0 (by omega),h 1 (by omega),h 2 (by omega),h 3 (by omega)]
theorem Tr.Ok.nb_eq{S:Kor}{l:Nat}{k:Nat->Tr}(lv:Nat)(h:∀i,i<4->Tr.Ok S l (k i)):nb lv (fun i=>(k i).ptr)=dG lv (gE k):=
 Go.Proofs.YtjkbekifgobeaaaGreatDoor.MG lv fun i hi=>((h i hi).fit).elim qK fun h=>h.2.1
theorem eQ.nval{w w':World}{B:Nat->Prop}{vs:Nat->Value}{ps:Nat->Pt}(h:eQ w w' vs ps)(hB:∀k,B k->k<w.heap.size):iD w' B vs ps:=fun k hk =>
 ⟨(h k hk).1,fun i hi=>⟨fun e=>by have:=hB i e;have:=((h k hk).2 i hi).1;omega,((h k hk).2 i hi).2⟩⟩
theorem E9{w:World}{c:Nat}{S:Kor}{B:Nat->Prop}(hK:KI w c S B)(pv:Value)(p:Pt)(hp:PtV w pv p)(l:Nat)(hl:l≤2)(k:Nat->Tr)(hg:iY S p (l+1) (dG (l+1) (gE k)))(hk4:∀i,i<4->Tr.Ok S l (k i)):Calls Tryz.prog 89 #[.pointer (some ⟨c,0,none⟩),.agg (aE pv p).toArray,.int .i64 ((l+1:Nat):Int)] w (mF w B l (.node p k)):=by
 have HH:Hid (p.hole=false):=O hg.ne_hole;have HPT:=O hp;have HK:=O hK;have HG:=O hg;have HK4:=O hk4;have HBLT:=O (fun i (e:B i)=>hK.lt e);obtain⟨pc,HPC,hpc,HOP⟩:=nmPt hp;rw[HPC.out];have HNB:Hid (dG (l+1) (gE k)=nb (l+1) (fun i=>(k i).ptr)):=O (Tr.Ok.nb_eq (l+1) hk4).symm;have hlv0:0≤((l+1:Nat):Int):=by omega
 have HL:=O (Loc.nil aB aB w);clear hp hg hk4 hK;go_enter Tryz.func89,Tryz.ntmps89
 go_wp2_with ((with_reducible show WL _ _);refine bxL HL 26 (.tmp 1) (pc.toArray) ?_)
 intro b4 w1 hk HL;replace HPT:=O (HPT.out.keep hk fun _ _=>id);replace HK:=O (HK.out.keep0 hk);clear hk
 go_wp2_with ((with_reducible show WL _ _);refine alL HL 107 (.agg eM.toArray) (eM.toArray) nZ ?_)
 intro b6 w2 hk HL;replace HPT:=O (HPT.out.keep hk fun _ _=>id);replace HK:=O (HK.out.keep0 hk);clear hk
 go_wp2_with ((with_reducible show WL _ _);refine wpList_load_mid rfl 26 (.tmp 4) rfl b4 0 rfl pc _ (aD (HL.out.b 1)) aK rfl (szP9 hpc) ?_)
 refine((by rw[←HPC.out];exact dW w2 pv p HPT.out:Calls _ _ _ w2 (bJ w2 p.hole))).mono ?_;rintro e w3 ⟨rfl,hk⟩;replace HL:=O (HL.out.keeps hk);replace HPT:=O (HPT.out.keep hk fun _ _=>id);replace HK:=O (HK.out.keep0 hk);clear hk;rw[HH.out]
 go_wp2_with ((with_reducible show WL _ _);refine wpList_load_mid rfl 26 (.tmp 4) rfl b4 0 rfl pc _ (aD (HL.out.b 1)) aK rfl (szP9 hpc) ?_)
 refine((by rw[←HPC.out];exact KI.get HK.out HPT.out HG.out:Calls _ _ _ w3 (gD w3 (dG (l+1) (gE k))))).mono ?_;rintro e w4 ⟨v1,rfl,ho,hk⟩;rw[HNB.out] at ho;obtain⟨va,vc,rfl,-,-⟩:=(Rd.of_owns ho).form;have HO:=O ho;clear ho;replace HL:=O (HL.out.keeps hk);replace HPT:=O (HPT.out.keep hk fun _ _=>id);replace HK:=O (HK.out.keep0 hk);clear hk;go_wp2_with fail;have HSZ:=O HL.out.keep.size;have HL6:=O (HL.out.lt 0).2;refine((Dd w4 (.slice va 256 vc) (l+1) (fun i=>(k i).ptr) (by omega) (by omega) (fun i hi=>(HK4.out i hi).sl) (fun i hi=>by have:=(HK4.out i hi).fit;exact this) (Rd.of_owns HO.out))).mono ?_;rintro e w5 ⟨vs,rfl,hvs,hk⟩;have HV6:=O (fun j (hj:j<4) i (hi:(vs j).ownBlock=some i) (e:i=b6)=>by have h1:=((hvs j hj).2 i hi).1;have h2:=HL6.out;omega:∀j,j<4->∀i,(vs j).ownBlock=some i->¬i=b6);have HNB2:=O (fun q (hq:q<4) i (hi:(vs q).ownBlock=some i)=>by have:=((hvs q hq).2 i hi).1;have:=HSZ.out;omega:∀q,q<4->eF w (vs q));have HNN:=O (hvs.nval (B:=B) (fun i e=>by have:=HBLT.out i e;have:=HSZ.out;omega));have hnn:=iN ((l+1:Nat):Int) vs hvs.nv;have HOF0:=eP ((l+1:Nat):Int) hvs.nv;obtain⟨nn,hnne⟩:∃x,cY ((l+1:Nat):Int) vs (fun i=>(k i).ptr)=x:=⟨_,rfl⟩
 have HOF:Hid (∀u∈nn,u.oneCell'=true):=O (by rw[←hnne];exact HOF0);have HNF:=O hnne;rw[hnne] at hnn ⊢;clear HOF0 hnne hvs;replace HL:=O (HL.out.keeps hk);replace HPT:=O (HPT.out.keep hk fun _ _=>id);replace HK:=O (HK.out.keep0 hk);replace HO:=O (hk.owns HO.out fun _ _=>id);clear hk;have HKR:=O HL.out.keep;have HB6:=O (HL.out.b 0);have HG6:=O (HL.out.lt 0);replace HL:=O (Loc.nil aB aB w5);have HNN0:=HNN;have HB60:=HB6;clear HPT HK HO
 go_wp2_with ((with_reducible show WL _ _);refine al 107 (.agg eM.toArray) (eM.toArray) nZ ?_)
 intro b10 w6 hbs hk0 hb0_
 go_wp2_with ((with_reducible show WL _ _);refine sta 107 (.tmp 10) (.tmp 29) b10 0 nn hb0_ (by first|decide|(rw[List.size_toArray,hnn];exact Nat.le_refl _)|simp[hnn,dB]) (by rw[hnn];exact fN) HOF.out ?_)
 intro w7 hk hb;rw[aG _ _ (by first|rfl|(rw[List.size_toArray,hnn];rfl)|simp[hnn,dB])] at hb;replace hk:=hk0.trans' hk (U:=aB) (fun _ _ h=>h) (fun i hi e=>by omega);replace HL:=O (HL.out.new (fun _ h=>h.elim) hbs hk hb);replace HNN:=O (iD.keep0 HNN.out hk);replace HB6:=O (hk.blk HB6.out id);clear hbs hk hb hk0 hb0_;have c1:w7.cell? ⟨b10,0,none⟩=some (.int .i64 ((l+1:Nat):Int)):=aC (i:=0) (HL.out.b 0) (by rw[←HNF.out];rfl)
 go_wp2_with ((with_reducible show WL _ _);first
  | refine wpList_load_mid rfl 107 (.tmp 10) rfl b10 0 rfl nn _ (aD (HL.out.b 0)) Tryz.underlying107 rfl (by rw[hnn];exact fN) ?_
  | refine sta 107 (.tmp 6) (.tmp 40) b6 0 nn HB6.out (by rw[List.size_toArray,dB,hnn];omega) (by rw[hnn];exact fN) HOF.out ?_)
 clear c1;intro w9 hk hb;rw[aG _ _ (by rw[List.size_toArray,dB,hnn])] at hb;have HP:Hid (mF w B l (.node p k) (.returned (.tuple #[.agg nn.toArray,.int .i64 0])) w9):=O ⟨vs,by rw[←HNF.out];rfl,fun i hi=>(HNN.out i hi).keepT hk (fun j hj e=>HV6.out i hi j hj e),HNB2.out,(HKR.out.trans HL.out.keep).trans' hk (fun _ _ h=>h) (fun i hi e=>by have:=HG6.out.1;omega)⟩;have HB9:=O hb;clear hb hk HL HNN HB6;go_wp2_with fail;refine bodyPost_ret (dP rfl _ _ b6 _ _ _ _ rfl HB9.out Tryz.underlying107 rfl (by rw[List.size_toArray,hnn];exact fN)) rfl ?_;exact HP.out
theorem G1{w:World}{c:Nat}{S:Kor}{B:Nat->Prop}(hK:KI w c S B){l:Nat}(hl:l≤2)(pv:Value)(t:Tr)(ht:Tr.Ok S (l+1) t)(hp:PtV w pv t.ptr):Calls Tryz.prog 89 #[.pointer (some ⟨c,0,none⟩),.agg (aE pv t.ptr).toArray,.int .i64 ((l+1:Nat):Int)] w (mF w B l t):=by
 cases t with
 | hole=>exact E8 pv hp l
 | leaf p b=>exact ht.elim
 | node p k=>exact E9 hK pv p hp l hl k ht.1 ht.2.1
theorem LI:zB.length=256:=rfl
theorem Tr.Ok.root{S:Kor}{t:Tr}(h:Tr.Ok S 3 t):t.ptr.root=true:=by
 unfold Pt.root;cases t with
 | hole=>rw[show Tr.hole.ptr.hole=true from kT];rfl
 | leaf p b=>exact h.elim
 | node p k =>
   have h1:p.may=true:=h.1.may;have h2:p.level=3:=h.1.lev;show (p.hole || (p.may && decide (p.level=3)))=true;rw[h1,h2];simp
theorem Fa{w:World}{c:Nat}{S:Kor}{B:Nat->Prop}(hK:KI w c S B)(pv:Value)(t:Tr)(ht:Tr.Ok S 0 t)(hp:PtV w pv t.ptr)(i:Nat):Calls Tryz.prog 47 #[.pointer (some ⟨c,0,none⟩),.agg (aE pv t.ptr).toArray] w (gD w (t.blk 0 i)):=by
 cases t with
 | hole=>exact Df pv zPt hp kT
 | leaf p b=>exact E7 hK pv p hp ht.1
 | node p k=>exact ht.elim
def eR{α:Type}(f:α->Tr->Nat->α):Nat->α->Tr->α
 | l,a,.hole=>f a .hole l
 | 0,a,.leaf p b=>f a (.leaf p b) 0
 | 0,a,.node p k=>a
 | l+1,a,.leaf p b=>a
 | l+1,a,.node p k=>eR f l (eR f l (eR f l (eR f l a (k 0)) (k 1)) (k 2)) (k 3)
def nE{α:Type}(f:α->Tr->Nat->α)(l:Nat)(k:Nat->Tr)(a:α):Nat->α
 | 0=>a
 | i+1=>eR f l (nE f l k a i) (k i)
theorem Av{α:Type}(f:α->Tr->Nat->α){S:Kor}{l:Nat}{t:Tr}(h:Tr.Ok S l t)(h2:l=0\/t.isHole=true)(a:α):eR f l a t=f a t l:=by
 cases t with
 | hole=>cases l<;>rfl
 | leaf p b =>
    rcases h2 with rfl|h2
    ·rfl
    ·cases h2
 | node p k =>
    rcases h2 with rfl|h2
    ·exact h.elim
    ·cases h2
theorem pX{α:Type}{f:α->Tr->Nat->α}{P:α->Prop}(hPm:∀a t l,P (f a t l)->P a):∀(l:Nat) (a:α) (t:Tr),P (eR f l a t)->P a
 | 0,a,.hole,h=>hPm _ _ _ h
 | _+1,a,.hole,h=>hPm _ _ _ h
 | 0,a,.leaf p b,h=>hPm _ _ _ h
 | 0,a,.node p k,h=>h
 | l+1,a,.leaf p b,h=>h
 | l+1,a,.node p k,h=>pX hPm l _ _ (pX hPm l _ _ (pX hPm l _ _ (pX hPm l _ _ h)))
theorem DU{α:Type}{f:α->Tr->Nat->α}{P:α->Prop}(hPm:∀a t l,P (f a t l)->P a)(l:Nat)(k:Nat->Tr)(a:α):∀(j i:Nat),i≤j->P (nE f l k a j)->P (nE f l k a i)
 | 0,i,hi,h=>by
    obtain rfl:i=0:=by omega
    exact h
 | j+1,i,hi,h=>by
   by_cases e:i=j+1
   ·subst e;exact h
   ·exact DU hPm l k a j i (by omega) (pX hPm l _ _ h)
def Off(w:World)(J:Nat->Prop)(k:Nat):Prop:=¬J k/\k<w.heap.size
theorem Off.keep{w w':World}{J J':Nat->Prop}{k:Nat}(h:Off w J k)(kp:aA J w w')(hJ:∀k,J' k->J k\/w.heap.size≤k):Off w' J' k:=
 ⟨fun e=>(hJ k e).elim h.1 fun e=>by have:=h.2;omega,by have:=h.2;have:=kp.size;omega⟩
structure Yld{α:Type}(I:α->(Nat->Prop)->World->Prop):Prop where
 keep:∀a J w w',I a J w->aA aB w w'->I a J w'
 lt:∀a J w k,I a J w->J k->k<w.heap.size
def cF{α:Type}(I:α->(Nat->Prop)->World->Prop)(w:World)(J:Nat->Prop)(a:α)(e:Ending)(w':World):Prop:=
 e=.returned (.int .i64 0)/\∃J',I a J' w'/\(∀k,J' k->J k\/w.heap.size≤k)/\aA J w w'
def Fb{α:Type}(I:α->(Nat->Prop)->World->Prop)(f:α->Tr->Nat->α)(P:α->Prop)(S:Kor)(c:Nat)(B:Nat->Prop)(G:Nat)(fr:Array Value):Prop:=
 ∀(a:α) (J:Nat->Prop) (w:World) (pv:Value) (t:Tr) (l:Nat),I a J w->KI w c S B->(∀k,B k->¬J k)->l≤3->(l=0\/t.isHole=true)->Tr.Ok S l t->bB w J pv t.ptr->P (f a t l)->Calls Tryz.prog G (#[.agg (aE pv t.ptr).toArray,.int .i64 (l:Int)]++fr) w (cF I w J (f a t l))
theorem cF.trans{α:Type}{I:α->(Nat->Prop)->World->Prop}{w w1 w':World}{J J1:Nat->Prop}{a:α}{e:Ending}(h:cF I w1 J1 a e w')(hJ:∀k,J1 k->J k\/w.heap.size≤k)(k:aA J w w1):cF I w J a e w':=by
 obtain⟨h1,J',h2,h3,h4⟩:=h;refine⟨h1,J',h2,fun i hi=>?_,k.trans' h4 (fun _ _ h=>h) fun i hi e=>(hJ i e).elim id fun h=>by omega⟩;rcases h3 i hi with h|h
 ·exact hJ i h
 ·exact .inr (Nat.le_trans k.size h)
structure VCl(w:World)(J:Nat->Prop)(b5 b3 b7 c:Nat)(G:Nat)(fr:Array Value):Prop where
 y:w.heap[b5]?=some (.cells #[.func (.func G) #[] fr] 119 (0,0))
 c:w.heap[b3]?=some (.cells #[.pointer (some ⟨c,0,none⟩)] 36 (0,0))
 d:w.heap[b7]?=some (.cells #[.func (.func 100) #[] #[.pointer (some ⟨b5,0,none⟩),.pointer (some ⟨b3,0,none⟩),.pointer (some ⟨b7,0,none⟩)]] 119 (0,0))
 o5:Off w J b5
 o3:Off w J b3
 o7:Off w J b7
theorem VCl.keep{w w':World}{J J':Nat->Prop}{b5 b3 b7 c G:Nat}{fr:Array Value}(h:VCl w J b5 b3 b7 c G fr)(k:aA J w w')(hJ:∀k,J' k->J k\/w.heap.size≤k):VCl w' J' b5 b3 b7 c G fr:=
 ⟨k.blk h.y h.o5.1,k.blk h.c h.o3.1,k.blk h.d h.o7.1,h.o5.keep k hJ,h.o3.keep k hJ,h.o7.keep k hJ⟩
theorem VCl.keep0{w w':World}{J:Nat->Prop}{b5 b3 b7 c G:Nat}{fr:Array Value}(h:VCl w J b5 b3 b7 c G fr)(k:aA aB w w'):VCl w' J b5 b3 b7 c G fr:=h.keep k.any fun _ h=>.inl h
theorem Cu{α:Type}{I:α->(Nat->Prop)->World->Prop}(hI:Yld I){f:α->Tr->Nat->α}{P:α->Prop}(hPm:∀a t l,P (f a t l)->P a){S:Kor}{c:Nat}{B:Nat->Prop}{G:Nat}{fr:Array Value}(eg:∀args w,(callFunc G args).run Tryz.prog w=.ok (.enter G args) w)(hY:Fb I f P S c B G fr){b5 b3 b7:Nat}(a:α)(J:Nat->Prop)(w:World)(pv:Value)(t:Tr)(l:Nat)(hi:I a J w)(hK:KI w c S B)(hBJ:∀k,B k->¬J k)(hl:l≤3)(h0:l=0\/t.isHole=true)(ht:Tr.Ok S l t)(hp:bB w J pv t.ptr)(hv:VCl w J b5 b3 b7 c G fr)(hP:P (f a t l)):Calls Tryz.prog 100 #[.agg (aE pv t.ptr).toArray,.int .i64 (l:Int),.pointer (some ⟨b5,0,none⟩),.pointer (some ⟨b3,0,none⟩),.pointer (some ⟨b7,0,none⟩)] w (cF I w J (f a t l)):=by
 have HYI:=O hI;have HYC:=O hY;have HI:=O hi;have HK:=O hK;have HBJ:=O hBJ;have HT:=O ht;have HV:=O hv;have H0:=O h0;have HPP:=O hP;clear hP hPm;have HPT:=O hp;obtain⟨p,hpe⟩:∃p,t.ptr=p:=⟨_,rfl⟩
 have HPE:=O hpe;rw[hpe] at HPT hp ⊢;obtain⟨pc,HPC,hpc,HOP⟩:=nmPt hp.pt;rw[HPC.out];have HL:=O (Loc.nil aB aB w);have hll:0≤(l:Int):=by omega
 clear hp hpe hi hK hBJ ht hv h0
 by_cases hz:l=0
 ·subst hz
  go_enter Tryz.func100,Tryz.ntmps100
  go_wp2_with ((with_reducible show WL _ _);refine bxL HL 26 (.tmp 0) (pc.toArray) ?_)
  intro b55 w1 hk HL;replace HPT:=O (bB.keep0 HPT.out hk);replace HK:=O (HK.out.keep0 hk);replace HI:=O (HYI.out.keep _ _ _ _ HI.out hk);replace HV:=O (VCl.keep0 HV.out hk);clear hk;have c1:w1.cell? ⟨b5,0,none⟩=some (.func (.func G) #[] fr):=(aC (i:=0) HV.out.y rfl)
  go_wp2_with ((with_reducible show WL _ _);refine wpList_load_mid rfl 26 (.tmp 5) rfl b55 0 rfl pc _ (aD (HL.out.b 0)) aK rfl (szP9 hpc) ?_)
  clear c1;have HC:=(HYC.out a J w1 pv t 0 HI.out HK.out HBJ.out (by omega) (.inl rfl) HT.out (by rw[HPE.out];exact HPT.out) HPP.out:Calls _ _ _ w1 (cF I w1 J (f a t 0)))
  rw[HPE.out,HPC.out] at HC;refine HC.mono ?_;rintro e w9 hm;have HP:=O (hm.trans (J:=J) (w:=w) (fun k h=>.inl h) HL.out.keep.any);obtain⟨rfl,-⟩:=hm;clear HC HL HPT HK HI HV;go_wp2_with fail;go_ret;exact HP.out
 ·have hz2:((l:Int) == 0)=false:=by rw[beq_eq_false_iff_ne];omega
  have hz3:decide (l=0)=false:=decide_eq_false hz;have HH:Hid (p.hole=true):=O (by rw[←HPE.out,HT.out.hole_eq];exact H0.out.resolve_left hz);clear hz;go_enter Tryz.func100,Tryz.ntmps100
  go_wp2_with ((with_reducible show WL _ _);refine bxL HL 26 (.tmp 0) (pc.toArray) ?_)
  intro b55 w1 hk HL;replace HPT:=O (bB.keep0 HPT.out hk);replace HK:=O (HK.out.keep0 hk);replace HI:=O (HYI.out.keep _ _ _ _ HI.out hk);replace HV:=O (VCl.keep0 HV.out hk);clear hk
  go_wp2_with ((with_reducible show WL _ _);refine bC (by rfl) 26 (.tmp 5) rfl b55 0 rfl pc _ (aD (HL.out.b 0)) aK rfl (szP9 hpc) ?_)
  refine((by rw[←HPC.out];exact dW w1 pv p HPT.out.pt:Calls _ _ _ w1 (bJ w1 p.hole))).mono ?_;rintro e w2 ⟨rfl,hk⟩;replace HL:=O (HL.out.keeps hk);replace HPT:=O (bB.keep0 HPT.out hk);replace HK:=O (HK.out.keep0 hk);replace HI:=O (HYI.out.keep _ _ _ _ HI.out hk);replace HV:=O (VCl.keep0 HV.out hk);clear hk;rw[HH.out];have c1:w2.cell? ⟨b5,0,none⟩=some (.func (.func G) #[] fr):=(aC (i:=0) HV.out.y rfl)
  go_wp2_with ((with_reducible show WL _ _);refine wpList_load_mid rfl 26 (.tmp 5) rfl b55 0 rfl pc _ (aD (HL.out.b 0)) aK rfl (szP9 hpc) ?_)
  clear c1;have HC:=(HYC.out a J w2 pv t l HI.out HK.out HBJ.out (by omega) H0.out HT.out (by rw[HPE.out];exact HPT.out) HPP.out:Calls _ _ _ w2 (cF I w2 J (f a t l)))
  rw[HPE.out,HPC.out] at HC;refine HC.mono ?_;rintro e w9 hm;have HP:=O (hm.trans (J:=J) (w:=w) (fun k h=>.inl h) HL.out.keep.any);obtain⟨rfl,-⟩:=hm;clear HC HL HPT HK HI HV;go_wp2_with fail;go_ret;exact HP.out
def JQ{α:Type}(I:α->(Nat->Prop)->World->Prop)(w:World)(J:Nat->Prop)(a:α)(w':World):Prop:=∃J',I a J' w'/\(∀k,J' k->J k\/w.heap.size≤k)/\aA J w w'
theorem Jh{α:Type}{I:α->(Nat->Prop)->World->Prop}(hI:Yld I){f:α->Tr->Nat->α}{P:α->Prop}(hPm:∀a t l,P (f a t l)->P a){S:Kor}{c:Nat}{B:Nat->Prop}{G:Nat}{fr:Array Value}(eg:∀args w,(callFunc G args).run Tryz.prog w=.ok (.enter G args) w)(hY:Fb I f P S c B G fr){b5 b3 b7:Nat}:∀(l:Nat),l≤3->∀(a:α) (J:Nat->Prop) (w:World) (pv:Value) (t:Tr),I a J w->KI w c S B->(∀k,B k->¬J k)->Tr.Ok S l t->bB w J pv t.ptr->VCl w J b5 b3 b7 c G fr->P (eR f l a t)->Calls Tryz.prog 100 #[.agg (aE pv t.ptr).toArray,.int .i64 (l:Int),.pointer (some ⟨b5,0,none⟩),.pointer (some ⟨b3,0,none⟩),.pointer (some ⟨b7,0,none⟩)] w (cF I w J (eR f l a t)):=by
 intro l
 induction l with
 | zero =>
   intro hl a J w pv t hi hK hBJ ht hp hv hP;rw[Av f ht (.inl rfl)] at hP ⊢;exact Cu hI hPm eg hY a J w pv t 0 hi hK hBJ hl (.inl rfl) ht hp hv hP
 | succ l ih =>
   intro hl a J w pv t hi hK hBJ ht hp hv hP;cases hh:t.isHole with
   | true =>
     rw[Av f ht (.inr hh)] at hP ⊢;exact Cu hI hPm eg hY a J w pv t (l+1) hi hK hBJ hl (.inr hh) ht hp hv hP
   | false =>
     have hfold:eR f (l+1) a t=nE f l t.kid a 4:=by
      cases t with
      | hole=>cases hh
      | leaf p b=>exact ht.elim
      | node p k=>rfl
     rw[hfold] at hP ⊢;have HPK:=O (fun i (hi:i≤4)=>DU hPm l t.kid a 4 i hi hP);have HIH:=O (ih (by omega));have HYI:=O hI;have HYC:=O hY;have HI:=O hi;have HK:=O hK;have HBJ:=O hBJ;have HT:=O ht;have HV:=O hv;have HPT:=O hp;have hl2:l≤2:=by omega
     obtain⟨p,hpe⟩:∃p,t.ptr=p:=⟨_,rfl⟩
     have HPE:=O hpe;rw[hpe] at HPT hp ⊢;have HH:Hid (p.hole=false):=O (by rw[←hpe,ht.hole_eq];exact hh);obtain⟨pc,HPC,hpc,HOP⟩:=nmPt hp.pt;rw[HPC.out];have HLX:=O (fun k (e:J k)=>HYI.out.lt _ _ _ _ HI.out e);have HL:=O (Loc.nil aB aB w);have hll:0≤((l+1:Nat):Int):=by omega
     have hl0:(0:Int)≤(l:Int):=by omega
     have hz2:(((l:Int)+1) == 0)=false:=by rw[beq_eq_false_iff_ne];omega
     clear hp hpe hi hK hBJ ht hv hh hfold ih hP hPm;go_enter Tryz.func100,Tryz.ntmps100
     go_wp2_with ((with_reducible show WL _ _);refine bxL HL 26 (.tmp 0) (pc.toArray) ?_)
     intro b55 w1 hk HL;replace HPT:=O (bB.keep0 HPT.out hk);replace HK:=O (HK.out.keep0 hk);replace HI:=O (HYI.out.keep _ _ _ _ HI.out hk);replace HV:=O (VCl.keep0 HV.out hk);clear hk
     go_wp2_with ((with_reducible show WL _ _);refine bC (by rfl) 26 (.tmp 5) rfl b55 0 rfl pc _ (aD (HL.out.b 0)) aK rfl (szP9 hpc) ?_)
     refine((by rw[←HPC.out];exact dW w1 pv p HPT.out.pt:Calls _ _ _ w1 (bJ w1 p.hole))).mono ?_;rintro e w2 ⟨rfl,hk⟩;replace HL:=O (HL.out.keeps hk);replace HPT:=O (bB.keep0 HPT.out hk);replace HK:=O (HK.out.keep0 hk);replace HI:=O (HYI.out.keep _ _ _ _ HI.out hk);replace HV:=O (VCl.keep0 HV.out hk);clear hk;rw[HH.out];have c1:w2.cell? ⟨b3,0,none⟩=some (.pointer (some ⟨c,0,none⟩)):=(aC (i:=0) HV.out.c rfl)
     go_wp2_with ((with_reducible show WL _ _);refine wpList_load_mid rfl 26 (.tmp 5) rfl b55 0 rfl pc _ (aD (HL.out.b 0)) aK rfl (szP9 hpc) ?_)
     clear c1;have HLW:=O (fun k (e:J k)=>HYI.out.lt _ _ _ _ HI.out e);refine((by rw[←HPC.out,←HPE.out];exact G1 HK.out hl2 pv t HT.out (by rw[HPE.out];exact HPT.out.pt):Calls _ _ _ w2 (mF w2 B l t))).mono ?_;rintro e w3 ⟨vs,rfl,hvs,hnew,hk⟩;have HNN:Hid (iD w3 J vs (fun i=>(t.kid i).ptr)):=O (fun q hq=>⟨(hvs q hq).pt,fun i hi=>⟨fun e=>by have:=hnew q hq i hi;have:=HLW.out i e;omega,((hvs q hq).off i hi).2⟩⟩);have hnn:=iN ((l+1:Nat):Int) vs hvs.nv;have HOF0:=eP ((l+1:Nat):Int) hvs.nv;obtain⟨nn,hnne⟩:∃x,cY ((l+1:Nat):Int) vs (fun i=>(t.kid i).ptr)=x:=⟨_,rfl⟩
     have HOF:Hid (∀u∈nn,u.oneCell'=true):=O (by rw[←hnne];exact HOF0);have HNF:=O hnne;rw[hnne] at hnn ⊢;clear HOF0 hnne hvs hnew;replace HL:=O (HL.out.keeps hk);replace HPT:=O (bB.keep0 HPT.out hk);replace HK:=O (HK.out.keep0 hk);replace HI:=O (HYI.out.keep _ _ _ _ HI.out hk);replace HV:=O (VCl.keep0 HV.out hk);clear hk
     go_wp2_with ((with_reducible show WL _ _);refine al 107 (.agg eM.toArray) (eM.toArray) nZ ?_)
     intro b8 w4 hbs hk0 hb0_
     go_wp2_with ((with_reducible show WL _ _);refine sta 107 (.tmp 8) (.tmp 26) b8 0 nn hb0_ (by first|decide|(rw[List.size_toArray,hnn];exact Nat.le_refl _)|simp[hnn,dB]) (by rw[hnn];exact fN) HOF.out ?_)
     intro w5 hk hb;rw[aG _ _ (by first|rfl|(rw[List.size_toArray,hnn];rfl)|simp[hnn,dB])] at hb;replace hk:=hk0.trans' hk (U:=aB) (fun _ _ h=>h) (fun i hi e=>by omega);replace HL:=O (HL.out.new (fun _ h=>h.elim) hbs hk hb);replace HPT:=O (bB.keep0 HPT.out hk);replace HK:=O (HK.out.keep0 hk);replace HI:=O (HYI.out.keep _ _ _ _ HI.out hk);replace HV:=O (VCl.keep0 HV.out hk);replace HNN:=O (iD.keep0 HNN.out hk);clear hbs hk hb hk0 hb0_;go_wp2_with fail;have HB8:=O (HL.out.b 0);have HG8:=O (HL.out.lt 0);have HJ8:=O (fun k (e:J k)=>HLW.out k e);have HO8:Hid (Off w5 J b8):=O ⟨fun e=>by have:=HLX.out _ e;have:=HG8.out.1;omega,HG8.out.2⟩;have HKW:=O HL.out.keep;obtain⟨W0,hW0⟩:∃W,w5=W:=⟨_,rfl⟩
     rw[hW0] at HI HK HV HNN HB8 HO8 HKW ⊢;clear HL HPT hW0
     go_loopw [9,10] (fun e i wr=>∃k:Nat,k≤4/\i=.int .i64 k/\e=.int .i64 0/\Hid (JQ I W0 J (nE f l t.kid a k) wr)) (fun _ i _=>4-(intOf i).toNat)
     case atStart=>exact⟨0,by omega,rfl,rfl,O ⟨J,HI.out,fun k h=>.inl h,aA.refl _ _⟩⟩
     case round =>
      obtain⟨k,hk,rfl,rfl,HD⟩:=hrel;obtain⟨J2,hi2,hJ2,hk2⟩:=HD.out;have HI2:=O hi2;have HJ2:=O hJ2;have HK2:=O hk2;have HKI2:=O (HK.out.keepT hk2 (fun i e hb=>HBJ.out i hb e));have HBJ2:=O (fun i (hb:B i) (e:J2 i)=>show False from(hJ2 i e).elim (HBJ.out i hb) fun h=>by have:=HK.out.lt hb;omega);have HV2:=O (HV.out.keep hk2 hJ2);have HB82:=O (hk2.blk HB8.out HO8.out.1);have HO82:=O (HO8.out.keep hk2 hJ2);have HNN2:=O (HNN.out.keep hk2 hJ2);clear hi2 hJ2 hk2 HD
      by_cases hk8:k<4
      ·have hk0:(0:Int)≤(k:Int):=by omega
       have hk1:(k:Int)<4:=by omega
       have HQV:=O (HNN2.out k hk8);have hqc:=aU (v:=vs k) HQV.out.pt.sum;have HOQ0:=dM HQV.out.pt;have HX0:=Cq HNN2.out.nv (by rw[HNF.out];exact aD HB82.out) hk8;obtain⟨qc,hqce⟩:∃x,aE (vs k) ((t.kid k).ptr)=x:=⟨_,rfl⟩
       have HOQ:Hid (∀u∈qc,u.oneCell'=true):=O (by rw[←hqce];exact HOQ0);have HQC:=O hqce;rw[hqce] at hqc HX0;have HX:=O HX0;have HL:=O (Loc.nil J2 J2 wr);clear hqce HOQ0 HX0;go_wp2_with fail;obtain⟨S,hS0⟩:∃S:World->Prop,S=fun w'=>aA J2 wr.drew w':=⟨_,rfl⟩
       have HSE:=O (show ∀w',S w'->aA J2 wr.drew w' from fun w' h=>by rw[hS0] at h;exact h);have HSI:=O (show ∀w',aA J2 wr.drew w'->S w' from fun w' h=>by rw[hS0];exact h);have hS:S wr.drew:=by rw[hS0];exact aA.refl _ _
       have hkd:=(aA.refl aB wr).drew;clear hS0;refine wp_region_held (S:=S) (by kernel_rfl) ?_;change wpAnyH _ _ _ _ _ _ _ _ wr.drew;generalize wr.drew=w7 at HSE HSI hS hkd ⊢;replace HL:=O (HL.out.keeps hkd);replace HI2:=O (HYI.out.keep _ _ _ _ HI2.out hkd);replace HKI2:=O (HKI2.out.keep0 hkd);replace HV2:=O (VCl.keep0 HV2.out hkd);replace HX:=O (hkd.rangeAt HX.out);replace HQV:=O (bB.keep0 HQV.out hkd);clear hkd;have HLs:=HL;have HI2s:=HI2;have HKI2s:=HKI2;have HV2s:=HV2;have HXs:=HX;have HQVs:=HQV;refine tnd 0 (.func (.func 100) #[] #[.pointer (some ⟨b5,0,none⟩),.pointer (some ⟨b3,0,none⟩),.pointer (some ⟨b7,0,none⟩)]) rfl (.inl ⟨by rfl,fun w' hw'=>by have c:World.cell? w' ⟨b7,0,none⟩=some (.func (.func 100) #[] #[.pointer (some ⟨b5,0,none⟩),.pointer (some ⟨b3,0,none⟩),.pointer (some ⟨b7,0,none⟩)]):=(HSE.out w' hw').cell (cell_of_one HV2s.out.d) HV2s.out.o7.1;go_simp⟩) hS ?_;refine tna 1 (.int .i64 (k:Int)) rfl hS ?_;refine tnb 2 (.pointer (some ⟨b8,1,none⟩)) rfl hS ?_;refine tnd 3 (.pointer (some ⟨b8,1+k*35,none⟩)) rfl (.inl ⟨by rfl,fun _ _=>by go_simp<;>omega⟩) hS ?_;refine tnd 4 (.agg qc.toArray) rfl (yieldsIf_load_mid (by rfl) 26 (.tmp 39) rfl b8 (1+k*35) rfl qc _ (fun w' h=>(HSE.out w' h).rangeAt2 HXs.out HO82.out.1) aK rfl (szP9 hqc)) hS ?_;refine tna 5 (.int .i64 ((l+1:Nat):Int)) rfl hS ?_;refine tnd 6 (.int .i64 (l:Int)) rfl (.inl ⟨by rfl,fun _ _=>by go_simp;exact IntWalk.i64_in _ (by omega)⟩) hS ?_;refine wA9 7 ?_;go_wp2_with fail;refine((by rw[←HQC.out];exact HIH.out (nE f l t.kid a k) J2 w7 (vs k) (t.kid k) HI2.out HKI2.out HBJ2.out (HT.out.kid hk8) HQV.out HV2.out (HPK.out (k+1) (by omega)):Calls _ _ _ w7 (cF I w7 J2 (eR f l (nE f l t.kid a k) (t.kid k))))).mono ?_;rintro e w8 hm;have hmk:aA J2 w7 w8:=by obtain⟨-,J3,-,-,h⟩:=hm;exact h
       have HM:Hid (cF I wr J2 (nE f l t.kid a (k+1)) e w8):=O (hm.trans (w:=wr) (J:=J2) (fun k h=>.inl h) HL.out.keep);obtain⟨rfl,-⟩:=hm;have hS1:=HSI.out _ ((HSE.out _ hS).trans hmk);clear hS hmk HL HI2 HKI2 HV2 HX HQV;go_wp2_with fail;refine⟨hS1,?_⟩;refine tna 8 (.int .i64 0) rfl hS1 ?_;refine wpAnyH_done (by kernel_rfl) ?_ _;clear hS1 HSE HSI HLs HI2s HKI2s HV2s HXs HQVs
       have HE:Hid (JQ I W0 J (nE f l t.kid a (k+1)) w8):=O (by
        obtain⟨-,J3,h1,h2,h3⟩:=HM.out;exact⟨J3,h1,fun i hi=>(h2 i hi).elim (HJ2.out i) (fun h=>.inr (Nat.le_trans HK2.out.size h)),HK2.out.trans' h3 (fun _ _ h=>h) (fun i hi e=>(HJ2.out i e).elim id fun h=>by omega)⟩)
       clear HM HK2 HJ2 HB82 HNN2;go_wp2_with fail
       go_roundw
       case rel=>exact⟨k+1,by omega,by go_num,rfl,HE⟩
       case measure=>simp[intOf];omega
      ·obtain rfl:k=4:=by omega
       go_wp2_with fail;go_ret;exact⟨rfl,J2,HI2.out,fun i hi=>(HJ2.out i hi).imp id (fun h=>Nat.le_trans HKW.out.size h),HKW.out.any.trans' HK2.out (fun _ _ h=>h) (fun _ _ h=>h)⟩
theorem Mg:Hid (∀w,(zeroValue 119).run Tryz.prog w=.ok .nilFunc w):=O fun w=>by kernel_rfl
theorem Fc{α:Type}{I:α->(Nat->Prop)->World->Prop}(hI:Yld I){f:α->Tr->Nat->α}{P:α->Prop}(hPm:∀a t l,P (f a t l)->P a){S:Kor}{c:Nat}{B:Nat->Prop}{G:Nat}{fr:Array Value}(eg:∀args w,(callFunc G args).run Tryz.prog w=.ok (.enter G args) w)(hY:Fb I f P S c B G fr)(a:α)(J:Nat->Prop)(w:World)(pv:Value)(t:Tr)(hi:I a J w)(hK:KI w c S B)(hBJ:∀k,B k->¬J k)(ht:Tr.Ok S 3 t)(hp:bB w J pv t.ptr)(hP:P (eR f 3 a t)):Calls Tryz.prog 60 #[.pointer (some ⟨c,0,none⟩),.agg (aE pv t.ptr).toArray,.func (.func G) #[] fr] w (cF I w J (eR f 3 a t)):=by
 have HDN:=O (fun b5 b3 b7=>Jh (b5:=b5) (b3:=b3) (b7:=b7) hI hPm eg hY 3 (by omega) a J);have HYI:=O hI;have HI:=O hi;have HK:=O hK;have HBJ:=O hBJ;have HT:=O ht;have HPP:=O hP;have HPT:=O hp;have HLX:=O (fun k (e:J k)=>HYI.out.lt _ _ _ _ HI.out e);obtain⟨p,hpe⟩:∃p,t.ptr=p:=⟨_,rfl⟩
 have HPE:=O hpe;rw[hpe] at HPT hp ⊢;obtain⟨pc,HPC,hpc,HOP⟩:=nmPt hp.pt;rw[HPC.out];have HL:=O (Loc.nil aB aB w);clear hp hpe hi hK hBJ ht hP hPm;have HPT0:=HPT;have HK0:=HK;have HI0:=HI;go_enter Tryz.func60,Tryz.ntmps60
 go_wp2_with ((with_reducible show WL _ _);refine bxL HL 36 (.tmp 0) (#[.pointer (some ⟨c,0,none⟩)]) ?_)
 intro b3 w1 hk HL;replace HPT:=O (bB.keep0 HPT.out hk);replace HK:=O (HK.out.keep0 hk);replace HI:=O (HYI.out.keep _ _ _ _ HI.out hk);clear hk
 go_wp2_with ((with_reducible show WL _ _);refine bxL HL 26 (.tmp 1) (pc.toArray) ?_)
 intro b4 w2 hk HL;replace HPT:=O (bB.keep0 HPT.out hk);replace HK:=O (HK.out.keep0 hk);replace HI:=O (HYI.out.keep _ _ _ _ HI.out hk);clear hk
 go_wp2_with ((with_reducible show WL _ _);refine bxL HL 119 (.tmp 2) (#[.func (.func G) #[] fr]) ?_)
 intro b5 w3 hk HL;replace HPT:=O (bB.keep0 HPT.out hk);replace HK:=O (HK.out.keep0 hk);replace HI:=O (HYI.out.keep _ _ _ _ HI.out hk);clear hk
 go_wp2_with ((with_reducible show WL _ _);refine alL HL 119 (.nilFunc) (#[.nilFunc]) Mg ?_)
 intro b7 w4 hk HL;replace HPT:=O (bB.keep0 HPT.out hk);replace HK:=O (HK.out.keep0 hk);replace HI:=O (HYI.out.keep _ _ _ _ HI.out hk);clear hk
 go_wp2_with ((with_reducible show WL _ _);refine sta 119 (.tmp 7) (.tmp 8) b7 0 ([.func (.func 100) #[] #[.pointer (some ⟨b5,0,none⟩),.pointer (some ⟨b3,0,none⟩),.pointer (some ⟨b7,0,none⟩)]]) (HL.out.b 0) (by simp) (by kernel_rfl) (one9) ?_)
 intro w5 hk hb;replace hb:w5.heap[b7]?=some (.cells #[.func (.func 100) #[] #[.pointer (some ⟨b5,0,none⟩),.pointer (some ⟨b3,0,none⟩),.pointer (some ⟨b7,0,none⟩)]] 119 (0,0)):=hb;replace HL:=O (HL.out.set 0 hk hb);replace HPT:=O (bB.keep0 HPT0.out HL.out.keep);replace HK:=O (HK0.out.keep0 HL.out.keep);replace HI:=O (HYI.out.keep _ _ _ _ HI0.out HL.out.keep);clear hk hb;have HV:=O (VCl.mk (J:=J) (HL.out.b 1) (HL.out.b 3) (HL.out.b 0) ⟨fun e=>by have:=HLX.out _ e;have:=(HL.out.lt 1).1;omega,(HL.out.lt 1).2⟩ ⟨fun e=>by have:=HLX.out _ e;have:=(HL.out.lt 3).1;omega,(HL.out.lt 3).2⟩ ⟨fun e=>by have:=HLX.out _ e;have:=(HL.out.lt 0).1;omega,(HL.out.lt 0).2⟩:VCl w5 J b5 b3 b7 c G fr);have HB7:=O (cell_of_one (HL.out.b 0));have c1:w5.cell? ⟨b7,0,none⟩=some (.func (.func 100) #[] #[.pointer (some ⟨b5,0,none⟩),.pointer (some ⟨b3,0,none⟩),.pointer (some ⟨b7,0,none⟩)]):=HB7.out
 go_wp2_with ((with_reducible show WL _ _);refine wpList_load_mid rfl 26 (.tmp 4) rfl b4 0 rfl pc _ (aD (HL.out.b 2)) aK rfl (szP9 hpc) ?_)
 clear c1;have HC:=(HDN.out b5 b3 b7 w5 pv t HI.out HK.out HBJ.out HT.out (by rw[HPE.out];exact HPT.out) HV.out HPP.out:Calls _ _ _ w5 (cF I w5 J (eR f 3 a t)))
 rw[HPE.out,HPC.out] at HC;refine HC.mono ?_;rintro e w9 hm;have HP:=O (hm.trans (J:=J) (w:=w) (fun k h=>.inl h) HL.out.keep.any);obtain⟨rfl,-⟩:=hm;clear HC HL HPT HK HI HV HB7;go_wp2_with fail;go_ret;exact HP.out
theorem JR{W:World}{l:Nat}{o:Obj}(ho:W.heap[l]?=some o)(hc:o.isCells=false){i:Nat}(h:IsC W i):¬(some l=some i):=fun e=>by
 obtain⟨cs,t,h⟩:=h;injection e with e
 rw[←e,ho] at h;injection h with h
 rw[h] at hc;cases hc
open Go.RowKit Go.Maps Go.ChangeMaps
set_option maxRecDepth 100000
theorem Tr.Ok.blk_len{S:Kor}:∀{l:Nat}{t:Tr},Tr.Ok S l t->∀(i:Nat),(t.blk l i).length=256
 | l,.hole,h,i=>by rw[Tr.blk_hole];exact LI
 | 0,.leaf p b,h,i=>h.1.len
 | 0,.node p k,h,i=>h.elim
 | l+1,.leaf p b,h,i=>h.elim
 | l+1,.node p k,h,i=>(h.2.1 _ (sR i l)).blk_len i
theorem Cl.onT{T:Nat->Prop}{w w1 w2:World}{B B':Nat->Prop}(h:Cl w w1 B B')(k:aA T w1 w2)(hT:∀i,B' i->¬T i):Cl w w2 B B':=fun i hi=>(h i hi).imp (fun c=>c.keep k (hT i hi)) id
theorem G2(f:Nat->Value)(d n c s l:Int):Tryz.prog.built 170 [(0,.agg ((List.range 32).map f).toArray),(1,.int .i64 d),(2,.int .i64 n),(3,.int .i64 c),(4,.int .i64 s),(5,.int .i64 l)]=some ((List.range 32).map f++([.int .i64 d,.int .i64 n,.int .i64 c,.int .i64 s,.int .i64 l]:List Value)).toArray:=by kernel_rfl
theorem G3(L:Lab)(h:L.pool.length=32)(w:World):(Instr.build 170 #[(0,.agg (L.pool.map vb).toArray),(1,.int .i64 L.dev),(2,.int .i64 L.devs),(3,.int .i64 L.copies),(4,.int .i64 L.sectors),(5,.int .i64 L.life)]).run Tryz.prog w=.ok (.agg L.cells.toArray) w:=by
 refine run_build w 170 _ _ ?_;unfold Lab.cells Lab.nums;rw[DS (L.pool.map vb) (by rw[List.length_map,h])];exact G2 _ _ _ _ _ _
def gG(b:List UInt8)(Mm:Nat->Nat->List UInt8)(d:Nat):Nat->Nat->Nat->List UInt8
 | 0=>Mm
 | k+1=>gP (gG b Mm d k) d k (if k=0 then b else zB)
theorem G4(b:List UInt8)(Mm:Nat->Nat->List UInt8)(d:Nat):gP Mm d 0 b=gG b Mm d 1:=rfl
theorem Fd(b:List UInt8)(Mm:Nat->Nat->List UInt8)(d:Nat){k:Nat}(hk:0<k):gP (gG b Mm d k) d k zB=gG b Mm d (k+1):=by
 show _=gP (gG b Mm d k) d k (if k=0 then b else zB);rw[if_neg (by omega)]
theorem xH(b:List UInt8)(Mm:Nat->Nat->List UInt8)(d:Nat):∀k,0<k->gG b Mm d k d 0=b
 | 1,_=>by show gP Mm d 0 b d 0=b;unfold gP;rw[if_pos ⟨rfl,rfl⟩]
 | k+2,_=>by
   show gP (gG b Mm d (k+1)) d (k+1) _ d 0=b;unfold gP;rw[if_neg (by omega)];exact xH b Mm d (k+1) (by omega)
theorem uI(b:List UInt8)(Mm:Nat->Nat->List UInt8)(d:Nat){e s:Nat}(h:e≠d):∀k,gG b Mm d k e s=Mm e s
 | 0=>rfl
 | k+1=>by
   show gP (gG b Mm d k) d k _ e s=_;unfold gP;rw[if_neg (by omega)];exact uI b Mm d h k
def Cv(w:World)(a:Nat)(B:Nat->Prop)(D Z:Nat)(Mm:Nat->Nat->List UInt8)(nw d:Nat)(b:List UInt8)(k:Nat)(w':World):Prop:=
 ∃B',bH w' a B' D Z (gG b Mm d k) (nw+k)/\(∀i,B' i->B i\/w.heap.size≤i)/\aA B w w'
theorem Cv.next{w w1 w2:World}{a D Z nw d k:Nat}{B B':Nat->Prop}{Mm:Nat->Nat->List UInt8}{b b':List UInt8}(hB:∀i,B' i->B i\/w.heap.size≤i)(hk:aA B w w1){e:Ending}(h:lY w1 a B' D Z (gG b Mm d k) (nw+k) d k b' e w2)(hb:gP (gG b Mm d k) d k b'=gG b Mm d (k+1)):Cv w a B D Z Mm nw d b (k+1) w2:=by
 obtain⟨-,B2,h1,h2,h3⟩:=h;rw[hb] at h1;refine⟨B2,h1,fun i hi=>?_,hk.trans' h3 (fun _ _ h=>h) fun i hi e=>?_⟩
 ·rcases h2 i hi with h|h
  ·exact hB i h
  ·exact .inr (Nat.le_trans hk.size h)
 ·rcases hB i e with h|h
  ·exact h
  ·omega
def Cw(w:World)(a:Nat)(B:Nat->Prop)(D Z:Nat)(Mm:Nat->Nat->List UInt8)(nw d:Nat)(b:List UInt8)(e:Ending)(w':World):Prop:=
 e=.returned (.int .i64 0)/\∃B' nw',bH w' a B' D Z (gG b Mm d 5) nw'/\nw'≤nw+5/\(∀k,B' k->B k\/w.heap.size≤k)/\aA B w w'
theorem Ji{w:World}{c a m:Nat}{pid:List UInt8}{cp:Nat}{lv gv:Value}{t:Int}(h:aV w c a m pid cp lv gv t){D Z nw:Nat}{B:Nat->Prop}{Mm:Nat->Nat->List UInt8}(ha:bH w a B D Z Mm nw){d:Nat}(hd:d<D)(hcB:¬B c)(hcp:1≤cp/\cp≤3/\cp≤D)(hn:nw<1000000):Calls Tryz.prog 72 #[.pointer (some ⟨c,0,none⟩),.int .i64 (d:Int),.int .i64 0] w (Cw w a B D Z Mm nw d (dI (cP pid d D cp Z))):=by
 have hbd:=ha.bd;have HM:Hid ((cP pid d D cp Z).may=true):=O (rD hd hbd hcp.1 hcp.2.1 hcp.2.2);have HPID:=O h.idl;have hpl:(pid.map vb).length=32:=by rw[List.length_map];exact h.idl
 have HBL:=O (fun w=>G3 (cP pid d D cp Z) h.idl w);have HPL:=O (tA (cP pid d D cp Z) h.idl HM.out);obtain⟨b,hbe⟩:∃b,dI (cP pid d D cp Z)=b:=⟨_,rfl⟩
 obtain⟨lc,hlc⟩:∃l,(cP pid d D cp Z).cells=l:=⟨_,rfl⟩
 have HLC:=O hlc;have HBE:=O hbe;rw[hbe] at HPL ⊢;rw[hlc] at HBL;have HC:=O h;have HA:=O ha;have HD:=O hd;have HCB:=O hcB;have HA0:=HA;have HC0:=HC;have HL:=O (Loc.nil aB aB w);have hZ5:8≤Z:=hbd.2.2.1;clear h ha hbe hlc hbd hcB;go_enter Tryz.func72,Tryz.ntmps72;go_wp2_with fail;obtain⟨S,hS0⟩:∃S:World->Prop,S=fun w'=>aA aB w.drew w':=⟨_,rfl⟩
 have HSE:=O (show ∀w',S w'->aA aB w.drew w' from fun w' h=>by rw[hS0] at h;exact h);have HSI:=O (show ∀w',aA aB w.drew w'->S w' from fun w' h=>by rw[hS0];exact h);have hS:S w.drew:=by rw[hS0];exact aA.refl _ _
 have hkd:=(aA.refl aB w).drew;clear hS0;refine wp_region_held (S:=S) (by kernel_rfl) ?_;change wpAnyH _ _ _ _ _ _ _ _ w.drew;generalize w.drew=w1 at HSE HSI hS hkd ⊢;replace HL:=O (HL.out.keeps hkd);replace HC:=O (HC.out.keep0 hkd);replace HA:=O (HA.out.keep0 hkd);clear hkd;have HLs:=HL;have HCs:=HC;have HAs:=HA;refine tna 0 (.pointer (some ⟨c,0,none⟩)) rfl hS ?_;refine tnb 1 (.pointer (some ⟨c,0,none⟩)) rfl hS ?_;refine tnb 2 (.pointer (some ⟨c,2,none⟩)) rfl hS ?_;refine tnd 3 (.agg (pid.map vb).toArray) rfl (yieldsIf_load_mid (by rfl) 24 (.tmp 14) rfl c 2 rfl (pid.map vb) _ (fun w' h=>(HSE.out w' h).rangeAt (aV.id_ HCs.out)) Tryz.underlying24 rfl (by rw[hpl];exact uY)) hS ?_;refine tna 4 (.int .i64 (d:Int)) rfl hS ?_;refine tna 5 (.pointer (some ⟨c,0,none⟩)) rfl hS ?_;refine tnb 6 (.pointer (some ⟨c,0,none⟩)) rfl hS ?_;refine tnb 7 (.pointer (some ⟨c,0,none⟩)) rfl hS ?_;refine tnd 8 (.pointer (some ⟨a,0,none⟩)) rfl (.inl ⟨by rfl,fun w' hw'=>by have c:World.cell? w' ⟨c,0,none⟩=some (.pointer (some ⟨a,0,none⟩)):=(HSE.out w' hw').cell (aV.c0 HCs.out) id;go_simp⟩) hS ?_;refine tna 10 (.pointer (some ⟨c,0,none⟩)) rfl hS ?_;refine tnb 11 (.pointer (some ⟨c,0,none⟩)) rfl hS ?_;refine tnb 12 (.pointer (some ⟨c,34,none⟩)) rfl hS ?_;refine tnd 13 (.int .i64 (cp:Int)) rfl (.inl ⟨by rfl,fun w' hw'=>by have c:World.cell? w' ⟨c,34,none⟩=some (.int .i64 (cp:Int)):=(HSE.out w' hw').cell (aV.cp_ HCs.out) id;go_simp⟩) hS ?_;refine tna 14 (.pointer (some ⟨c,0,none⟩)) rfl hS ?_;refine tnb 15 (.pointer (some ⟨c,0,none⟩)) rfl hS ?_;refine tnb 16 (.pointer (some ⟨c,0,none⟩)) rfl hS ?_;refine tnd 17 (.pointer (some ⟨a,0,none⟩)) rfl (.inl ⟨by rfl,fun w' hw'=>by have c:World.cell? w' ⟨c,0,none⟩=some (.pointer (some ⟨a,0,none⟩)):=(HSE.out w' hw').cell (aV.c0 HCs.out) id;go_simp⟩) hS ?_;refine tna 19 (.int .i64 0) rfl hS ?_;refine wA9 9 ?_;go_wp2_with fail;refine(jG HA.out).mono ?_;rintro e w2 ⟨rfl,hk⟩;have hS1:=HSI.out _ ((HSE.out _ hS).trans hk);replace HL:=O (HL.out.keeps hk);replace HC:=O (HC.out.keep0 hk);replace HA:=O (HA.out.keep0 hk);clear hS hk;go_wp2_with fail;refine⟨hS1,?_⟩;refine wA9 18 ?_;go_wp2_with fail;refine(sV HA.out).mono ?_;rintro e w3 ⟨rfl,hk⟩;have hS2:=HSI.out _ ((HSE.out _ hS1).trans hk);replace HL:=O (HL.out.keeps hk);replace HC:=O (HC.out.keep0 hk);replace HA:=O (HA.out.keep0 hk);clear hS1 hk;go_wp2_with fail;refine⟨hS2,?_⟩;refine tnd 20 (.agg lc.toArray) rfl (lE 170 #[(0,.tmp 15),(1,.tmp 16),(2,.tmp 21),(3,.tmp 25),(4,.tmp 30),(5,.tmp 31)] [(0,.agg (pid.map vb).toArray),(1,.int .i64 (d:Int)),(2,.int .i64 (D:Int)),(3,.int .i64 (cp:Int)),(4,.int .i64 (Z:Int)),(5,.int .i64 0)] (.agg lc.toArray) HBL.out) hS2 ?_;refine wA9 21 ?_;go_wp2_with fail;have HS33:=O HL.out.keep.size;refine((by rw[←HLC.out];exact Ck (cP pid d D cp Z) HPID.out w3:Calls _ _ _ w3 (Cj w3 (cP pid d D cp Z)))).mono ?_;rintro e w4 ⟨v1,rfl,ho,hk⟩;rw[HM.out,if_pos rfl];rw[HBE.out,HPL.out] at ho;obtain⟨la,lc2,rfl,-,-⟩:=(Rd.of_owns ho).form;have HO:=O ho;clear ho;have hS3:=HSI.out _ ((HSE.out _ hS2).trans hk);replace HL:=O (HL.out.keeps hk);replace HC:=O (HC.out.keep0 hk);replace HA:=O (HA.out.keep0 hk);clear hS2 hk;go_wp2_with fail;refine⟨hS3,?_⟩;refine tna 22 (.tuple #[.slice la 256 lc2,.int .i64 0]) rfl hS3 ?_;refine tnb 23 (.slice la 256 lc2) rfl hS3 ?_;refine tnb 24 (.int .i64 0) rfl hS3 ?_;refine tna 25 (.slice la 256 lc2) rfl hS3 ?_;refine tna 26 (.int .i64 0) rfl hS3 ?_;refine wpAnyH_done (by kernel_rfl) ?_ _;clear hS3 HSE HSI HLs HCs HAs;go_wp2_with fail;have HSZ:=O HL.out.keep;have HOB:Hid (∀i,(Value.slice la 256 lc2).ownBlock=some i->¬B i):=O (fun i hi e=>by have h1:=aS HO.out hi;have h2:=HA0.out.lt e;have h3:=HS33.out;omega);clear HL
 go_loopw [7,39] (fun u i wr=>∃k:Nat,k≤5/\i=.int .i64 k/\(∃ua un uc,u=.slice ua un uc/\((k=0/\la=ua/\256=un/\lc2=uc)\/0<k))/\Hid (Cv w a B D Z Mm nw d b k wr)/\Hid (k=0->aA aB w4 wr)) (fun _ i _=>5-(intOf i).toNat)
 case atStart=>exact⟨0,by omega,rfl,⟨_,_,_,rfl,.inl ⟨rfl,rfl,rfl,rfl⟩⟩,O ⟨B,HA.out,fun i h=>.inl h,HSZ.out.any⟩,O fun _=>aA.refl _ _⟩
 case round =>
  obtain⟨k,hk,rfl,⟨ua,un,uc,rfl,hu⟩,HI,HK0⟩:=hrel;obtain⟨B2,ha2,hB2,hkw⟩:=HI.out;have HA2:=O ha2;have HB2:=O hB2;have HKW:=O hkw;have HC2:=O (HC0.out.keep hkw HCB.out);have HAL:=O (fun i (e:B2 i)=>ha2.lt e);clear ha2 hB2 hkw HI
  by_cases hk8:k<5
  ·have hk0:(0:Int)≤(k:Int):=by omega
   have hk1:(k:Int)<5:=by omega
   have HL:=O (Loc.nil aB aB wr);rcases hu with⟨rfl,rfl,rfl,rfl⟩|hz0
   ·clear HA2 HB2 HKW HAL
    have HA2:=O (HA.out.keep0 (HK0.out rfl));have HB2:Hid (∀i,B i->B i\/w.heap.size≤i):=O (fun i h=>.inl h);have HKW:Hid (aA B w wr):=O (HSZ.out.trans (HK0.out rfl)).any;have HAL:=O (fun i (e:B i)=>HA2.out.lt e);have HO2:=O ((HK0.out rfl).owns HO.out fun _ _=>id);have c1:wr.cell? ⟨c,0,none⟩=some (.pointer (some ⟨a,0,none⟩)):=(aV.c0 HC2.out)
    go_wp2_with fail;clear c1;refine(qX (s:=0) HA2.out HD.out (by omega) b HPL.out (.slice la 256 lc2) (Rd.of_owns HO2.out) HOB.out (by omega)).mono ?_;rintro e w5 hm;have HE:=O (Cv.next HB2.out (HKW.out.trans HL.out.keep.any) hm (G4 b Mm d));obtain⟨rfl,-⟩:=hm;clear HL HC2 HA2 HB2 HKW HAL;go_wp2_with fail
    go_roundw
    case rel=>exact⟨0+1,by omega,by go_num,⟨_,_,_,rfl,.inr (by omega)⟩,HE,O fun h=>by omega⟩
    case measure=>simp[intOf]
   ·have hz1:(0:Int)<(k:Int):=by omega
    go_wp2_with ((with_reducible show WL _ _);refine mkz (.const (.int .i64 256)) (.const (.int .i64 256)) ?_)
    intro b44 w5 hbs hk hb;replace HL:=O (HL.out.new (fun _ h=>h.elim) hbs hk hb);replace HC2:=O (HC2.out.keep0 hk);replace HA2:=O (HA2.out.keep0 hk);clear hbs hk hb;have c1:w5.cell? ⟨c,0,none⟩=some (.pointer (some ⟨a,0,none⟩)):=(aV.c0 HC2.out)
    go_wp2_with fail;clear c1;refine(qX (s:=k) HA2.out HD.out (by omega) zB rfl (.slice (some ⟨b44,0,none⟩) 256 256) (Rd.of_owns (vO (base:=0) (HL.out.b 0) rfl (Nat.zero_le _))) (fun i hi e=>by have h8:=HAL.out _ e;have h9:=(HL.out.lt 0).1;have h7:i=b44:=(by cases hi;rfl);omega) (by omega)).mono ?_;rintro e w6 hm;have HE:=O (Cv.next HB2.out (HKW.out.trans HL.out.keep.any) hm (Fd b Mm d hz0));obtain⟨rfl,-⟩:=hm;clear HL HC2 HA2 HB2 HKW HAL;go_wp2_with fail
    go_roundw
    case rel=>exact⟨k+1,by omega,by go_num,⟨_,_,_,rfl,.inr (by omega)⟩,HE,O fun h=>by omega⟩
    case measure=>simp[intOf];omega
  ·obtain rfl:k=5:=by omega
   clear hu;have HL:=O (Loc.nil aB aB wr);have c1:wr.cell? ⟨c,0,none⟩=some (.pointer (some ⟨a,0,none⟩)):=(aV.c0 HC2.out)
   go_wp2_with fail;clear c1;refine(EL HA2.out HD.out (by omega)).mono ?_;rintro e w5 ⟨rfl,B3,nw3,ha3,hn3,hB3,hk3⟩;have HP:Hid (Cw w a B D Z Mm nw d b (.returned (.int .i64 0)) w5):=O ⟨rfl,B3,nw3,ha3,hn3,fun i hi=>(hB3 i hi).elim (HB2.out i) (fun h=>.inr (Nat.le_trans (HKW.out.trans HL.out.keep.any).size h)),(HKW.out.trans HL.out.keep.any).trans' hk3 (fun _ _ h=>h) (fun i hi e=>(HB2.out i e).elim id fun h=>by omega)⟩;clear ha3 hn3 hB3 hk3 HL HC2 HA2 HB2 HKW HAL;go_wp2_with fail;go_ret;exact HP.out
theorem LJ{w:World}{D Z:Nat}(hb:2≤D/\D≤8/\8≤Z/\Z≤4096)(v:Value)(hr:Rd w 2 v 0 []):Calls Tryz.prog 117 #[.int .i64 (D:Int),.int .i64 (Z:Int),v] w (fun e w'=>∃g b2 lc,e=.returned (.tuple #[.pointer (some ⟨g,0,none⟩),.int .i64 0])/\dD w' w.heap.size g b2 lc D Z []/\aA aB w w'):=by
 refine(Fe w (D:Int) (Z:Int) v [] hr).mono fun e w' h=>?_
 have hB:rI (D:Int) (Z:Int) []=true:=by unfold rI;simp;omega
 unfold nK at h;rw[if_pos hB] at h;exact h
def Ff(w:World)(D Z:Nat)(e:Ending)(w':World):Prop:=∃g b2 lc,e=.returned (.tuple #[.pointer (some ⟨g,0,none⟩),.int .i64 0])/\dD w' w.heap.size g b2 lc D Z []/\aA aB w w'
def Aw(w:World)(c a m:Nat)(pid:List UInt8)(cp:Nat)(lv:Value)(t:Int)(D Z:Nat)(e:Ending)(w':World):Prop:=
 e=.returned (.tuple #[])/\∃g b2 lc,aV w' c a m pid cp lv (.pointer (some ⟨g,0,none⟩)) t/\dD w' 0 g b2 lc D Z []/\(∀k,Own g b2 lc D k->w.heap.size≤k)/\aA (fun k=>k=c) w w'
theorem LK(a m:Nat)(pid:List UInt8)(hp:pid.length=32)(cp:Nat)(lv gv gv':Value)(t:Int):spl (fP a m pid cp lv gv t).toArray 36 [gv']=(fP a m pid cp lv gv' t).toArray:=by
 have h:=lA (.pointer (some ⟨a,0,none⟩)::.pointer (some ⟨m,0,none⟩)::(pid.map vb++[.int .i64 (cp:Int),lv])) [gv] [gv'] (.slice none 0 0::.slice none 0 0::kX t) rfl;have hl:(.pointer (some ⟨a,0,none⟩)::.pointer (some ⟨m,0,none⟩)::(pid.map vb++[.int .i64 (cp:Int),lv])).length=36:=by simp[hp]
 rw[hl] at h;unfold fP
 simpa [List.append_assoc] using h
theorem LL(a m:Nat)(pid:List UInt8)(hp:pid.length=32)(cp:Nat)(lv lv' gv:Value)(t:Int):spl (fP a m pid cp lv gv t).toArray 35 [lv']=(fP a m pid cp lv' gv t).toArray:=by
 have h:=lA (.pointer (some ⟨a,0,none⟩)::.pointer (some ⟨m,0,none⟩)::(pid.map vb++[.int .i64 (cp:Int)])) [lv] [lv'] (gv::.slice none 0 0::.slice none 0 0::kX t) rfl;have hl:(.pointer (some ⟨a,0,none⟩)::.pointer (some ⟨m,0,none⟩)::(pid.map vb++[.int .i64 (cp:Int)])).length=35:=by simp[hp]
 rw[hl] at h;unfold fP
 simpa [List.append_assoc] using h
def jD(w:World)(c a m:Nat)(pid:List UInt8)(cp:Nat)(lv:Value)(t:Int):Prop:=∃gv,aV w c a m pid cp lv gv t
theorem jD.keep0{w w':World}{c a m:Nat}{pid:List UInt8}{cp:Nat}{lv:Value}{t:Int}(h:jD w c a m pid cp lv t)(k:aA aB w w'):jD w' c a m pid cp lv t:=h.imp fun _ h=>h.keep0 k
theorem jD.c0{w:World}{c a m:Nat}{pid:List UInt8}{cp:Nat}{lv:Value}{t:Int}(h:jD w c a m pid cp lv t):w.cell? ⟨c,0,none⟩=some (.pointer (some ⟨a,0,none⟩)):=h.elim fun _ h=>h.c0
theorem jD.old_{w:World}{c a m:Nat}{pid:List UInt8}{cp:Nat}{lv:Value}{t:Int}(h:jD w c a m pid cp lv t):w.cell? ⟨c,37,none⟩=some (.slice none 0 0):=h.elim fun _ h=>h.old_
theorem jD.live_{w:World}{c a m:Nat}{pid:List UInt8}{cp:Nat}{lv:Value}{t:Int}(h:jD w c a m pid cp lv t):w.cell? ⟨c,38,none⟩=some (.slice none 0 0):=h.elim fun _ h=>h.live_
theorem dD.low{w:World}{lo lo' g b2 D Z:Nat}{lc:Nat->Option Nat}{L:List Ad}(h:dD w lo g b2 lc D Z L)(h2:lo'≤lo):dD w lo' g b2 lc D Z L:=⟨h.top,h.words,h.chans,h.inj,h.bd,Nat.le_trans h2 h.lo.1,Nat.le_trans h2 h.lo.2.1,fun d k hd hk=>Nat.le_trans h2 (h.lo.2.2 d k hd hk)⟩
theorem G6{w:World}{c a m:Nat}{pid:List UInt8}{cp:Nat}{lv gv:Value}{t:Int}(h:aV w c a m pid cp lv gv t){D Z nw:Nat}{B:Nat->Prop}{Mm:Nat->Nat->List UInt8}(ha:bH w a B D Z Mm nw)(hcB:¬B c):Calls Tryz.prog 73 #[.pointer (some ⟨c,0,none⟩)] w (Aw w c a m pid cp lv t D Z):=by
 have hbd:=ha.bd;have HBD:=O hbd;have HPID:=O h.idl;have HCLT:=O (lt_of_block h.top);have HC:=O h;have HA:=O ha;have HL:=O (Loc.nil aB aB w);have HCB:Hid (∀i,i=c->¬B i):=O fun i e=>e▸hcB
 clear h ha hbd hcB;go_enter Tryz.func73,Tryz.ntmps73;go_wp2_with fail;obtain⟨S,hS0⟩:∃S:World->Prop,S=fun w'=>aA (fun k=>k=c) w.drew w'/\jD w' c a m pid cp lv t:=⟨_,rfl⟩
 have HSE:=O (show ∀w',S w'->aA (fun k=>k=c) w.drew w'/\jD w' c a m pid cp lv t from fun w' h=>by rw[hS0] at h;exact h);have HSI:=O (show ∀w',aA (fun k=>k=c) w.drew w'/\jD w' c a m pid cp lv t->S w' from fun w' h=>by rw[hS0];exact h);have hS:S w.drew:=by rw[hS0];exact⟨aA.refl _ _,_,HC.out.keep0 (aA.refl aB w).drew⟩
 have hkd:=(aA.refl aB w).drew;clear hS0;refine wp_region_held (S:=S) (by kernel_rfl) ?_;change wpAnyH _ _ _ _ _ _ _ _ w.drew;generalize w.drew=w1 at HSE HSI hS hkd ⊢;replace HL:=O (HL.out.keeps hkd);replace HC:=O (HC.out.keep0 hkd);replace HA:=O (HA.out.keep0 hkd);clear hkd;have HLs:=HL;have HCs:=HC;have HAs:=HA;refine tna 0 (.pointer (some ⟨c,0,none⟩)) rfl hS ?_;refine tna 1 (.pointer (some ⟨c,0,none⟩)) rfl hS ?_;refine tnb 2 (.pointer (some ⟨c,0,none⟩)) rfl hS ?_;refine tnb 3 (.pointer (some ⟨c,0,none⟩)) rfl hS ?_;refine tnd 4 (.pointer (some ⟨a,0,none⟩)) rfl (.inl ⟨by rfl,fun w' hw'=>by have c:World.cell? w' ⟨c,0,none⟩=some (.pointer (some ⟨a,0,none⟩)):=jD.c0 (HSE.out w' hw').2;go_simp⟩) hS ?_;refine tna 6 (.pointer (some ⟨c,0,none⟩)) rfl hS ?_;refine tnb 7 (.pointer (some ⟨c,0,none⟩)) rfl hS ?_;refine tnb 8 (.pointer (some ⟨c,0,none⟩)) rfl hS ?_;refine tnd 9 (.pointer (some ⟨a,0,none⟩)) rfl (.inl ⟨by rfl,fun w' hw'=>by have c:World.cell? w' ⟨c,0,none⟩=some (.pointer (some ⟨a,0,none⟩)):=jD.c0 (HSE.out w' hw').2;go_simp⟩) hS ?_;refine tna 11 (.pointer (some ⟨c,0,none⟩)) rfl hS ?_;refine tnb 12 (.pointer (some ⟨c,0,none⟩)) rfl hS ?_;refine tnb 13 (.pointer (some ⟨c,37,none⟩)) rfl hS ?_;refine tnd 14 (.slice none 0 0) rfl (.inl ⟨by rfl,fun w' hw'=>by have c:World.cell? w' ⟨c,37,none⟩=some (.slice none 0 0):=jD.old_ (HSE.out w' hw').2;go_simp⟩) hS ?_;refine tna 15 (.pointer (some ⟨c,0,none⟩)) rfl hS ?_;refine tnb 16 (.pointer (some ⟨c,0,none⟩)) rfl hS ?_;refine tnb 17 (.pointer (some ⟨c,38,none⟩)) rfl hS ?_;refine tnd 18 (.slice none 0 0) rfl (.inl ⟨by rfl,fun w' hw'=>by have c:World.cell? w' ⟨c,38,none⟩=some (.slice none 0 0):=jD.live_ (HSE.out w' hw').2;go_simp⟩) hS ?_;refine wA9 5 ?_;go_wp2_with fail;refine(jG HA.out).mono ?_;rintro e w2 ⟨rfl,hk⟩;have hS1:=HSI.out _ ⟨(HSE.out _ hS).1.trans hk.any,(HSE.out _ hS).2.keep0 hk⟩;replace HL:=O (HL.out.keeps hk);replace HC:=O (HC.out.keep0 hk);replace HA:=O (HA.out.keep0 hk);clear hS hk;go_wp2_with fail;refine⟨hS1,?_⟩;refine wA9 10 ?_;go_wp2_with fail;refine(sV HA.out).mono ?_;rintro e w3 ⟨rfl,hk⟩;have hS2:=HSI.out _ ⟨(HSE.out _ hS1).1.trans hk.any,(HSE.out _ hS1).2.keep0 hk⟩;replace HL:=O (HL.out.keeps hk);replace HC:=O (HC.out.keep0 hk);replace HA:=O (HA.out.keep0 hk);clear hS1 hk;go_wp2_with fail;refine⟨hS2,?_⟩;refine wA9 19 ?_;go_wp2_with fail;refine(G5 w3 (.slice none 0 0) (.slice none 0 0) [] [] (fun x hx=>by cases hx) (fun x hx=>by cases hx) (Rd.nil _ _) (Rd.nil _ _) (by decide)).mono ?_;rintro e w4 ⟨v1,rfl,ho,hk⟩;have e0:(lH ([]++[]:List Ad))=[]:=List.eq_nil_iff_forall_not_mem.2 (fun x hx=>by rw[zU] at hx;cases hx);rw[e0] at ho;obtain⟨ua,uc,hv1,-,-⟩:=(Rd.of_owns ho).form;have hv2:v1=.slice ua 0 uc:=hv1;clear hv1 e0;subst hv2;have HO:=O ho;clear ho;have hS3:=HSI.out _ ⟨(HSE.out _ hS2).1.trans hk.any,(HSE.out _ hS2).2.keep0 hk⟩;replace HL:=O (HL.out.keeps hk);replace HC:=O (HC.out.keep0 hk);replace HA:=O (HA.out.keep0 hk);clear hS2 hk;go_wp2_with fail;refine⟨hS3,?_⟩;refine wA9 20 ?_;go_wp2_with fail;have HWS:=O HL.out.keep.size;refine((LJ HBD.out _ (Rd.of_owns HO.out):Calls _ _ _ w4 (Ff w4 D Z))).mono ?_;rintro e w5 ⟨g,b2,lc,rfl,hled,hk⟩;have HLE:=O hled;have HW0:=O (lt_of_block HC.out.top);clear hled;have hS4:=HSI.out _ ⟨(HSE.out _ hS3).1.trans hk.any,(HSE.out _ hS3).2.keep0 hk⟩;replace HL:=O (HL.out.keeps hk);replace HC:=O (HC.out.keep0 hk);replace HA:=O (HA.out.keep0 hk);replace HO:=O (hk.owns HO.out fun _ _=>id);clear hS3 hk;go_wp2_with fail;refine⟨hS4,?_⟩;refine tna 21 (.tuple #[.pointer (some ⟨g,0,none⟩),.int .i64 0]) rfl hS4 ?_;refine tnb 22 (.pointer (some ⟨g,0,none⟩)) rfl hS4 ?_;refine tnb 23 (.int .i64 0) rfl hS4 ?_;refine tnb 24 (.pointer (some ⟨c,0,none⟩)) rfl hS4 ?_;refine tnb 25 (.pointer (some ⟨c,36,none⟩)) rfl hS4 ?_;refine wA9 26 ?_;refine sta 40 (.tmp 27) (.tmp 24) c 36 [.pointer (some ⟨g,0,none⟩)] HC.out.top (by rw[List.size_toArray,xB HPID.out];simp) (by kernel_rfl) (one9) ?_;intro w6 hk hb;rw[LK _ _ _ HPID.out] at hb;have hS5:S w6:=HSI.out _ ⟨(HSE.out _ hS4).1.trans hk,_,hb,HPID.out⟩;have HLX:Hid (∀i,i=c->¬Own g b2 lc D i):=O (by rintro i rfl e;have:=(HLE.out.own_lt e).1;have:=HCLT.out;have:=HWS.out;omega);have HP:Hid (Aw w c a m pid cp lv t D Z (.returned (.tuple #[])) w6):=O ⟨rfl,g,b2,lc,⟨hb,HPID.out⟩,(HLE.out.keep hk HLX.out).low (Nat.zero_le _),fun k e=>by have:=(HLE.out.own_lt e).1;have:=HWS.out;omega,HL.out.keep.any.trans hk⟩;clear hS4 hk hb;refine wpList_nil ?_;refine⟨hS5,?_⟩;refine wpAnyH_done (by kernel_rfl) ?_ _;clear hS5 HSE HSI HLs HCs HAs;clear HC HA HL HO HLE;go_wp2_with fail
 go_end0
 exact HP.out
end
end Go.Proofs.YtjkbekifgobeaaaGreatDoor
