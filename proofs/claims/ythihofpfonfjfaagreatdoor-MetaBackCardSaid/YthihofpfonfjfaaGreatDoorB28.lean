/- A part of the proof. Conditions: those told. -/
import Derived.Test.YthihofpfonfjfaaGreatDoorB1
import Derived.Test.YthihofpfonfjfaaGreatDoorB27
import Derived.Deep.DeepAppendRoom
namespace Go.Proofs.YthihofpfonfjfaaGreatDoor
set_option maxHeartbeats 64000000
set_option maxRecDepth 100000
set_option linter.unusedVariables false
section
open Go.RowKit Go.Maps Go.ChangeMaps
theorem BG{P:Program}(w:World)(T e:TypeId)(len size i:Nat)(cs:Array Value)(k:IntKind)(d:TypeDesc)(hu:P.underlying T=some (.array len e))(hi:i<len)(hue:P.underlying e=some d)(hd:(match d with|.struct _|.array _ _=>true|_=>false)=true)(hs:(P.info? e).map (·.size)=some size) :
 (Instr.index T (.agg cs) (.int k (i:Int))).run P w=.ok (.agg (cs.extract (i*size) (i*size+size))) w:=by
 cases hq:P.info? e with
 | none=>simp[hq] at hs
 | some ie =>
   have hsz:ie.size=size:=by simpa [hq] using hs
   have hagg:(isAgg e).run P w=.ok true w:=by
    unfold isAgg;rw[Sem.run_bind,run_underlying hue w];cases d<;>simp_all
   have h1:(0:Int)≤(i:Int)/\(i:Int)<(len:Int):=by omega
   simp[Instr.index,asIntOf,run_underlying hu,sizeOf,typeInfo,hq,hsz,h1,part,hagg,Sem.run_bind];intro h2;omega
theorem idx{P:Program}{w:World}{ops:Array Oper}{rest:List Oper}{o:Oper}{a:Act}{Q:Exit->Act->World->Prop}(T e:TypeId)(len size i:Nat)(cs:Array Value)(k:IntKind)(d:TypeDesc)(x y:Operand)(hu:P.underlying T=some (.array len e))(hi:i<len)(hue:P.underlying e=some d)(hd:(match d with|.struct _|.array _ _=>true|_=>false)=true)(hs:(P.info? e).map (·.size)=some size)
 (h:wpList P ops Q rest (a.put o.dst (.agg (cs.extract (i*size) (i*size+size)))) w) (hx:a.eval x=.agg cs:=by rfl) (hy:a.eval y=.int k (i:Int):=by rfl) (hg:o.guard=none:=by rfl) (ho:o.op=.index T x y:=by rfl):wpList P ops Q (o::rest) a w:=by
 refine wpList_plain hg fun K hK=>?_
 unfold Oper.wp execOp;simp only[ho,hx,hy,Sem.run_bind,BG w T e len size i cs k d hu hi hue hd hs,Result.andThen_ok];exact hK _ _ h
theorem wY{A C:List Value}(h:A.length=35):(A++C).take 35=A:=by rw[←h,List.take_left]
theorem lX{A C:List Value}(h:A.length=35):(A++C).drop 35=C:=by rw[←h,List.drop_left]
def uH(vs:Nat->Value)(ps:Nat->Pt):List Value:=aE (vs 0) (ps 0)++(aE (vs 1) (ps 1)++(aE (vs 2) (ps 2)++aE (vs 3) (ps 3)))
theorem L0{w:World}{vs:Nat->Value}{ps:Nat->Pt}(hv:eC w vs ps){k:Nat}(hk:k<4):(uH vs ps).toArray.extract (k*35) (k*35+35)=(aE (vs k) (ps k)).toArray:=by
 have l0:=aO (v:=vs 0) (hv 0 (by omega)).sum;have l1:=aO (v:=vs 1) (hv 1 (by omega)).sum;have l2:=aO (v:=vs 2) (hv 2 (by omega)).sum;have l3:=aO (v:=vs 3) (hv 3 (by omega)).sum;rw[List.extract_toArray,List.extract_eq_take_drop,Nat.add_sub_cancel_left]
 congr 1
 unfold uH;rcases k with _|_|_|_|k
 ·exact wY l0
 ·rw[show (0+1)*35=35 from rfl,lX l0];exact wY l1
 ·rw[show (0+1+1)*35=35+35 from rfl,←List.drop_drop,lX l0,lX l1];exact wY l2
 ·rw[show (0+1+1+1)*35=35+(35+35) from rfl,←List.drop_drop,←List.drop_drop,lX l0,lX l1,lX l2,←l3,List.take_length]
 ·omega
theorem wZ{P:Program}{w:World}{ops:Array Oper}{rest:List Oper}{o:Oper}{a:Act}{Q:Exit->Act->World->Prop}(hgd:o.guard=none)(s x:Operand)(t:TypeId)
 (ho:o.op=.call { callee:=.builtin .append,args:=#[s,x],argTypes:=#[t,t] })
 (e:TypeId) (i:TypeInfo) (ht:P.underlying t=some (.slice e)) (hi:P.info? e=some i) (hsize:i.size=1)
 (g n cap:Nat) (cur:Array Value) (hb:w.heap[g]?=some (.cells cur e (0,0))) (hs:a.eval s=.slice (some ⟨g,0,none⟩) n cap)
 (ad:Addr) (m c:Nat) (news:List Value) (hx:a.eval x=.slice (some ad) m c) (hl:news.length=m) (hnews:∀j u,news[j]?=some u->w.cell? (ad.add j)=some u) (h1:∀u∈news,u.oneCell'=true)
 (hroom:n+m≤cap) (hfit:n+m≤cur.size)
 (h:∀w',w'.heap[g]?=some (.cells (spl cur n news) e (0,0))->aA (fun k=>k=g) w w'->wpList P ops Q rest (a.put o.dst (.slice (some ⟨g,0,none⟩) (n+m) cap)) w'):wpList P ops Q (o::rest) a w:=by
 have hr:=run_append_room (P:=P) w t o.type e i ht hi g n cap cur hb ad m c news (by rw[hsize,Nat.mul_one];exact hl) hnews h1 hroom (by rw[hsize,Nat.mul_one,hl];exact hfit);refine wpList_plain hgd fun K hK=>?_
 unfold Oper.wp execOp;simp only[ho,resolve,invoke,builtin,Sem.run_bind,Sem.run_pure,Result.andThen_ok,List.map_toArray,List.map_cons,List.map_nil,hs,hx,hr];refine hK _ _ (h _ ?_ ⟨rfl,rfl,rfl,by simp,fun k _ hk=>setRow_other w g k _ hk⟩);rw[setRow_heap w g cur _ e _ hb,←qI cur n news (by rw[hl];exact hfit)];simp[hsize]
theorem Nc(w:World):(Instr.makeSlice 22 (.int .i64 1) (.int .i64 256)).run Tryz.prog w=.ok (.slice (some ⟨w.heap.size,0,none⟩) 1 256) (w.alloc (.cells dH.toArray 5)):=by kernel_rfl
theorem mks{w:World}{ops:Array Oper}{rest:List Oper}{o:Oper}{a:Act}{Q:Exit->Act->World->Prop}(x y:Operand)(h:∀b w',w.heap.size=b->aA aB w w'->w'.heap[b]?=some (.cells dH.toArray 5 (0,0))->wpList Tryz.prog ops Q rest (a.put o.dst (.slice (some ⟨b,0,none⟩) 1 256)) w')(hx:a.eval x=.int .i64 1:=by rfl)(hy:a.eval y=.int .i64 256:=by rfl)(hg:o.guard=none:=by rfl)(ho:o.op=.makeSlice 22 x y:=by rfl):wpList Tryz.prog ops Q (o::rest) a w:=by
 refine wpList_plain hg fun K hK=>?_
 unfold Oper.wp execOp;simp only[ho,hx,hy,Sem.run_bind,Nc,Result.andThen_ok];exact hK _ _ (h _ _ rfl ((aA.refl _ _).alloc _) (heap_alloc_new _ _))
theorem MM(w:World):(Instr.makeSlice 22 (.int .i64 256) (.int .i64 256)).run Tryz.prog w=.ok (.slice (some ⟨w.heap.size,0,none⟩) 256 256) (w.alloc (.cells dH.toArray 5)):=by kernel_rfl
theorem mkz{w:World}{ops:Array Oper}{rest:List Oper}{o:Oper}{a:Act}{Q:Exit->Act->World->Prop}(x y:Operand)(h:∀b w',w.heap.size=b->aA aB w w'->w'.heap[b]?=some (.cells dH.toArray 5 (0,0))->wpList Tryz.prog ops Q rest (a.put o.dst (.slice (some ⟨b,0,none⟩) 256 256)) w')(hx:a.eval x=.int .i64 256:=by rfl)(hy:a.eval y=.int .i64 256:=by rfl)(hg:o.guard=none:=by rfl)(ho:o.op=.makeSlice 22 x y:=by rfl):wpList Tryz.prog ops Q (o::rest) a w:=by
 refine wpList_plain hg fun K hK=>?_
 unfold Oper.wp execOp;simp only[ho,hx,hy,Sem.run_bind,MM,Result.andThen_ok];exact hK _ _ (h _ _ rfl ((aA.refl _ _).alloc _) (heap_alloc_new _ _))
def lY(lv:Nat)(ps:Nat->Pt)(k:Nat):List UInt8:=UInt8.ofNat lv::(List.range k).flatMap fun j=>ptB (ps j)
theorem A5(lv:Nat)(ps:Nat->Pt)(k:Nat):lY lv ps (k+1)=lY lv ps k++ptB (ps k):=by unfold lY;rw[List.range_succ,List.flatMap_append,List.flatMap_cons,List.flatMap_nil,List.append_nil];rfl
theorem rY(lv:Nat)(ps:Nat->Pt)(h:∀k,k<4->(ptB (ps k)).length=47):∀k,k≤4->(lY lv ps k).length=1+k*47
 | 0,_=>rfl
 | k+1,hk=>by rw[A5,List.length_append,rY lv ps h k (by omega),h k (by omega)];omega
def pF(lv:Nat)(ps:Nat->Pt)(k:Nat):List Value:=(lY lv ps k).map vb++List.replicate (255-k*47) (.int .u8 0)
theorem xA(lv:Nat)(ps:Nat->Pt)(h:∀k,k<4->(ptB (ps k)).length=47)(k:Nat)(hk:k≤4):(pF lv ps k).length=256:=by
 unfold pF;rw[List.length_append,List.length_map,rY lv ps h k hk,List.length_replicate];omega
theorem Iq(lv:Nat)(ps:Nat->Pt)(h:∀k,k<4->(ptB (ps k)).length=47)(k:Nat)(hk:k<4):spl (pF lv ps k).toArray (1+k*47) ((ptB (ps k)).map vb)=(pF lv ps (k+1)).toArray:=by
 have hl:=rY lv ps h k (by omega);have h7:=h k hk;rw[←qI _ _ _ (by rw[List.size_toArray,xA lv ps h k (by omega),List.length_map,h7];omega)]
 congr 1
 unfold pF;rw[A5,List.map_append,List.append_assoc];have e1:(lY lv ps k).map vb=((lY lv ps k).map vb++List.replicate (255-k*47) (Value.int .u8 0)).take (1+k*47):=by rw[List.take_left' (by rw[List.length_map,hl])]
 simp only[];rw[←e1,List.length_map,h7]
 congr 2
 rw[←List.drop_drop,List.drop_left' (by rw[List.length_map,hl]),List.drop_replicate]
 congr 1
 omega
theorem Nd:(Tryz.prog.info? 102).map (·.size)=some 140:=by kernel_rfl
theorem Ir(lv:Nat)(hlv:lv<256)(ps:Nat->Pt):spl dH.toArray 0 [.int .u8 (lv:Int)]=(pF lv ps 0).toArray:=by
 rw[←qI _ _ _ (by simp[lD])]
 congr 1
 unfold pF lY;rw[List.map_cons,KU hlv];rfl
def uI(w:World)(lv:Nat)(ps:Nat->Pt)(e:Ending)(w':World):Prop:=
 ∃v,e=.returned (.tuple #[v,.int .i64 0])/\w'.ownsRow w.heap.size 5 1 v 256 (pF lv ps 4)/\aA aB w w'
theorem L1{w:World}{vs:Nat->Value}{ps:Nat->Pt}{lv:Int}(h:eC w vs ps)(hf:∀k,k<4->Ag lv (ps k)):∀k,k<4->(ptB (ps k)).length=47:=fun k hk=>by
 have hm:(ps k).may=true:=(hf k hk).elim oU fun h=>h.2.1
 unfold ptB;rw[if_pos hm,fS (h k hk).sum]
theorem xB{w:World}{base b:Nat}{cs:List Value}(hb:w.heap[b]?=some (.cells cs.toArray 5 (0,0)))(hl:cs.length=256)(hge:base≤b):w.ownsRow base 5 1 (.slice (some ⟨b,0,none⟩) 256 256) 256 cs:=by
 refine⟨by simp[hl],.inr ⟨b,256,cs.toArray,rfl,hge,hb,Nat.le_refl _,by unfold maxLen;omega,by simp[hl],?_⟩⟩;rw[List.toList_toArray,←hl];simp
theorem A6(w:World)(lv:Nat)(vs:Nat->Value)(ps:Nat->Pt)(h:eC w vs ps)(h1:1≤lv)(h3:lv≤3)(hf:∀k,k<4->Ag (lv:Int) (ps k)):Calls Tryz.prog 58 #[.agg (cO (lv:Int) vs ps).toArray] w (uI w lv ps):=by
 have hnc:=gS (lv:Int) vs h
 have htc:(uH vs ps).length=140:=by
  have:=hnc;unfold cO at this;rw[List.length_cons] at this;unfold uH;omega
 obtain⟨tc,htce⟩:∃l,uH vs ps=l:=⟨_,rfl⟩
 obtain⟨nc,hnce⟩:∃l,cO (lv:Int) vs ps=l:=⟨_,rfl⟩
 have HNT:Hid (nc=.int .i64 (lv:Int)::tc):=O (by rw[←hnce,←htce];rfl);have HTC:=O htce;have HON:Hid (∀u∈nc,u.oneCell'=true):=O (by rw[←hnce];exact dX (lv:Int) h);have HNS:=O hnce;have H47:=O (L1 h hf);rw[hnce] at hnc ⊢;rw[htce] at htc;have HNV:=O h;have HF:=O hf;have h10:0≤(lv:Int):=by omega
 have h13:(lv:Int)≤3:=by omega
 have HL:=O (Loc.nil aB aB w);clear h hnce hf htce;have HNV0:=HNV;go_enter Tryz.func58,Tryz.ntmps58
 go_wp2_with ((with_reducible show WL _ _);refine bxL HL 104 (.tmp 0) (nc.toArray) ?_)
 intro b1 w1 hk HL;replace HNV:=O (eC.keep HNV.out hk);clear hk
 go_wp2_with ((with_reducible show WL _ _);refine wpList_load_mid rfl 104 (.tmp 1) rfl b1 0 rfl nc _ (aD (HL.out.b 0)) Tryz.underlying104 rfl (by rw[hnc];exact dZ) ?_)
 refine((by rw[←HNS.out];exact FM w1 (lv:Int) vs ps HNV.out (by omega) (by omega) HF.out:Calls _ _ _ w1 (aF w1 (.int .i64 0)))).mono ?_;rintro e w2 ⟨rfl,hk⟩;replace HL:=O (HL.out.keeps hk);replace HNV:=O (eC.keep HNV.out hk);clear hk
 go_wp2_with ((with_reducible show WL _ _);refine mks (.const (.int .i64 1)) (.const (.int .i64 256)) ?_)
 intro b15 w3 hbs hk hb;replace HL:=O (HL.out.new (fun _ h=>h.elim) hbs hk hb);replace HNV:=O (eC.keep HNV.out hk);clear hbs hk hb;have c1:w3.cell? ⟨b1,0,none⟩=some (.int .i64 (lv:Int)):=(aC (i:=0) (HL.out.b 1) (by rw[HNT.out];rfl))
 go_wp2_with ((with_reducible show WL _ _);refine sta 5 (.tmp 20) (.tmp 19) b15 0 ([.int .u8 (lv:Int)]) (HL.out.b 0) (by simp[lD]) (by kernel_rfl) (one9) ?_)
 clear c1;intro w4 hk hb;rw[Ir lv (by omega) ps] at hb;replace HL:=O (HL.out.set 0 hk hb);replace HNV:=O (eC.keep HNV0.out HL.out.keep);clear hk hb
 go_wp2_with ((with_reducible show WL _ _);refine wpList_load_mid rfl 102 (.tmp 21) rfl b1 1 rfl tc _ (by have h:=aD (HL.out.b 1);rw[HNT.out] at h;exact yV h) Tryz.underlying102 rfl (by rw[htc];exact Nd) ?_)
 have HB:=O (HL.out.b 1);have HB15:=O (HL.out.b 0);have HGE:=O (HL.out.lt 0);have HNE:Hid (b1≠b15):=O (fun e=>by have h1:=HB.out;rw[e,HB15.out] at h1;injection h1 with h1;injection h1 with h1 h2;revert h2;decide);have HK0:=O HL.out.keep
 obtain⟨iu,hiu,hsu⟩:∃i,Tryz.prog.info? 5=some i/\i.size=1:=by
  cases hq:Tryz.prog.info? 5 with
  | none=>have:=xN;rw[hq] at this;cases this
  | some i=>exact⟨i,rfl,by have:=xN;rw[hq] at this;simpa using this⟩
 have HIU:=O hiu;have HSU:=O hsu;clear HL HNV hiu hsu
 go_loopw [5,23] (fun s i wr=>∃k:Nat,k≤4/\s=.slice (some ⟨b15,0,none⟩) (1+k*47) 256/\i=.int .i64 k/\Hid (aA aB w wr)/\Hid (wr.heap[b15]?=some (.cells (pF lv ps k).toArray 5 (0,0)))) (fun _ i _=>4-(intOf i).toNat)
 case atStart=>exact⟨0,by omega,rfl,rfl,HK0,HB15⟩
 case round =>
  obtain⟨k,hk,rfl,rfl,HK,HB5⟩:=hrel
  by_cases hk8:k<4
  ·have HNW:=O (eC.keep HNV0.out HK.out)
   have hpk:=aO (v:=vs k) (HNV0.out k hk8).sum;have HEX:=O (L0 HNV0.out hk8);rw[HTC.out] at HEX;have HMY:Hid ((ps k).may=true):=O ((HF.out k hk8).elim oU fun h=>h.2.1);have HL7:=O (H47.out k hk8);obtain⟨pk,hpke⟩:∃l,aE (vs k) (ps k)=l:=⟨_,rfl⟩
   have HOK:Hid (∀u∈pk,u.oneCell'=true):=O (by rw[←hpke];exact bM (HNV0.out k hk8));have HPK:=O hpke;rw[hpke] at hpk HEX;have HL:=O (Loc.nil aB aB wr);have hk0:(0:Int)≤(k:Int):=by omega
   have hk1:(k:Int)<4:=by omega
   clear hpke
   go_wp2_with ((with_reducible show WL _ _);first
    | refine idx 102 35 4 35 k _ .i64 _ (.tmp 22) (.tmp 23) Tryz.underlying102 hk8 aJ rfl xW ?_;rw[HEX.out]
    | refine al 35 (.agg aK.toArray) (aK.toArray) bJ ?_)
   intro b7 w5 hbs hk0 hb0_
   go_wp2_with ((with_reducible show WL _ _);refine sta 35 (.tmp 7) (.tmp 25) b7 0 pk hb0_ (by first|decide|(rw[List.size_toArray,hpk];exact Nat.le_refl _)|simp[hpk]) (szP9 hpk) HOK.out ?_)
   intro w6 hk hb;rw[aG _ _ (by first|rfl|(rw[List.size_toArray,hpk];rfl)|simp[hpk])] at hb;replace hk:=hk0.trans' hk (U:=aB) (fun _ _ h=>h) (fun i hi e=>by omega);replace HL:=O (HL.out.new (fun _ h=>h.elim) hbs hk hb);replace HNW:=O (eC.keep HNW.out hk);replace HB5:=O (hk.blk HB5.out id);clear hbs hk hb hk0 hb0_
   go_wp2_with ((with_reducible show WL _ _);refine wpList_load_mid rfl 35 (.tmp 7) rfl b7 0 rfl pk _ (aD (HL.out.b 0)) aJ rfl (szP9 hpk) ?_)
   refine((by rw[←HPK.out];exact AL w6 (vs k) (ps k) (HNW.out k hk8):Calls _ _ _ w6 (AK w6 (ps k)))).mono ?_;rintro e w7 ⟨v1,rfl,ho,hk⟩;rw[if_pos HMY.out];rw[HL7.out] at ho;obtain⟨pa,pc,rfl,-,-⟩:=(Rd.of_owns ho).form;have HO:=O ho;clear ho;replace HL:=O (HL.out.keeps hk);replace HNW:=O (eC.keep HNW.out hk);replace HB5:=O (hk.blk HB5.out id);clear hk
   obtain⟨pg,po,pcap,hpv,hpc⟩:∃g o cap,Value.slice pa 47 pc=.slice (some ⟨g,o,none⟩) 47 cap/\∀j u,((ptB (ps k)).map vb)[j]?=some u->w7.cell? ⟨g,o+j,none⟩=some u:=by
    obtain⟨_,a',cap,he,-,-,-,h4⟩:=Rd.of_owns HO.out;obtain⟨g,o,rfl,hc⟩:=h4 (by rw[List.length_map,HL7.out];decide);exact⟨g,o,cap,he,hc⟩
   injection hpv with e1 e2 e3
   subst e1;subst e3;have HCC:=O hpc;clear hpc e2;have HB6:=HB5;have HKL:=O HL.out.keep
   go_wp2_with (first
    | (at_builtin;refine wZ rfl (.tmp 31) (.tmp 32) 22 rfl 5 iu Tryz.underlying22 HIU.out HSU.out b15 (1+k*47) 256 _ HB6.out rfl ⟨pg,po,none⟩ 47 pc ((ptB (ps k)).map vb) rfl (by rw[List.length_map,HL7.out]) (fun j u hj=>by rw[jL];exact HCC.out j u hj) (bK _) (by omega) (by rw[List.size_toArray,xA lv ps H47.out k (by omega)];omega) ?_))
   intro w9 hb hk;rw[Iq lv ps H47.out k hk8] at hb;have HK8:Hid (aA aB w w9):=O ((HK.out.trans HKL.out).trans' hk (fun _ _ h=>h) (fun i hi e=>by have:=HGE.out.1;omega));have HB8:=O hb;clear hb hk HL HNW HB5 HO HCC HB6 HKL;go_wp2_with fail
   go_roundw
   case rel=>exact⟨k+1,by omega,(by rw[show 1+(k+1)*47=1+k*47+47 by omega]),by go_num,HK8,HB8⟩
   case measure=>simp[intOf];omega
  ·obtain rfl:k=4:=by omega
   go_wp2_with fail
   go_ret2
   exact⟨_,rfl,xB HB5.out (xA lv ps H47.out 4 (by omega)) HGE.out.1,HK.out⟩
def nb(lv:Nat)(ps:Nat->Pt):List UInt8:=lY lv ps 4++List.replicate 67 0
theorem Iu(lv:Nat)(ps:Nat->Pt):(nb lv ps).map vb=pF lv ps 4:=by unfold nb pF;rw[List.map_append,List.map_replicate];rfl
theorem MN(lv:Nat)(ps:Nat->Pt)(h:∀k,k<4->(ptB (ps k)).length=47):(nb lv ps).length=256:=by
 unfold nb;rw[List.length_append,rY lv ps h 4 (by omega),List.length_replicate]
def rZ{α:Type}(f:Nat->α)(k:Nat)(v:α):Nat->α:=fun j=>if j=k then v else f j
theorem Ai{α:Type}(f:Nat->α)(k:Nat)(v:α):rZ f k v k=v:=if_pos rfl
theorem Aj{α:Type}(f:Nat->α){k j:Nat}(v:α)(h:j≠k):rZ f k v j=f j:=if_neg h
theorem lZ(P A B R:List Value)(h:B.length=A.length):spl (P++(A++R)).toArray P.length B=(P++(B++R)).toArray:=by
 rw[←qI _ _ _ (by simp;omega)]
 congr 1
 rw[List.toList_toArray,List.take_left,←List.drop_drop,List.drop_left,h,List.drop_left]
theorem MO{w:World}{vs:Nat->Value}{ps:Nat->Pt}(hv:eC w vs ps)(lv:Int){k:Nat}(hk:k<4){v:Value}{p:Pt}(hp:p.sum.length=32):spl (cO lv vs ps).toArray (1+k*35) (aE v p)=(cO lv (rZ vs k v) (rZ ps k p)).toArray:=by
 have l0:=aO (v:=vs 0) (hv 0 (by omega)).sum;have l1:=aO (v:=vs 1) (hv 1 (by omega)).sum;have l2:=aO (v:=vs 2) (hv 2 (by omega)).sum;have l3:=aO (v:=vs 3) (hv 3 (by omega)).sum;have lp:=aO (v:=v) hp;rcases k with _|_|_|_|k
 ·exact lZ [.int .i64 lv] (aE (vs 0) (ps 0)) (aE v p) (aE (vs 1) (ps 1)++(aE (vs 2) (ps 2)++aE (vs 3) (ps 3))) (by rw[lp,l0])
 ·have h:=lZ (.int .i64 lv::aE (vs 0) (ps 0)) (aE (vs 1) (ps 1)) (aE v p) (aE (vs 2) (ps 2)++aE (vs 3) (ps 3)) (by rw[lp,l1])
  rw[List.length_cons,l0] at h;exact h
 ·have h:=lZ (.int .i64 lv::(aE (vs 0) (ps 0)++aE (vs 1) (ps 1))) (aE (vs 2) (ps 2)) (aE v p) (aE (vs 3) (ps 3)) (by rw[lp,l2])
  rw[List.length_cons,List.length_append,l0,l1,List.cons_append,List.cons_append,List.append_assoc,List.append_assoc] at h;exact h
 ·have h:=lZ (.int .i64 lv::(aE (vs 0) (ps 0)++(aE (vs 1) (ps 1)++aE (vs 2) (ps 2)))) (aE (vs 3) (ps 3)) (aE v p) [] (by rw[lp,l3])
  rw[List.length_cons,List.length_append,List.length_append,l0,l1,l2,List.cons_append,List.cons_append,List.append_assoc,List.append_assoc,List.append_assoc,List.append_assoc,List.append_nil,List.append_nil] at h;exact h
 ·omega
def sA(ps:Nat->Pt)(k:Nat):Nat->Pt:=fun j=>if j<k then ps j else zPt
theorem A7(ps:Nat->Pt)(k:Nat):sA ps (k+1)=rZ (sA ps k) k (ps k):=by
 funext j
 unfold sA rZ
 by_cases e:j=k
 ·subst e;rw[if_pos (by omega),if_pos rfl]
 ·rw[if_neg e]
  show _=if j<k then ps j else zPt
  by_cases h:j<k
  ·rw[if_pos h,if_pos (by omega)]
  ·rw[if_neg h,if_neg (by omega)]
def IsC(w:World)(k:Nat):Prop:=∃cs t,w.heap[k]?=some (.cells cs t (0,0))
theorem IsC.lt{w:World}{k:Nat}(h:IsC w k):k<w.heap.size:=by obtain⟨cs,t,h⟩:=h;exact lt_of_block h
theorem IsC.keep{T:Nat->Prop}{w w':World}{k:Nat}(h:IsC w k)(kp:aA T w w')(hT:¬T k):IsC w' k:=by obtain⟨cs,t,h⟩:=h;exact⟨cs,t,kp.blk h hT⟩
def mA(w0 w:World)(v:Value):Prop:=∀i,v.ownBlock=some i->w0.heap.size≤i/\IsC w i
theorem mA.keep{T:Nat->Prop}{w0 w w':World}{v:Value}(h:mA w0 w v)(k:aA T w w')(hT:∀i,v.ownBlock=some i->¬T i):mA w0 w' v:=fun i hi=>⟨(h i hi).1,(h i hi).2.keep k (hT i hi)⟩
def eW(w0 w:World)(vs:Nat->Value)(ps:Nat->Pt):Prop:=∀k,k<4->PtV w (vs k) (ps k)/\mA w0 w (vs k)
theorem eW.nv{w0 w:World}{vs:Nat->Value}{ps:Nat->Pt}(h:eW w0 w vs ps):eC w vs ps:=fun k hk=>(h k hk).1
theorem eW.keep{T:Nat->Prop}{w0 w w':World}{vs:Nat->Value}{ps:Nat->Pt}(h:eW w0 w vs ps)(k:aA T w w')(hT:∀i,T i->¬(w0.heap.size≤i/\∃j,j<4/\(vs j).ownBlock=some i)):eW w0 w' vs ps:=fun i hi =>
 ⟨(h i hi).1.keep k fun j hj e=>hT j e ⟨((h i hi).2 j hj).1,i,hi,hj⟩,fun j hj=>⟨((h i hi).2 j hj).1,((h i hi).2 j hj).2.keep k fun e=>hT j e ⟨((h i hi).2 j hj).1,i,hi,hj⟩⟩⟩
theorem eW.keep0{w0 w w':World}{vs:Nat->Value}{ps:Nat->Pt}(h:eW w0 w vs ps)(k:aA aB w w'):eW w0 w' vs ps:=h.keep k fun _ e=>e.elim
theorem mB(w:World):PtV w (.slice none 0 0) zPt:=⟨Rd.nil w 2,fun x hx=>(by cases hx),rfl⟩
theorem eW.zero(w0 w:World):eW w0 w (fun _=>.slice none 0 0) (fun _=>zPt):=fun _ _=>⟨mB w,fun i hi=>by cases hi⟩
theorem eW.put{w0 w:World}{vs:Nat->Value}{ps:Nat->Pt}(h:eW w0 w vs ps){k:Nat}{v:Value}{p:Pt}(hp:PtV w v p)(hn:mA w0 w v):eW w0 w (rZ vs k v) (rZ ps k p):=fun i hi=>by
 by_cases e:i=k
 ·subst e;rw[Ai,Ai];exact⟨hp,hn⟩
 ·rw[Aj _ _ e,Aj _ _ e];exact h i hi
def vQ(w:World)(lv:Nat)(ps:Nat->Pt)(e:Ending)(w':World):Prop:=
 ∃vs,e=.returned (.tuple #[.agg (cO (lv:Int) vs ps).toArray,.int .i64 0])/\eW w w' vs ps/\aA aB w w'
theorem Kk(lv:Int):Tryz.prog.built 104 [(0,.int .i64 lv)]=some (cO lv (fun _=>.slice none 0 0) (fun _=>zPt)).toArray:=by kernel_rfl
theorem uT(lv:Int)(w:World):(Instr.build 104 #[(0,.int .i64 lv)]).run Tryz.prog w=.ok (.agg (cO lv (fun _=>.slice none 0 0) (fun _=>zPt)).toArray) w:=run_build w 104 _ _ (Kk lv)
theorem L3{w:World}{g o a n c k:Nat}{l:List UInt8}{bs:List UInt8}(hc:∀j u,(l.map vb)[j]?=some u->w.cell? ⟨g,o+j,none⟩=some u)(hs:(l.drop k).take 47=bs)(hl:bs.length=47)(ha:a=o+k)(hn:n=47)(h1:47≤c)(h2:c≤maxLen):Rd w 1 (.slice (some ⟨g,a,none⟩) n c) bs.length (bs.map vb):=by
 subst ha hn;rw[hl];refine⟨by rw[List.length_map,hl],_,_,rfl,h1,h2,(fun e=>by cases e),fun _=>⟨g,_,rfl,fun i u hi=>?_⟩⟩;rw[show o+k+i=o+(k+i) by omega];refine hc _ _ ?_;rw[←hs,List.getElem?_map,List.getElem?_take] at hi;split at hi
 ·rw[List.getElem?_drop] at hi
  rw[List.getElem?_map];exact hi
 ·cases hi
theorem L4(lv:Nat)(ps:Nat->Pt)(h:∀k,k<4->(ptB (ps k)).length=47){k:Nat}(hk:k<4):((nb lv ps).drop (1+k*47)).take 47=ptB (ps k):=by
 have e:lY lv ps 4=UInt8.ofNat lv::(ptB (ps 0)++(ptB (ps 1)++(ptB (ps 2)++ptB (ps 3)))):=by
  unfold lY;simp[List.range_succ]
 have l0:=h 0 (by omega);have l1:=h 1 (by omega);have l2:=h 2 (by omega);have l3:=h 3 (by omega);unfold nb;rw[e]
 have cut:∀(A B C:List UInt8) (n:Nat),A.length=n->B.length=47->((A++(B++C)).drop n).take 47=B:=fun A B C n hA hB=>by
  rw[←hA,List.drop_left,←hB,List.take_left]
 rcases k with _|_|_|_|k
 ·exact(congrArg (fun l=>(List.drop 1 l).take 47) (by simp[List.append_assoc])).trans (cut [UInt8.ofNat lv] (ptB (ps 0)) (ptB (ps 1)++(ptB (ps 2)++(ptB (ps 3)++List.replicate 67 0))) 1 rfl l0)
 ·exact(congrArg (fun l=>(List.drop 48 l).take 47) (by simp[List.append_assoc])).trans (cut (UInt8.ofNat lv::ptB (ps 0)) (ptB (ps 1)) (ptB (ps 2)++(ptB (ps 3)++List.replicate 67 0)) 48 (by simp[l0]) l1)
 ·exact(congrArg (fun l=>(List.drop 95 l).take 47) (by simp[List.append_assoc])).trans (cut (UInt8.ofNat lv::(ptB (ps 0)++ptB (ps 1))) (ptB (ps 2)) (ptB (ps 3)++List.replicate 67 0) 95 (by simp[l0,l1]) l2)
 ·exact(congrArg (fun l=>(List.drop 142 l).take 47) (by simp[List.append_assoc])).trans (cut (UInt8.ofNat lv::(ptB (ps 0)++(ptB (ps 1)++ptB (ps 2)))) (ptB (ps 3)) (List.replicate 67 0) 142 (by simp[l0,l1,l2]) l3)
 ·omega
theorem Kl{p:Pt}(hs:p.sum.length=32)(hm:p.may=true):kH (ptB p)=true/\fX (ptB p)=p:=by
 have h1:=It hs hm;have h2:=fS hs;unfold ptB;rw[if_pos hm,h1];unfold kH;rw[h1,h2,hm];unfold ptB;rw[if_pos hm];simp
theorem vR(w:World)(bv:Value)(lv:Nat)(ps:Nat->Pt)(h1:1≤lv)(h3:lv≤3)(hs:∀k,k<4->(ps k).sum.length=32)(hf:∀k,k<4->Ag (lv:Int) (ps k))(hr:Rd w 1 bv 256 ((nb lv ps).map vb)):Calls Tryz.prog 94 #[bv] w (vQ w lv ps):=by
 have hmy:∀k,k<4->(ps k).may=true:=fun k hk=>(hf k hk).elim oU fun h=>h.2.1
 have h47:∀k,k<4->(ptB (ps k)).length=47:=fun k hk=>by unfold ptB;rw[if_pos (hmy k hk),fS (hs k hk)]
 have HNL:=O (MN lv ps h47);obtain⟨_,oa,ca,rfl,hca,hcm,-,hce⟩:=id hr;obtain⟨g,o,rfl,hcc⟩:=hce (by rw[List.length_map,HNL.out];decide);unfold maxLen at hcm;have HC:=O hcc;have HCM:=O (show ca≤maxLen from hcm);have HR:=O hr;have HR0:=HR;have hc0:w.cell? ⟨g,o,none⟩=some (.int .u8 (lv:Int))  :=hcc 0 _ (by unfold nb lY;rw[List.cons_append,List.map_cons,KU (by omega)];rfl);have HC0:=O hc0;have HMY:=O hmy;have HSS:=O hs;have HF:=O hf;have H47:=O h47;have hnz:(cO (lv:Int) (fun _=>.slice none 0 0) (fun _=>zPt)).length=141:=rfl;have HOZ0:Hid (∀u∈cO (lv:Int) (fun _=>.slice none 0 0) (fun _=>zPt),u.oneCell'=true):=O (dX (w:=w) (lv:Int) fun _ _=>mB w);have hbn:=uT (lv:Int);obtain⟨nz,hnze⟩:∃l,cO (lv:Int) (fun _=>.slice none 0 0) (fun _=>zPt)=l:=⟨_,rfl⟩
 have HOZ:Hid (∀u∈nz,u.oneCell'=true):=O (by rw[←hnze];exact HOZ0.out);have HNZ:=O hnze;rw[hnze] at hnz hbn;have HBN:=O hbn;have h10:0≤(lv:Int):=by omega
 have h13:(lv:Int)≤3:=by omega
 have HL:=O (Loc.nil aB aB w);clear hr hce hcc hc0 hmy hs hf h47 hnze hbn HOZ0;go_enter Tryz.func94,Tryz.ntmps94
 go_wp2_with ((with_reducible show WL _ _);refine alL HL 104 (.agg dA.toArray) (dA.toArray) jD ?_)
 intro b2 w1 hk HL;replace HC0:=O (hk.cell HC0.out id);replace HR:=O (HR.out.keep hk fun _ _=>id);clear hk;have c1:w1.cell? ⟨g,o,none⟩=some (.int .u8 (lv:Int)):=HC0.out
 go_wp2_with ((with_reducible show WL _ _);first
  | refine bld 104 #[(0,.tmp 17)] [(0,.int .i64 (lv:Int))] (.agg nz.toArray) HBN.out ?_
  | refine al 104 (.agg dA.toArray) (dA.toArray) jD ?_)
 clear c1;intro b4 w2 hbs hk0 hb0_
 go_wp2_with ((with_reducible show WL _ _);refine sta 104 (.tmp 4) (.tmp 18) b4 0 nz hb0_ (by first|decide|(rw[List.size_toArray,hnz];exact Nat.le_refl _)|simp[hnz,bS]) (by rw[hnz];exact dZ) HOZ.out ?_)
 intro w3 hk hb;rw[aG _ _ (by first|rfl|(rw[List.size_toArray,hnz];rfl)|simp[hnz,bS])] at hb;replace hk:=hk0.trans' hk (U:=aB) (fun _ _ h=>h) (fun i hi e=>by omega);replace HL:=O (HL.out.new (fun _ h=>h.elim) hbs hk hb);replace HC0:=O (hk.cell HC0.out id);replace HR:=O (HR.out.keep hk fun _ _=>id);clear hbs hk hb hk0 hb0_;go_wp2_with fail;have HB2:=O (HL.out.b 1);have HB4:=O (HL.out.b 0);have HGE:=O (And.intro (HL.out.lt 1).1 (HL.out.lt 0).1);have HNE:Hid (b2≠b4):=O (fun e=>cH (i:=0) HL.out.nd rfl 1 (by decide) rfl e);have HK0:=O HL.out.keep;clear HL HR HC0
 go_loopw [19] (fun i wr=>∃k:Nat,k≤4/\i=.int .i64 k/\Hid (aA aB w wr)/\Hid (∃vs,eW w wr vs (sA ps k)/\(∀j,j<4->(vs j).ownBlock≠some b2/\(vs j).ownBlock≠some b4)/\wr.heap[b4]?=some (.cells (cO (lv:Int) vs (sA ps k)).toArray 104 (0,0)))/\Hid (wr.heap[b2]?=some (.cells dA.toArray 104 (0,0)))) (fun i _=>4-(intOf i).toNat)
 case atStart=>exact⟨0,by omega,rfl,HK0,O ⟨_,eW.zero w _,fun j hj=>⟨(by intro e;cases e),(by intro e;cases e)⟩,by rw[HB4.out,←HNZ.out];rfl⟩,HB2⟩
 case round =>
  obtain⟨k,hk,rfl,HK,HQ,HB2⟩:=hrel;obtain⟨vs,hnn_,hvo,hb4⟩:=HQ.out;have HNN:=O hnn_;have HVO:=O hvo;have HB4:=O hb4;clear hnn_ hvo hb4 HQ
  by_cases hk8:k<4
  ·have HCW:=O (fun j u h=>HK.out.cell (HC.out j u h) id)
   have HRO:=O (Kl (HSS.out k hk8) (HMY.out k hk8));have HL7:=O (H47.out k hk8);have hpk:=aO (v:=.slice none 0 0) (HSS.out k hk8);have HL:=O (Loc.nil aB aB wr);have HWS:=O HK.out.size;have hk0:(0:Int)≤(k:Int):=by omega
   have hk1:(k:Int)<4:=by omega
   have hca2:(256:Int)≤(ca:Int):=by omega
   clear hpk;go_wp2_with fail;refine(Ju wr _ (ptB (ps k)) (L3 (o:=o) (fun j u h=>HL.out.keep.cell (HCW.out j u h) id) (L4 lv ps H47.out hk8) HL7.out (by omega) (by omega) (by omega) (by unfold maxLen;omega)) HRO.out.1).mono ?_;rintro e w4 ⟨hk,hm⟩;rw[HRO.out.1,if_pos rfl,HRO.out.2] at hm;obtain⟨v1,rfl,ho⟩:=hm;have HPT:=O (show PtV w4 v1 (ps k) from⟨Rd.of_owns ho,(by rw[←HRO.out.2];exact Cu _ _),HSS.out k hk8⟩);have HNEW:Hid (mA w w4 v1):=O (fun i hi=>⟨by have:=aR ho hi;have:=HL.out.keep.size;have:=HWS.out;omega,by obtain⟨cur,hc⟩:=aL ho hi;exact⟨_,_,hc⟩⟩);have HOFF:Hid (v1.ownBlock≠some b2/\v1.ownBlock≠some b4):=O ⟨fun e=>by have:=aR ho e;have:=lt_of_block HB2.out;omega,fun e=>by have:=aR ho e;have:=lt_of_block HB4.out;omega⟩;have hpk:=aO (v:=v1) (HSS.out k hk8);obtain⟨pk,hpke⟩:∃l,aE v1 (ps k)=l:=⟨_,rfl⟩
   have HOK:Hid (∀u∈pk,u.oneCell'=true):=O (by rw[←hpke];exact bM HPT.out);have HPK:=O hpke;rw[hpke] at hpk ⊢;clear hpke ho;replace HL:=O (HL.out.keeps hk);replace HNN:=O (HNN.out.keep0 hk);replace HB4:=O (hk.blk HB4.out id);replace HB2:=O (hk.blk HB2.out id);clear hk;have HKR:=O HL.out.keep;replace HL:=O (Loc.nil aB aB w4);have HNN0:=HNN;have HB40:=HB4;have HB20:=HB2;have HPT0:=HPT;have HNEW0:=HNEW
   go_wp2_with ((with_reducible show WL _ _);refine alL HL 35 (.agg aK.toArray) (aK.toArray) bJ ?_)
   intro b6 w5 hk HL;replace HNN:=O (HNN.out.keep0 hk);replace HB4:=O (hk.blk HB4.out id);replace HB2:=O (hk.blk HB2.out id);replace HPT:=O (HPT.out.keep hk fun _ _=>id);replace HNEW:=O (mA.keep HNEW.out hk fun _ _=>id);clear hk
   go_wp2_with ((with_reducible show WL _ _);refine alL HL 219 (.agg #[.int .i64 0,.int .i64 0]) (#[.int .i64 0,.int .i64 0]) (O Eo) ?_)
   intro b7 w6 hk HL;replace HNN:=O (HNN.out.keep0 hk);replace HB4:=O (hk.blk HB4.out id);replace HB2:=O (hk.blk HB2.out id);replace HPT:=O (HPT.out.keep hk fun _ _=>id);replace HNEW:=O (mA.keep HNEW.out hk fun _ _=>id);clear hk
   go_wp2_with ((with_reducible show WL _ _);refine sta 35 (.tmp 6) (.tmp 33) b6 0 pk (HL.out.b 1) (by first|decide|(rw[hpk];exact Nat.le_refl _)|simp[hpk,aH]) (szP9 hpk) HOK.out ?_)
   intro w7 hk hb;rw[aG _ _ (by first|rfl|simp[hpk,aH])] at hb;replace HL:=O (HL.out.set 1 hk hb);replace HNN:=O (HNN0.out.keep0 HL.out.keep);replace HB4:=O (HL.out.keep.blk HB40.out id);replace HB2:=O (HL.out.keep.blk HB20.out id);replace HPT:=O (HPT0.out.keep HL.out.keep fun _ _=>id);replace HNEW:=O (mA.keep HNEW0.out HL.out.keep fun _ _=>id);clear hk hb
   go_wp2_with ((with_reducible show WL _ _);refine sta 219 (.tmp 7) (.tmp 34) b7 0 ([.int .i64 0,.int .i64 0]) (HL.out.b 0) (by first|decide|(rw[rfl];exact Nat.le_refl _)|simp[]) (by kernel_rfl) (by intro v hv;simp only[List.mem_cons,List.not_mem_nil,or_false] at hv;rcases hv with rfl|rfl<;>rfl) ?_)
   intro w8 hk hb;rw[aG _ _ (by first|rfl|simp[])] at hb;replace HL:=O (HL.out.set 0 hk hb);replace HNN:=O (HNN0.out.keep0 HL.out.keep);replace HB4:=O (HL.out.keep.blk HB40.out id);replace HB2:=O (HL.out.keep.blk HB20.out id);replace HPT:=O (HPT0.out.keep HL.out.keep fun _ _=>id);replace HNEW:=O (mA.keep HNEW0.out HL.out.keep fun _ _=>id);clear hk hb;have HB4b:=HB4;have c1:w8.cell? ⟨b7,0,none⟩=some (.int .i64 0):=(aC (i:=0) (HL.out.b 0) rfl)
   go_wp2_with ((with_reducible show WL _ _);first
    | refine wpList_load_mid rfl 35 (.tmp 6) rfl b6 0 rfl pk _ (aD (HL.out.b 1)) aJ rfl (szP9 hpk) ?_
    | refine sta 35 (.tmp 42) (.tmp 40) b4 (1+k*35) pk HB4b.out (by rw[List.size_toArray,gS (lv:Int) vs HNN.out.nv,hpk];omega) (szP9 hpk) HOK.out ?_)
   clear c1;intro w9 hk hb;rw[←HPK.out,MO HNN.out.nv (lv:Int) hk8 (HSS.out k hk8),←A7] at hb;have HK8:Hid (aA aB w w9):=O (((HK.out.trans HKR.out).trans HL.out.keep).trans' hk (fun _ _ h=>h) (fun i hi e=>by have:=HGE.out.2;omega));have HB8:Hid (w9.heap[b2]?=some (.cells dA.toArray 104 (0,0))):=O (hk.blk HB2.out HNE.out)
   have HQ8:Hid (∃vs,eW w w9 vs (sA ps (k+1))/\(∀j,j<4->(vs j).ownBlock≠some b2/\(vs j).ownBlock≠some b4)/\w9.heap[b4]?=some (.cells (cO (lv:Int) vs (sA ps (k+1))).toArray 104 (0,0))):=O ⟨rZ vs k v1,by
    rw[A7];refine eW.put (HNN.out.keep hk ?_) (HPT.out.keep hk fun i hi e=>HOFF.out.2 (e▸hi)) (HNEW.out.keep hk fun i hi e=>HOFF.out.2 (e▸hi));rintro i rfl ⟨-,j,hj,e⟩;exact(HVO.out j hj).2 e,fun j hj=>by
    by_cases e:j=k
    ·subst e;rw[Ai];exact HOFF.out
    ·rw[Aj _ _ e];exact HVO.out j hj,hb⟩
   clear hb hk HL HNN HB4 HB2 HPT HNEW HB4b HOFF;go_wp2_with fail
   go_roundw
   case rel=>exact⟨k+1,by omega,by go_num,HK8,HQ8,HB8⟩
   case measure=>simp[intOf];omega
  ·obtain rfl:k=4:=by omega
   have hps:∀j,j<4->sA ps 4 j=ps j:=fun j hj=>if_pos hj
   have hnde:cO (lv:Int) vs (sA ps 4)=cO (lv:Int) vs ps:=by unfold cO;rw[hps 0 (by omega),hps 1 (by omega),hps 2 (by omega),hps 3 (by omega)]
   replace HNN:Hid (eW w wr vs ps):=O (fun j hj=>by have:=HNN.out j hj;rw[hps j hj] at this;exact this);rw[hnde] at HB4;have hnn:=gS (lv:Int) vs HNN.out.nv;have HL:=O (Loc.nil aB aB wr);obtain⟨nn,hnne⟩:∃l,cO (lv:Int) vs ps=l:=⟨_,rfl⟩
   have HOF:Hid (∀u∈nn,u.oneCell'=true):=O (by rw[←hnne];exact dX (lv:Int) HNN.out.nv);have HNF:=O hnne;rw[hnne] at hnn HB4;have HRW:=O (HR0.out.keep HK.out fun _ _=>id);clear hps hnde hnne
   go_wp2_with ((with_reducible show WL _ _);refine wpList_load_mid rfl 104 (.tmp 4) rfl b4 0 rfl nn _ (aD HB4.out) Tryz.underlying104 rfl (by rw[hnn];exact dZ) ?_)
   refine((by rw[←HNF.out];exact A6 wr lv vs ps HNN.out.nv (by omega) (by omega) HF.out:Calls _ _ _ wr (uI wr lv ps))).mono ?_;rintro e wb ⟨v2,rfl,ho,hk⟩;obtain⟨qa,qc,rfl,-,-⟩:=(Rd.of_owns ho).form;rw[←Iu] at ho;have HO:=O ho;clear ho;replace HL:=O (HL.out.keeps hk);replace HNN:=O (HNN.out.keep0 hk);replace HB4:=O (hk.blk HB4.out id);replace HB2:=O (hk.blk HB2.out id);replace HRW:=O (HRW.out.keep hk fun _ _=>id);clear hk;go_wp2_with fail;refine(zS wb _ _ (nb lv ps) (nb lv ps) (by rw[HNL.out];exact Rd.of_owns HO.out) (by rw[HNL.out];exact HRW.out) true (decide_eq_true rfl)).mono ?_;rintro e wc ⟨rfl,rfl⟩;have HB2b:=HB2
   go_wp2_with ((with_reducible show WL _ _);first
    | refine wpList_load_mid rfl 104 (.tmp 4) rfl b4 0 rfl nn _ (aD HB4.out) Tryz.underlying104 rfl (by rw[hnn];exact dZ) ?_
    | refine sta 104 (.tmp 2) (.tmp 58) b2 0 nn HB2b.out (by rw[List.size_toArray,bS,hnn];omega) (by rw[hnn];exact dZ) HOF.out ?_)
   intro w9 hk hb;rw[aG _ _ (by rw[List.size_toArray,bS,hnn])] at hb;have HP:Hid (vQ w lv ps (.returned (.tuple #[.agg nn.toArray,.int .i64 0])) w9):=O ⟨vs,by rw[HNF.out],HNN.out.keep hk (by rintro i rfl ⟨-,j,hj,e⟩;exact(HVO.out j hj).1 e),(HK.out.trans HL.out.keep).trans' hk (fun _ _ h=>h) (fun i hi e=>by have:=HGE.out.1;omega)⟩;have HB9:=O hb;clear hb hk HL HNN HB4 HB2 HB2b HRW HO;go_wp2_with fail;refine bodyPost_ret (cC rfl _ _ b2 _ _ _ _ rfl HB9.out Tryz.underlying104 rfl (by rw[List.size_toArray,hnn];exact dZ)) rfl ?_;exact HP.out
def KI(w:World)(c:Nat)(S:Kor)(B:Nat->Prop):Prop:=
 S.Bd/\∃a m lb g b2 lc pid BA nw t,t.u.txg=S.txg/\iI w c a m lb g b2 lc pid S.cp t BA S.D S.Z S.M nw S.L/\B=fun k=>k=c\/k=m\/k=lb\/BA k\/Own g b2 lc S.D k\/t.Own k
theorem KI.bd{w:World}{c:Nat}{S:Kor}{B:Nat->Prop}(h:KI w c S B):S.Bd:=h.1
theorem KI.keepT{T:Nat->Prop}{w w':World}{c:Nat}{S:Kor}{B:Nat->Prop}(h:KI w c S B)(k:aA T w w')(hT:∀i,T i->¬B i):KI w' c S B:=by
 obtain⟨hb,a,m,lb,g,b2,lc,pid,BA,nw,t,htx,h1,rfl⟩:=h;refine⟨hb,a,m,lb,g,b2,lc,pid,BA,nw,t,htx,h1.keepT k (fun i e=>?_),rfl⟩;have:=hT i e;exact⟨fun e=>this (.inl e),fun e=>this (.inr (.inl e)),fun e=>this (.inr (.inr (.inl e))),fun e=>this (.inr (.inr (.inr (.inl e)))),fun e=>this (.inr (.inr (.inr (.inr (.inl e))))),fun e=>this (.inr (.inr (.inr (.inr (.inr e)))))⟩
theorem KI.keep0{w w':World}{c:Nat}{S:Kor}{B:Nat->Prop}(h:KI w c S B)(k:aA aB w w'):KI w' c S B:=h.keepT k fun _ e=>e.elim
theorem KI.lt{w:World}{c:Nat}{S:Kor}{B:Nat->Prop}(h:KI w c S B){k:Nat}(hk:B k):k<w.heap.size:=by
 obtain⟨hb,a,m,lb,g,b2,lc,pid,BA,nw,t,htx,h1,rfl⟩:=h;rcases hk with rfl|rfl|rfl|hk|hk|hk
 ·exact lt_of_block h1.cor.cor.top
 ·exact lt_of_block h1.cor.mir
 ·exact lt_of_block h1.cor.liv
 ·exact h1.lt (.inl hk)
 ·exact h1.lt (.inr hk)
 ·exact h1.cor.cor.lst.lt hk
theorem bI.isC{w:World}{a D Z nw:Nat}{B:Nat->Prop}{M:Nat->Nat->List UInt8}(h:bI w a B D Z M nw){k:Nat}(hk:B k):IsC w k:=by
 obtain⟨dv,dc,lv,st,f,F,W,h1,rfl,h3,h4⟩:=h;rcases hk with rfl|rfl|hk|⟨d,hd,rfl⟩
 ·exact⟨_,_,h1.top⟩
 ·obtain⟨cur,hc⟩:=aL h1.devs (k:=k) rfl
  exact⟨_,_,hc⟩
 ·obtain⟨cur,hc⟩:=aL h1.loose hk
  exact⟨_,_,hc⟩
 ·exact⟨_,_,h1.firm d hd⟩
theorem cP.isC{w w':World}{lo g b2 D Z:Nat}{lc:Nat->Option Nat}{L L':List Ad}(h:cP w lo g b2 lc D Z L)(h':cP w' lo g b2 lc D Z L'){k:Nat}(hk:Own g b2 lc D k):IsC w' k\/¬IsC w k:=by
 rcases hk with rfl|rfl|⟨d,hd,hc⟩
 ·exact .inl ⟨_,_,h'.top⟩
 ·obtain⟨cs,h1,-⟩:=h'.words.row
  exact .inl ⟨_,_,h1⟩
 ·right
  obtain⟨g',e1,s,r,h1⟩:=h.chans d hd;rw[hc] at e1;cases e1
  rintro⟨cs,t,h2⟩;rw[h1] at h2;cases h2
def Cl(w w':World)(B B':Nat->Prop):Prop:=∀k,B' k->IsC w' k\/(B k/\¬IsC w k)
theorem Cl.refl(w w':World)(B:Nat->Prop)(k:aA aB w w'):Cl w w' B B:=fun i hi=>by
 by_cases h:IsC w i
 ·obtain⟨cs,t,h⟩:=h
  exact .inl ⟨cs,t,k.blk h id⟩
 ·exact .inr ⟨hi,h⟩
theorem Cl.trans{w w1 w2:World}{B B1 B2:Nat->Prop}(h:Cl w w1 B B1)(k:Cl w1 w2 B1 B2):Cl w w2 B B2:=fun i hi=>by
 rcases k i hi with h1|⟨h1,h2⟩
 ·exact .inl h1
 ·rcases h i h1 with h3|h3
  ·exact absurd h3 h2
  ·exact .inr h3
structure aQ(w:World)(B:Nat->Prop)(v:Value)(p:Pt):Prop where
 pt:PtV w v p
 off:∀k,v.ownBlock=some k->¬B k/\IsC w k
theorem aQ.keep{w w':World}{B B':Nat->Prop}{v:Value}{p:Pt}(h:aQ w B v p)(k:aA B w w')(hB:∀k,B' k->B k\/w.heap.size≤k):aQ w' B' v p:=
 ⟨h.pt.keep k fun i hi=>(h.off i hi).1,fun i hi=>⟨fun e=>(hB i e).elim (h.off i hi).1 fun e=>by have:=(h.off i hi).2.lt;omega,(h.off i hi).2.keep k (h.off i hi).1⟩⟩
theorem aQ.keepT{T:Nat->Prop}{w w':World}{B:Nat->Prop}{v:Value}{p:Pt}(h:aQ w B v p)(k:aA T w w')(hT:∀i,v.ownBlock=some i->¬T i):aQ w' B v p:=
 ⟨h.pt.keep k hT,fun i hi=>⟨(h.off i hi).1,(h.off i hi).2.keep k (hT i hi)⟩⟩
theorem aQ.keep0{w w':World}{B:Nat->Prop}{v:Value}{p:Pt}(h:aQ w B v p)(k:aA aB w w'):aQ w' B v p:=h.keepT k fun _ _=>id
theorem aQ.hole(w:World)(B:Nat->Prop):aQ w B (.slice none 0 0) zPt:=⟨⟨Rd.nil w 2,fun x hx=>(by cases hx),rfl⟩,fun k hk=>by cases hk⟩
theorem yW{D Z:Nat}(h8:D≤8)(h4:Z≤4096):∀x,dW x D Z->eH x:=fun x ⟨h1,h2,h3,h5⟩=>⟨⟨by omega,by omega⟩,by omega,by omega⟩
theorem KI.get{w:World}{c:Nat}{S:Kor}{B:Nat->Prop}(h:KI w c S B){pv:Value}{p:Pt}(hp:PtV w pv p){lv:Nat}{b:List UInt8}(hg:jA S p lv b):Calls Tryz.prog 93 #[.pointer (some ⟨c,0,none⟩),.agg (aE pv p).toArray] w (fZ w b):=by
 obtain⟨hb,a,m,lb,g,b2,lc,pid,BA,nw,t,htx,h1,rfl⟩:=h;have hpl:∀x∈p.addrs,dW x S.D S.Z:=fun x hx=>(hg.lies x hx).1
 have h3:=(mO hg.may).1;cases ha:p.addrs with
 | nil=>exact absurd ha hg.ne
 | cons x r =>
   obtain⟨d,s,rfl,-,-,-⟩:=lH (hpl x (by rw[ha];exact List.mem_cons_self ..));have hM:S.M d s=b:=(hg.lies ⟨(d:Int),(s:Int)⟩ (by rw[ha];exact List.mem_cons_self ..)).2.2;have:=Ke h1.cor pv p hp hg.may hg.ne_hole hpl (by omega) ha (by rw[hM];exact hg.sum);rw[hM] at this;exact this
theorem KI.copies{w:World}{c:Nat}{S:Kor}{B:Nat->Prop}(h:KI w c S B):Calls Tryz.prog 25 #[.pointer (some ⟨c,0,none⟩)] w (aF w (.int .i64 (S.cp:Int))):=by
 obtain⟨hb,a,m,lb,g,b2,lc,pid,BA,nw,t,htx,h1,rfl⟩:=h;exact DQ h1.cor.cor
def Iv(w:World)(S:Kor)(e:Ending)(w':World):Prop:=∃N:Nat,S.room N/\e=.returned (.tuple #[.int .i64 (N:Int),.int .i64 0])/\aA aB w w'
theorem KI.rooms{w:World}{c:Nat}{S:Kor}{B:Nat->Prop}(h:KI w c S B):Calls Tryz.prog 8 #[.pointer (some ⟨c,0,none⟩)] w (Iv w S):=by
 obtain⟨hb,a,m,lb,g,b2,lc,pid,BA,nw,t,htx,h1,rfl⟩:=h;refine(Ik h1).mono fun e w' hm=>?_
 unfold dI at hm;rw[if_pos (wO (L:=S.L) h1.led.bd List.length_replicate hb.c1 hb.c3),Int.toNat_natCast] at hm;exact hm
def dR(w:World)(v:Value):Prop:=∀k,v.ownBlock=some k->w.heap.size≤k
def sB(w:World)(c:Nat)(B:Nat->Prop)(r:Option (Pt×Kor))(S:Kor)(e:Ending)(w':World):Prop:=
 match r with
 | none=>e=.returned (.tuple #[.agg (aE (.slice none 0 0) zPt).toArray,.int .i64 15])/\KI w' c S B/\aA aB w w'
 | some (p,T)=>∃v B',e=.returned (.tuple #[.agg (aE v p).toArray,.int .i64 0])/\aQ w' B' v p/\KI w' c T B'/\(∀k,B' k->B k\/w.heap.size≤k)/\Cl w w' B B'/\dR w v/\aA B w w'
theorem KI.put{w:World}{c:Nat}{S:Kor}{B:Nat->Prop}(h:KI w c S B){lv:Nat}(hlv:lv≤3){vv:Value}{bs:List UInt8}(hbl:bs.length=256)(hr:Rd w 1 vv 256 (bs.map vb))(hvb:∀i,vv.ownBlock=some i->¬B i):Calls Tryz.prog 90 #[.pointer (some ⟨c,0,none⟩),.int .i64 (lv:Int),vv] w (sB w c B (S.put lv bs) S):=by
 have hKI:=h;obtain⟨hb,a,m,lb,g,b2,lc,pid,BA,nw,t,htx,h1,rfl⟩:=h;have hvb2:∀i,vv.ownBlock=some i->¬BA i/\¬Own g b2 lc S.D i:=fun i hi=>⟨fun e=>hvb i hi (.inr (.inr (.inr (.inl e)))),fun e=>hvb i hi (.inr (.inr (.inr (.inr (.inl e)))))⟩
 cases hc:bT (bU S.L S.D S.Z) (List.replicate S.D true) S.cp with
 | none =>
   have e:S.put lv bs=none:=by unfold Kor.put Kor.allUp;rw[hc]
   rw[e];refine(LZ h1 (by rw[htx];exact⟨hb.t0,hb.t1⟩) lv hlv vv bs hbl hr hvb2 hc).mono ?_;rintro e w' ⟨rfl,hk⟩;exact⟨rfl,hKI.keep0 hk,hk⟩
 | some l =>
   have e:S.put lv bs=some (⟨bB S.L S.Z l,S.txg+1,(lv:Int),cS bs⟩,⟨S.D,S.Z,S.cp,S.L++bB S.L S.Z l,kQ bs (bB S.L S.Z l) S.M,S.txg⟩):=by unfold Kor.put Kor.allUp;rw[hc]
   have hg:=oZ hb hlv hbl e;rw[e];refine(Im h1 (by rw[htx];exact⟨hb.t0,hb.t1⟩) lv hlv vv bs hbl hr hvb2 (yW hb.d8 hb.z4) hc).mono ?_;rintro e w' ⟨v,B',rfl,ho,hI,hB,hv,hk⟩;have hge:∀k,v.ownBlock=some k->w.heap.size≤k:=fun k hk=>aR ho hk
   refine⟨v,fun k=>k=c\/k=m\/k=lb\/B' k\/Own g b2 lc S.D k\/t.Own k,by rw[htx],⟨⟨Rd.of_owns ho,fun x hx=>yW hb.d8 hb.z4 x (hg.1.lies x hx).1,hg.1.sl⟩,fun k hk2=>⟨?_,?_⟩⟩,⟨hg.2.2.1,a,m,lb,g,b2,lc,pid,B',nw+(bB S.L S.Z l).length,t,htx,hI,rfl⟩,?_,?_,hge,hk.mono fun k _ e=>.inr (.inr (.inr (e.imp id .inl)))⟩
   ·have h9:=hge k hk2
    rintro (rfl|rfl|rfl|e|e|e)
    ·have:=lt_of_block h1.cor.cor.top;omega
    ·have:=lt_of_block h1.cor.mir;omega
    ·have:=lt_of_block h1.cor.liv;omega
    ·exact(hv k hk2).1 e
    ·exact(hv k hk2).2 e
    ·have:=h1.cor.cor.lst.lt e;omega
   ·obtain⟨cur,hc⟩:=aL ho hk2
    exact⟨_,_,hc⟩
   ·rintro k (e|e|e|e|e|e)
    ·exact .inl (.inl e)
    ·exact .inl (.inr (.inl e))
    ·exact .inl (.inr (.inr (.inl e)))
    ·exact(hB k e).imp (fun h=>.inr (.inr (.inr (.inl h)))) id
    ·exact .inl (.inr (.inr (.inr (.inr (.inl e)))))
    ·exact .inl (.inr (.inr (.inr (.inr (.inr e)))))
   ·rintro k (rfl|rfl|rfl|e|e|e)
    ·exact .inl ⟨_,_,hI.cor.cor.top⟩
    ·exact .inl ⟨_,_,hI.cor.mir⟩
    ·exact .inl ⟨_,_,hI.cor.liv⟩
    ·exact .inl (hI.cor.arr.isC e)
    ·exact(h1.led.isC hI.led e).imp id fun h=>⟨.inr (.inr (.inr (.inr (.inl e)))),h⟩
    ·exact .inl (hI.cor.cor.lst.isc k e)
def Nn:Option (Pt×Kor)->Pt
 | none=>zPt
 | some x=>x.1
def No:Option (Pt×Kor)->Int
 | none=>15
 | some _=>0
def Np(S:Kor):Option (Pt×Kor)->Kor
 | none=>S
 | some x=>x.2
def L5(w:World)(c:Nat)(B:Nat->Prop)(p:Pt)(er:Int)(T:Kor)(e:Ending)(w':World):Prop:=
 ∃v B',e=.returned (.tuple #[.agg (aE v p).toArray,.int .i64 er])/\aQ w' B' v p/\KI w' c T B'/\(∀k,B' k->B k\/w.heap.size≤k)/\Cl w w' B B'/\dR w v/\aA B w w'
theorem sB.all{w w':World}{c:Nat}{B:Nat->Prop}{r:Option (Pt×Kor)}{S:Kor}{e:Ending}(h:sB w c B r S e w'):L5 w c B (Nn r) (No r) (Np S r) e w':=by
 cases r with
 | none =>
   obtain⟨h1,h2,h3⟩:=h;exact⟨_,B,h1,aQ.hole w' B,h2,fun k h=>.inl h,Cl.refl w w' B h3,(fun k hk=>by cases hk),h3.any⟩
 | some x=>exact h
def fI(w:World)(B:Nat->Prop)(vs:Nat->Value)(ps:Nat->Pt):Prop:=∀k,k<4->aQ w B (vs k) (ps k)
theorem fI.nv{w:World}{B:Nat->Prop}{vs:Nat->Value}{ps:Nat->Pt}(h:fI w B vs ps):eC w vs ps:=fun k hk=>(h k hk).pt
theorem fI.keep0{w w':World}{B:Nat->Prop}{vs:Nat->Value}{ps:Nat->Pt}(h:fI w B vs ps)(k:aA aB w w'):fI w' B vs ps:=fun i hi=>(h i hi).keep0 k
theorem fI.keep{w w':World}{B B':Nat->Prop}{vs:Nat->Value}{ps:Nat->Pt}(h:fI w B vs ps)(k:aA B w w')(hB:∀k,B' k->B k\/w.heap.size≤k):fI w' B' vs ps:=fun i hi=>(h i hi).keep k hB
theorem fI.hole(w:World)(B:Nat->Prop):fI w B (fun _=>.slice none 0 0) (fun _=>zPt):=fun _ _=>aQ.hole w B
def xC:Option Tr->Pt
 | none=>zPt
 | some t=>t.ptr
def Ak:Option Tr->Int
 | none=>15
 | some _=>0
def jG(w:World)(c:Nat)(B:Nat->Prop)(v0:Value)(r:Option Tr)(T:Kor)(e:Ending)(w':World):Prop:=
 ∃v B',e=.returned (.tuple #[.agg (aE v (xC r)).toArray,.int .i64 (Ak r)])/\aQ w' B' v (xC r)/\KI w' c T B'/\(∀k,B' k->B k\/w.heap.size≤k)/\Cl w w' B B'/\(v=v0\/dR w v)/\aA B w w'
theorem dR.from{w w1:World}{v:Value}(h:dR w1 v)(k:w.heap.size≤w1.heap.size):dR w v:=fun i hi=>Nat.le_trans k (h i hi)
theorem dR.nil(w:World):dR w (.slice none 0 0):=fun k hk=>by cases hk
theorem jG.from{w w1 w':World}{c:Nat}{B:Nat->Prop}{v0:Value}{r:Option Tr}{T:Kor}{e:Ending}(h:jG w1 c B v0 r T e w')(k:aA aB w w1):jG w c B v0 r T e w':=by
 obtain⟨v,B',h1,h2,h3,h4,h6,h7,h5⟩:=h;exact⟨v,B',h1,h2,h3,fun i hi=>(h4 i hi).imp id fun e=>Nat.le_trans k.size e,(Cl.refl w w1 B k).trans h6,h7.imp id fun h=>h.from k.size,k.any.trans h5⟩
theorem jG.hole{w w':World}{c:Nat}{B:Nat->Prop}{T:Kor}{v0:Value}(h:KI w' c T B)(k:aA aB w w'):jG w c B v0 (some .hole) T (.returned (.tuple #[.agg (aE (.slice none 0 0) zPt).toArray,.int .i64 0])) w':=
 ⟨_,B,rfl,aQ.hole w' B,h,fun _ h=>.inl h,Cl.refl w w' B k,.inr (dR.nil w),k.any⟩
theorem Tr.Ok.fit{S:Kor}{l:Nat}{t:Tr}(h:Tr.Ok S l t):Ag ((l:Int)+1) t.ptr:=by
 cases t with
 | hole=>exact .inl gP
 | leaf p b=>cases l with
   | zero=>exact .inr ⟨h.1.ne_hole,h.1.may,by have:=h.1.lev;show p.level=_;omega⟩
   | succ l=>exact h.elim
 | node p k=>cases l with
   | zero=>exact h.elim
   | succ l=>exact .inr ⟨h.1.ne_hole,h.1.may,by have:=h.1.lev;show p.level=_;omega⟩
theorem Iw(w:World)(l:Nat)(hl:l≤3):Calls Tryz.prog 69 #[.int .i64 (l:Int)] w (aF w (.int .i64 ((4 ^ l:Nat):Int))):=by
 have HL:=O (Loc.nil aB aB w);rcases l with _|_|_|_|l
 ·go_enter Tryz.func69,Tryz.ntmps69
  go_wp2_with fail;go_ret;exact aF.of HL.out.keep
 ·go_enter Tryz.func69,Tryz.ntmps69
  go_wp2_with fail;go_ret;exact aF.of HL.out.keep
 ·go_enter Tryz.func69,Tryz.ntmps69
  go_wp2_with fail;go_ret;exact aF.of HL.out.keep
 ·go_enter Tryz.func69,Tryz.ntmps69
  go_wp2_with fail;go_ret;exact aF.of HL.out.keep
 ·omega
theorem Iy{w:World}{c:Nat}{S:Kor}{B:Nat->Prop}(hK:KI w c S B):Calls Tryz.prog 95 #[.pointer (some ⟨c,0,none⟩)] w (aF w (.bool false)):=by
 have HK:=O hK;have hc0:((S.cp:Int) == 0)=false:=by rw[beq_eq_false_iff_ne];have:=hK.bd.c1;omega
 have hc1:decide (S.cp=0)=false:=by have:=hK.bd.c1;exact decide_eq_false (by omega)
 have HL:=O (Loc.nil aB aB w);clear hK;go_enter Tryz.func95,Tryz.ntmps95;go_wp2_with fail;refine(KI.copies HK.out).mono ?_;rintro e w1 ⟨rfl,hk⟩;replace HL:=O (HL.out.keeps hk);replace HK:=O (HK.out.keep0 hk);clear hk;go_wp2_with fail;go_ret;exact aF.of HL.out.keep
def Pt.root(p:Pt):Bool:=p.hole || (p.may && decide (p.level=3))
theorem DV(w:World)(pv:Value)(p:Pt)(hp:PtV w pv p)(hh:p.hole=true):Calls Tryz.prog 12 #[.agg (aE pv p).toArray] w (aF w (.int .i64 0)):=by
 have HH:=O hh;clear hh;have HPT:=O hp;obtain⟨pc,HPC,hpc,HOP⟩:=nmPt hp;rw[HPC.out];have HL:=O (Loc.nil aB aB w);clear hp;go_enter Tryz.func12,Tryz.ntmps12
 go_wp2_with ((with_reducible show WL _ _);refine bxL HL 35 (.tmp 0) (pc.toArray) ?_)
 intro b1 w1 hk HL;replace HPT:=O (HPT.out.keep hk fun _ _=>id);clear hk
 go_wp2_with ((with_reducible show WL _ _);refine wpList_load_mid rfl 35 (.tmp 1) rfl b1 0 rfl pc _ (aD (HL.out.b 0)) aJ rfl (szP9 hpc) ?_)
 refine((by rw[←HPC.out];exact cJ w1 pv p HPT.out:Calls _ _ _ w1 (aX w1 p.hole))).mono ?_;rintro e w2 ⟨rfl,hk⟩;replace HL:=O (HL.out.keeps hk);replace HPT:=O (HPT.out.keep hk fun _ _=>id);clear hk;rw[HH.out];go_wp2_with fail;go_ret;exact aF.of HL.out.keep
theorem Iz(w:World)(pv:Value)(p:Pt)(hp:PtV w pv p)(hh:p.hole=false)(hm:p.may=true)(hl:p.level=3):Calls Tryz.prog 12 #[.agg (aE pv p).toArray] w (aF w (.int .i64 0)):=by
 have HH:=O hh;have HM:=O hm;have HLV:=O hl;clear hh hm hl;have HPT:=O hp;obtain⟨pc,HPC,hpc,HOP⟩:=nmPt hp;rw[HPC.out];have HL:=O (Loc.nil aB aB w);clear hp;go_enter Tryz.func12,Tryz.ntmps12
 go_wp2_with ((with_reducible show WL _ _);refine bxL HL 35 (.tmp 0) (pc.toArray) ?_)
 intro b1 w1 hk HL;replace HPT:=O (HPT.out.keep hk fun _ _=>id);clear hk
 go_wp2_with ((with_reducible show WL _ _);refine wpList_load_mid rfl 35 (.tmp 1) rfl b1 0 rfl pc _ (aD (HL.out.b 0)) aJ rfl (szP9 hpc) ?_)
 refine((by rw[←HPC.out];exact cJ w1 pv p HPT.out:Calls _ _ _ w1 (aX w1 p.hole))).mono ?_;rintro e w2 ⟨rfl,hk⟩;replace HL:=O (HL.out.keeps hk);replace HPT:=O (HPT.out.keep hk fun _ _=>id);clear hk;rw[HH.out]
 go_wp2_with ((with_reducible show WL _ _);refine aY (by rfl) 35 (.tmp 1) rfl b1 0 rfl pc _ (aD (HL.out.b 0)) aJ rfl (szP9 hpc) ?_)
 refine((by rw[←HPC.out];exact jP w2 pv p HPT.out:Calls _ _ _ w2 (qS w2 p.may))).mono ?_;rintro e w3 ⟨rfl,hk⟩;replace HL:=O (HL.out.keeps hk);replace HPT:=O (HPT.out.keep hk fun _ _=>id);clear hk;rw[HM.out];rw[if_pos rfl];have c1:w3.cell? ⟨b1,2,none⟩=some (.int .i64 3):=(by have h:=(dY (v:=pv) (p:=p) (by rw[HPC.out];exact aD (HL.out.b 0))).2.2.1;rw[HLV.out] at h;exact h)
 go_wp2_with fail;clear c1;go_ret;exact aF.of HL.out.keep
theorem FQ(w:World)(pv:Value)(p:Pt)(hp:PtV w pv p)(hh:p.hole=false)(hm:p.may=true)(hl:¬p.level=3):Calls Tryz.prog 12 #[.agg (aE pv p).toArray] w (aF w (.int .i64 2)):=by
 have HH:=O hh;have HM:=O hm;clear hh hm;have HPT:=O hp;obtain⟨pc,HPC,hpc,HOP⟩:=nmPt hp;rw[HPC.out];have HL:=O (Loc.nil aB aB w);clear hp;go_enter Tryz.func12,Tryz.ntmps12
 go_wp2_with ((with_reducible show WL _ _);refine bxL HL 35 (.tmp 0) (pc.toArray) ?_)
 intro b1 w1 hk HL;replace HPT:=O (HPT.out.keep hk fun _ _=>id);clear hk
 go_wp2_with ((with_reducible show WL _ _);refine wpList_load_mid rfl 35 (.tmp 1) rfl b1 0 rfl pc _ (aD (HL.out.b 0)) aJ rfl (szP9 hpc) ?_)
 refine((by rw[←HPC.out];exact cJ w1 pv p HPT.out:Calls _ _ _ w1 (aX w1 p.hole))).mono ?_;rintro e w2 ⟨rfl,hk⟩;replace HL:=O (HL.out.keeps hk);replace HPT:=O (HPT.out.keep hk fun _ _=>id);clear hk;rw[HH.out]
 go_wp2_with ((with_reducible show WL _ _);refine aY (by rfl) 35 (.tmp 1) rfl b1 0 rfl pc _ (aD (HL.out.b 0)) aJ rfl (szP9 hpc) ?_)
 refine((by rw[←HPC.out];exact jP w2 pv p HPT.out:Calls _ _ _ w2 (qS w2 p.may))).mono ?_;rintro e w3 ⟨rfl,hk⟩;replace HL:=O (HL.out.keeps hk);replace HPT:=O (HPT.out.keep hk fun _ _=>id);clear hk;rw[HM.out];rw[if_pos rfl];have c1:w3.cell? ⟨b1,2,none⟩=some (.int .i64 p.level):=(dY (v:=pv) (p:=p) (by rw[HPC.out];exact aD (HL.out.b 0))).2.2.1;go_wp2_with fail;clear c1;go_ret;exact aF.of HL.out.keep
theorem kF(w:World)(pv:Value)(p:Pt)(hp:PtV w pv p)(h:p.root=true):Calls Tryz.prog 12 #[.agg (aE pv p).toArray] w (aF w (.int .i64 0)):=by
 unfold Pt.root at h;cases hh:p.hole with
 | true=>exact DV w pv p hp hh
 | false =>
   rw[hh,Bool.false_or,Bool.and_eq_true,decide_eq_true_eq] at h;exact Iz w pv p hp hh h.1 h.2
theorem FR{w:World}{c:Nat}{S:Kor}{B:Nat->Prop}(hK:KI w c S B)(pv:Value)(p:Pt)(hp:PtV w pv p)(h:p.root=true):Calls Tryz.prog 66 #[.pointer (some ⟨c,0,none⟩),.agg (aE pv p).toArray] w (aF w (.int .i64 0)):=by
 have HH:=O h;clear h;have HPT:=O hp;have HK:=O hK;obtain⟨pc,HPC,hpc,HOP⟩:=nmPt hp;rw[HPC.out];have HL:=O (Loc.nil aB aB w);clear hp hK;go_enter Tryz.func66,Tryz.ntmps66
 go_wp2_with ((with_reducible show WL _ _);refine bxL HL 35 (.tmp 1) (pc.toArray) ?_)
 intro b3 w1 hk HL;replace HPT:=O (HPT.out.keep hk fun _ _=>id);replace HK:=O (HK.out.keep0 hk);clear hk;go_wp2_with fail;refine(Iy HK.out).mono ?_;rintro e w2 ⟨rfl,hk⟩;replace HL:=O (HL.out.keeps hk);replace HPT:=O (HPT.out.keep hk fun _ _=>id);replace HK:=O (HK.out.keep0 hk);clear hk
 go_wp2_with ((with_reducible show WL _ _);refine wpList_load_mid rfl 35 (.tmp 3) rfl b3 0 rfl pc _ (aD (HL.out.b 0)) aJ rfl (szP9 hpc) ?_)
 refine((by rw[←HPC.out];exact kF w2 pv p HPT.out HH.out:Calls _ _ _ w2 (aF w2 (.int .i64 0)))).mono ?_;rintro e w3 ⟨rfl,hk⟩;replace HL:=O (HL.out.keeps hk);replace HPT:=O (HPT.out.keep hk fun _ _=>id);replace HK:=O (HK.out.keep0 hk);clear hk;go_wp2_with fail;go_ret;exact aF.of HL.out.keep
theorem DW{w:World}{c:Nat}(pv:Value)(p:Pt)(hp:PtV w pv p)(hh:p.hole=true):Calls Tryz.prog 70 #[.pointer (some ⟨c,0,none⟩),.agg (aE pv p).toArray] w (fZ w zB):=by
 have HH:=O hh;clear hh;have HPT:=O hp;obtain⟨pc,HPC,hpc,HOP⟩:=nmPt hp;rw[HPC.out];have HL:=O (Loc.nil aB aB w);clear hp;go_enter Tryz.func70,Tryz.ntmps70
 go_wp2_with ((with_reducible show WL _ _);refine bxL HL 35 (.tmp 1) (pc.toArray) ?_)
 intro b3 w1 hk HL;replace HPT:=O (HPT.out.keep hk fun _ _=>id);clear hk
 go_wp2_with ((with_reducible show WL _ _);refine wpList_load_mid rfl 35 (.tmp 3) rfl b3 0 rfl pc _ (aD (HL.out.b 0)) aJ rfl (szP9 hpc) ?_)
 refine((by rw[←HPC.out];exact cJ w1 pv p HPT.out:Calls _ _ _ w1 (aX w1 p.hole))).mono ?_;rintro e w2 ⟨rfl,hk⟩;replace HL:=O (HL.out.keeps hk);replace HPT:=O (HPT.out.keep hk fun _ _=>id);clear hk;rw[HH.out]
 go_wp2_with ((with_reducible show WL _ _);refine mkz (.const (.int .i64 256)) (.const (.int .i64 256)) ?_)
 intro b8 w3 hbs hk hb;replace HL:=O (HL.out.new (fun _ h=>h.elim) hbs hk hb);replace HPT:=O (HPT.out.keep hk fun _ _=>id);clear hbs hk hb;go_wp2_with fail
 go_ret2
 exact⟨_,rfl,xB (HL.out.b 0) rfl (HL.out.lt 0).1,HL.out.keep⟩
theorem FS{w:World}{c:Nat}{S:Kor}{B:Nat->Prop}(hK:KI w c S B)(pv:Value)(p:Pt)(hp:PtV w pv p){lv:Nat}{bs:List UInt8}(hg:jA S p lv bs):Calls Tryz.prog 70 #[.pointer (some ⟨c,0,none⟩),.agg (aE pv p).toArray] w (fZ w bs):=by
 have HH:=O hg.ne_hole;have HG:=O hg;have HK:=O hK;have HPT:=O hp;obtain⟨pc,HPC,hpc,HOP⟩:=nmPt hp;rw[HPC.out];have HL:=O (Loc.nil aB aB w);clear hp hg hK;go_enter Tryz.func70,Tryz.ntmps70
 go_wp2_with ((with_reducible show WL _ _);refine bxL HL 35 (.tmp 1) (pc.toArray) ?_)
 intro b3 w1 hk HL;replace HPT:=O (HPT.out.keep hk fun _ _=>id);replace HK:=O (HK.out.keep0 hk);clear hk
 go_wp2_with ((with_reducible show WL _ _);refine wpList_load_mid rfl 35 (.tmp 3) rfl b3 0 rfl pc _ (aD (HL.out.b 0)) aJ rfl (szP9 hpc) ?_)
 refine((by rw[←HPC.out];exact cJ w1 pv p HPT.out:Calls _ _ _ w1 (aX w1 p.hole))).mono ?_;rintro e w2 ⟨rfl,hk⟩;replace HL:=O (HL.out.keeps hk);replace HPT:=O (HPT.out.keep hk fun _ _=>id);replace HK:=O (HK.out.keep0 hk);clear hk;rw[HH.out]
 go_wp2_with ((with_reducible show WL _ _);refine wpList_load_mid rfl 35 (.tmp 3) rfl b3 0 rfl pc _ (aD (HL.out.b 0)) aJ rfl (szP9 hpc) ?_)
 have HSZ:=O HL.out.keep.size;refine((by rw[←HPC.out];exact KI.get HK.out HPT.out HG.out:Calls _ _ _ w2 (fZ w2 bs))).mono ?_;rintro e w3 ⟨v1,rfl,ho,hk⟩;obtain⟨va,vc,rfl,-,-⟩:=(Rd.of_owns ho).form;have HO:=O (aP ho HSZ.out);clear ho;replace HL:=O (HL.out.keeps hk);replace HPT:=O (HPT.out.keep hk fun _ _=>id);replace HK:=O (HK.out.keep0 hk);clear hk;go_wp2_with fail
 go_ret2
 exact⟨_,rfl,HO.out,HL.out.keep⟩
theorem iJ(w:World):(Instr.build 35 #[]).run Tryz.prog w=.ok (.agg (aE (.slice none 0 0) zPt).toArray) w:=by kernel_rfl
def fU(w:World)(B:Nat->Prop)(l:Nat)(t:Tr)(e:Ending)(w':World):Prop:=
 ∃vs,e=.returned (.tuple #[.agg (cO ((l+1:Nat):Int) vs (fun i=>(t.kid i).ptr)).toArray,.int .i64 0])/\fI w' B vs (fun i=>(t.kid i).ptr)/\(∀q,q<4->dR w (vs q))/\aA aB w w'
theorem FT{w:World}{c:Nat}{B:Nat->Prop}(pv:Value)(hp:PtV w pv zPt)(l:Nat):Calls Tryz.prog 97 #[.pointer (some ⟨c,0,none⟩),.agg (aE pv zPt).toArray,.int .i64 ((l+1:Nat):Int)] w (fU w B l .hole):=by
 obtain⟨p,hpz⟩:∃p,zPt=p:=⟨_,rfl⟩
 have HH:Hid (p.hole=true):=O (by rw[←hpz];exact gP);rw[hpz] at hp ⊢;have HPT:=O hp;obtain⟨pc,HPC,hpc,HOP⟩:=nmPt hp;rw[HPC.out];have hnz:(cO ((l+1:Nat):Int) (fun _=>.slice none 0 0) (fun _=>zPt)).length=141:=rfl;have hbn:=uT ((l+1:Nat):Int);obtain⟨nz,hnze⟩:∃x,cO ((l+1:Nat):Int) (fun _=>.slice none 0 0) (fun _=>zPt)=x:=⟨_,rfl⟩
 have HOZ:Hid (∀u∈nz,u.oneCell'=true):=O (by rw[←hnze];exact dX (w:=w) _ fun _ _=>mB w);have HNZ:=O hnze;rw[hnze] at hnz hbn;have HBN:=O hbn;obtain⟨lv,hlv⟩:∃x,((l+1:Nat):Int)=x:=⟨_,rfl⟩
 rw[hlv] at HBN ⊢;have HL:=O (Loc.nil aB aB w);clear hp hnze hbn hpz hlv;have HPT0:=HPT;go_enter Tryz.func97,Tryz.ntmps97
 go_wp2_with ((with_reducible show WL _ _);refine bxL HL 35 (.tmp 1) (pc.toArray) ?_)
 intro b4 w1 hk HL;replace HPT:=O (HPT.out.keep hk fun _ _=>id);clear hk
 go_wp2_with ((with_reducible show WL _ _);refine alL HL 104 (.agg dA.toArray) (dA.toArray) jD ?_)
 intro b6 w2 hk HL;replace HPT:=O (HPT.out.keep hk fun _ _=>id);clear hk
 go_wp2_with ((with_reducible show WL _ _);refine wpList_load_mid rfl 35 (.tmp 4) rfl b4 0 rfl pc _ (aD (HL.out.b 1)) aJ rfl (szP9 hpc) ?_)
 refine((by rw[←HPC.out];exact cJ w2 pv p HPT.out:Calls _ _ _ w2 (aX w2 p.hole))).mono ?_;rintro e w3 ⟨rfl,hk⟩;replace HL:=O (HL.out.keeps hk);replace HPT:=O (HPT.out.keep hk fun _ _=>id);clear hk;rw[HH.out]
 go_wp2_with ((with_reducible show WL _ _);first
  | refine bld 104 #[(0,.tmp 14)] [(0,.int .i64 lv)] (.agg nz.toArray) HBN.out ?_
  | refine sta 104 (.tmp 6) (.tmp 15) b6 0 nz (HL.out.b 0) (by first|decide|(rw[hnz];exact Nat.le_refl _)|simp[hnz,bS]) (by rw[hnz];exact dZ) HOZ.out ?_)
 intro w4 hk hb;rw[aG _ _ (by first|rfl|simp[hnz,bS])] at hb;replace HL:=O (HL.out.set 0 hk hb);replace HPT:=O (HPT0.out.keep HL.out.keep fun _ _=>id);clear hk hb;have HB6:=O (HL.out.b 0);have HKE:=O HL.out.keep;clear HL HPT;go_wp2_with fail;refine bodyPost_ret (cC rfl _ _ b6 _ _ _ _ rfl HB6.out Tryz.underlying104 rfl (by rw[List.size_toArray,hnz];exact dZ)) rfl ?_;exact⟨fun _=>.slice none 0 0,(by rw[←HNZ.out];rfl),fI.hole _ B,fun _ _=>dR.nil w,HKE.out⟩
theorem NO{ps:Nat->Pt}(lv:Nat)(h:∀k,k<4->(ps k).may=true):nb lv ps=cY lv [ps 0,ps 1,ps 2,ps 3]:=by
 unfold nb lY cY ptB;simp[List.range_succ,h 0 (by omega),h 1 (by omega),h 2 (by omega),h 3 (by omega)]
theorem Tr.Ok.nb_eq{S:Kor}{l:Nat}{k:Nat->Tr}(lv:Nat)(h:∀i,i<4->Tr.Ok S l (k i)):nb lv (fun i=>(k i).ptr)=cY lv (fO k):=
 Go.Proofs.YthihofpfonfjfaaGreatDoor.NO lv fun i hi=>((h i hi).fit).elim oU fun h=>h.2.1
theorem eW.nval{w w':World}{B:Nat->Prop}{vs:Nat->Value}{ps:Nat->Pt}(h:eW w w' vs ps)(hB:∀k,B k->k<w.heap.size):fI w' B vs ps:=fun k hk =>
 ⟨(h k hk).1,fun i hi=>⟨fun e=>by have:=hB i e;have:=((h k hk).2 i hi).1;omega,((h k hk).2 i hi).2⟩⟩
theorem FU{w:World}{c:Nat}{S:Kor}{B:Nat->Prop}(hK:KI w c S B)(pv:Value)(p:Pt)(hp:PtV w pv p)(l:Nat)(hl:l≤2)(k:Nat->Tr)(hg:jA S p (l+1) (cY (l+1) (fO k)))(hk4:∀i,i<4->Tr.Ok S l (k i)):Calls Tryz.prog 97 #[.pointer (some ⟨c,0,none⟩),.agg (aE pv p).toArray,.int .i64 ((l+1:Nat):Int)] w (fU w B l (.node p k)):=by
 have HH:Hid (p.hole=false):=O hg.ne_hole;have HPT:=O hp;have HK:=O hK;have HG:=O hg;have HK4:=O hk4;have HBLT:=O (fun i (e:B i)=>hK.lt e);obtain⟨pc,HPC,hpc,HOP⟩:=nmPt hp;rw[HPC.out];have HNB:Hid (cY (l+1) (fO k)=nb (l+1) (fun i=>(k i).ptr)):=O (Tr.Ok.nb_eq (l+1) hk4).symm;have hlv0:0≤((l+1:Nat):Int):=by omega
 have HL:=O (Loc.nil aB aB w);clear hp hg hk4 hK;go_enter Tryz.func97,Tryz.ntmps97
 go_wp2_with ((with_reducible show WL _ _);refine bxL HL 35 (.tmp 1) (pc.toArray) ?_)
 intro b4 w1 hk HL;replace HPT:=O (HPT.out.keep hk fun _ _=>id);replace HK:=O (HK.out.keep0 hk);clear hk
 go_wp2_with ((with_reducible show WL _ _);refine alL HL 104 (.agg dA.toArray) (dA.toArray) jD ?_)
 intro b6 w2 hk HL;replace HPT:=O (HPT.out.keep hk fun _ _=>id);replace HK:=O (HK.out.keep0 hk);clear hk
 go_wp2_with ((with_reducible show WL _ _);refine wpList_load_mid rfl 35 (.tmp 4) rfl b4 0 rfl pc _ (aD (HL.out.b 1)) aJ rfl (szP9 hpc) ?_)
 refine((by rw[←HPC.out];exact cJ w2 pv p HPT.out:Calls _ _ _ w2 (aX w2 p.hole))).mono ?_;rintro e w3 ⟨rfl,hk⟩;replace HL:=O (HL.out.keeps hk);replace HPT:=O (HPT.out.keep hk fun _ _=>id);replace HK:=O (HK.out.keep0 hk);clear hk;rw[HH.out]
 go_wp2_with ((with_reducible show WL _ _);refine wpList_load_mid rfl 35 (.tmp 4) rfl b4 0 rfl pc _ (aD (HL.out.b 1)) aJ rfl (szP9 hpc) ?_)
 refine((by rw[←HPC.out];exact KI.get HK.out HPT.out HG.out:Calls _ _ _ w3 (fZ w3 (cY (l+1) (fO k))))).mono ?_;rintro e w4 ⟨v1,rfl,ho,hk⟩;rw[HNB.out] at ho;obtain⟨va,vc,rfl,-,-⟩:=(Rd.of_owns ho).form;have HO:=O ho;clear ho;replace HL:=O (HL.out.keeps hk);replace HPT:=O (HPT.out.keep hk fun _ _=>id);replace HK:=O (HK.out.keep0 hk);clear hk;go_wp2_with fail;have HSZ:=O HL.out.keep.size;have HL6:=O (HL.out.lt 0).2;refine((vR w4 (.slice va 256 vc) (l+1) (fun i=>(k i).ptr) (by omega) (by omega) (fun i hi=>(HK4.out i hi).sl) (fun i hi=>by have:=(HK4.out i hi).fit;exact this) (Rd.of_owns HO.out))).mono ?_;rintro e w5 ⟨vs,rfl,hvs,hk⟩;have HV6:=O (fun j (hj:j<4) i (hi:(vs j).ownBlock=some i) (e:i=b6)=>by have h1:=((hvs j hj).2 i hi).1;have h2:=HL6.out;omega:∀j,j<4->∀i,(vs j).ownBlock=some i->¬i=b6);have HNB2:=O (fun q (hq:q<4) i (hi:(vs q).ownBlock=some i)=>by have:=((hvs q hq).2 i hi).1;have:=HSZ.out;omega:∀q,q<4->dR w (vs q));have HNN:=O (hvs.nval (B:=B) (fun i e=>by have:=HBLT.out i e;have:=HSZ.out;omega));have hnn:=gS ((l+1:Nat):Int) vs hvs.nv;have HOF0:=dX ((l+1:Nat):Int) hvs.nv;obtain⟨nn,hnne⟩:∃x,cO ((l+1:Nat):Int) vs (fun i=>(k i).ptr)=x:=⟨_,rfl⟩
 have HOF:Hid (∀u∈nn,u.oneCell'=true):=O (by rw[←hnne];exact HOF0);have HNF:=O hnne;rw[hnne] at hnn ⊢;clear HOF0 hnne hvs;replace HL:=O (HL.out.keeps hk);replace HPT:=O (HPT.out.keep hk fun _ _=>id);replace HK:=O (HK.out.keep0 hk);replace HO:=O (hk.owns HO.out fun _ _=>id);clear hk;have HKR:=O HL.out.keep;have HB6:=O (HL.out.b 0);have HG6:=O (HL.out.lt 0);replace HL:=O (Loc.nil aB aB w5);have HNN0:=HNN;have HB60:=HB6;clear HPT HK HO
 go_wp2_with ((with_reducible show WL _ _);refine al 104 (.agg dA.toArray) (dA.toArray) jD ?_)
 intro b10 w6 hbs hk0 hb0_
 go_wp2_with ((with_reducible show WL _ _);refine sta 104 (.tmp 10) (.tmp 29) b10 0 nn hb0_ (by first|decide|(rw[List.size_toArray,hnn];exact Nat.le_refl _)|simp[hnn,bS]) (by rw[hnn];exact dZ) HOF.out ?_)
 intro w7 hk hb;rw[aG _ _ (by first|rfl|(rw[List.size_toArray,hnn];rfl)|simp[hnn,bS])] at hb;replace hk:=hk0.trans' hk (U:=aB) (fun _ _ h=>h) (fun i hi e=>by omega);replace HL:=O (HL.out.new (fun _ h=>h.elim) hbs hk hb);replace HNN:=O (fI.keep0 HNN.out hk);replace HB6:=O (hk.blk HB6.out id);clear hbs hk hb hk0 hb0_;have c1:w7.cell? ⟨b10,0,none⟩=some (.int .i64 ((l+1:Nat):Int)):=aC (i:=0) (HL.out.b 0) (by rw[←HNF.out];rfl)
 go_wp2_with ((with_reducible show WL _ _);first
  | refine wpList_load_mid rfl 104 (.tmp 10) rfl b10 0 rfl nn _ (aD (HL.out.b 0)) Tryz.underlying104 rfl (by rw[hnn];exact dZ) ?_
  | refine sta 104 (.tmp 6) (.tmp 40) b6 0 nn HB6.out (by rw[List.size_toArray,bS,hnn];omega) (by rw[hnn];exact dZ) HOF.out ?_)
 clear c1;intro w9 hk hb;rw[aG _ _ (by rw[List.size_toArray,bS,hnn])] at hb;have HP:Hid (fU w B l (.node p k) (.returned (.tuple #[.agg nn.toArray,.int .i64 0])) w9):=O ⟨vs,by rw[←HNF.out];rfl,fun i hi=>(HNN.out i hi).keepT hk (fun j hj e=>HV6.out i hi j hj e),HNB2.out,(HKR.out.trans HL.out.keep).trans' hk (fun _ _ h=>h) (fun i hi e=>by have:=HG6.out.1;omega)⟩;have HB9:=O hb;clear hb hk HL HNN HB6;go_wp2_with fail;refine bodyPost_ret (cC rfl _ _ b6 _ _ _ _ rfl HB9.out Tryz.underlying104 rfl (by rw[List.size_toArray,hnn];exact dZ)) rfl ?_;exact HP.out
theorem IA{w:World}{c:Nat}{S:Kor}{B:Nat->Prop}(hK:KI w c S B){l:Nat}(hl:l≤2)(pv:Value)(t:Tr)(ht:Tr.Ok S (l+1) t)(hp:PtV w pv t.ptr):Calls Tryz.prog 97 #[.pointer (some ⟨c,0,none⟩),.agg (aE pv t.ptr).toArray,.int .i64 ((l+1:Nat):Int)] w (fU w B l t):=by
 cases t with
 | hole=>exact FT pv hp l
 | leaf p b=>exact ht.elim
 | node p k=>exact FU hK pv p hp l hl k ht.1 ht.2.1
theorem MP:zB.length=256:=rfl
theorem Tr.Ok.root{S:Kor}{t:Tr}(h:Tr.Ok S 3 t):t.ptr.root=true:=by
 unfold Pt.root;cases t with
 | hole=>rw[show Tr.hole.ptr.hole=true from gP];rfl
 | leaf p b=>exact h.elim
 | node p k =>
   have h1:p.may=true:=h.1.may;have h2:p.level=3:=h.1.lev;show (p.hole || (p.may && decide (p.level=3)))=true;rw[h1,h2];simp
theorem FV{w:World}{c:Nat}{S:Kor}{B:Nat->Prop}(hK:KI w c S B)(pv:Value)(t:Tr)(ht:Tr.Ok S 0 t)(hp:PtV w pv t.ptr)(i:Nat):Calls Tryz.prog 70 #[.pointer (some ⟨c,0,none⟩),.agg (aE pv t.ptr).toArray] w (fZ w (t.blk 0 i)):=by
 cases t with
 | hole=>exact DW pv zPt hp gP
 | leaf p b=>exact FS hK pv p hp ht.1
 | node p k=>exact ht.elim
def eX{α:Type}(f:α->Tr->Nat->α):Nat->α->Tr->α
 | l,a,.hole=>f a .hole l
 | 0,a,.leaf p b=>f a (.leaf p b) 0
 | 0,a,.node p k=>a
 | l+1,a,.leaf p b=>a
 | l+1,a,.node p k=>eX f l (eX f l (eX f l (eX f l a (k 0)) (k 1)) (k 2)) (k 3)
def oF{α:Type}(f:α->Tr->Nat->α)(l:Nat)(k:Nat->Tr)(a:α):Nat->α
 | 0=>a
 | i+1=>eX f l (oF f l k a i) (k i)
theorem A8{α:Type}(f:α->Tr->Nat->α){S:Kor}{l:Nat}{t:Tr}(h:Tr.Ok S l t)(h2:l=0\/t.isHole=true)(a:α):eX f l a t=f a t l:=by
 cases t with
 | hole=>cases l<;>rfl
 | leaf p b =>
    rcases h2 with rfl|h2
    ·rfl
    ·cases h2
 | node p k =>
    rcases h2 with rfl|h2
    ·exact h.elim
    ·cases h2
theorem qU{α:Type}{f:α->Tr->Nat->α}{P:α->Prop}(hPm:∀a t l,P (f a t l)->P a):∀(l:Nat) (a:α) (t:Tr),P (eX f l a t)->P a
 | 0,a,.hole,h=>hPm _ _ _ h
 | _+1,a,.hole,h=>hPm _ _ _ h
 | 0,a,.leaf p b,h=>hPm _ _ _ h
 | 0,a,.node p k,h=>h
 | l+1,a,.leaf p b,h=>h
 | l+1,a,.node p k,h=>qU hPm l _ _ (qU hPm l _ _ (qU hPm l _ _ (qU hPm l _ _ h)))
theorem EC{α:Type}{f:α->Tr->Nat->α}{P:α->Prop}(hPm:∀a t l,P (f a t l)->P a)(l:Nat)(k:Nat->Tr)(a:α):∀(j i:Nat),i≤j->P (oF f l k a j)->P (oF f l k a i)
 | 0,i,hi,h=>by
    obtain rfl:i=0:=by omega
    exact h
 | j+1,i,hi,h=>by
   by_cases e:i=j+1
   ·subst e;exact h
   ·exact EC hPm l k a j i (by omega) (qU hPm l _ _ h)
def Off(w:World)(J:Nat->Prop)(k:Nat):Prop:=¬J k/\k<w.heap.size
theorem Off.keep{w w':World}{J J':Nat->Prop}{k:Nat}(h:Off w J k)(kp:aA J w w')(hJ:∀k,J' k->J k\/w.heap.size≤k):Off w' J' k:=
 ⟨fun e=>(hJ k e).elim h.1 fun e=>by have:=h.2;omega,by have:=h.2;have:=kp.size;omega⟩
structure Yld{α:Type}(I:α->(Nat->Prop)->World->Prop):Prop where
 keep:∀a J w w',I a J w->aA aB w w'->I a J w'
 lt:∀a J w k,I a J w->J k->k<w.heap.size
def cL{α:Type}(I:α->(Nat->Prop)->World->Prop)(w:World)(J:Nat->Prop)(a:α)(e:Ending)(w':World):Prop:=
 e=.returned (.int .i64 0)/\∃J',I a J' w'/\(∀k,J' k->J k\/w.heap.size≤k)/\aA J w w'
def FW{α:Type}(I:α->(Nat->Prop)->World->Prop)(f:α->Tr->Nat->α)(P:α->Prop)(S:Kor)(c:Nat)(B:Nat->Prop)(G:Nat)(fr:Array Value):Prop:=
 ∀(a:α) (J:Nat->Prop) (w:World) (pv:Value) (t:Tr) (l:Nat),I a J w->KI w c S B->(∀k,B k->¬J k)->l≤3->(l=0\/t.isHole=true)->Tr.Ok S l t->aQ w J pv t.ptr->P (f a t l)->Calls Tryz.prog G (#[.agg (aE pv t.ptr).toArray,.int .i64 (l:Int)]++fr) w (cL I w J (f a t l))
theorem cL.trans{α:Type}{I:α->(Nat->Prop)->World->Prop}{w w1 w':World}{J J1:Nat->Prop}{a:α}{e:Ending}(h:cL I w1 J1 a e w')(hJ:∀k,J1 k->J k\/w.heap.size≤k)(k:aA J w w1):cL I w J a e w':=by
 obtain⟨h1,J',h2,h3,h4⟩:=h;refine⟨h1,J',h2,fun i hi=>?_,k.trans' h4 (fun _ _ h=>h) fun i hi e=>(hJ i e).elim id fun h=>by omega⟩;rcases h3 i hi with h|h
 ·exact hJ i h
 ·exact .inr (Nat.le_trans k.size h)
structure VCl(w:World)(J:Nat->Prop)(b5 b3 b7 c:Nat)(G:Nat)(fr:Array Value):Prop where
 y:w.heap[b5]?=some (.cells #[.func (.func G) #[] fr] 121 (0,0))
 c:w.heap[b3]?=some (.cells #[.pointer (some ⟨c,0,none⟩)] 25 (0,0))
 d:w.heap[b7]?=some (.cells #[.func (.func 96) #[] #[.pointer (some ⟨b5,0,none⟩),.pointer (some ⟨b3,0,none⟩),.pointer (some ⟨b7,0,none⟩)]] 121 (0,0))
 o5:Off w J b5
 o3:Off w J b3
 o7:Off w J b7
theorem VCl.keep{w w':World}{J J':Nat->Prop}{b5 b3 b7 c G:Nat}{fr:Array Value}(h:VCl w J b5 b3 b7 c G fr)(k:aA J w w')(hJ:∀k,J' k->J k\/w.heap.size≤k):VCl w' J' b5 b3 b7 c G fr:=
 ⟨k.blk h.y h.o5.1,k.blk h.c h.o3.1,k.blk h.d h.o7.1,h.o5.keep k hJ,h.o3.keep k hJ,h.o7.keep k hJ⟩
theorem VCl.keep0{w w':World}{J:Nat->Prop}{b5 b3 b7 c G:Nat}{fr:Array Value}(h:VCl w J b5 b3 b7 c G fr)(k:aA aB w w'):VCl w' J b5 b3 b7 c G fr:=h.keep k.any fun _ h=>.inl h
theorem Dc{α:Type}{I:α->(Nat->Prop)->World->Prop}(hI:Yld I){f:α->Tr->Nat->α}{P:α->Prop}(hPm:∀a t l,P (f a t l)->P a){S:Kor}{c:Nat}{B:Nat->Prop}{G:Nat}{fr:Array Value}(eg:∀args w,(callFunc G args).run Tryz.prog w=.ok (.enter G args) w)(hY:FW I f P S c B G fr){b5 b3 b7:Nat}(a:α)(J:Nat->Prop)(w:World)(pv:Value)(t:Tr)(l:Nat)(hi:I a J w)(hK:KI w c S B)(hBJ:∀k,B k->¬J k)(hl:l≤3)(h0:l=0\/t.isHole=true)(ht:Tr.Ok S l t)(hp:aQ w J pv t.ptr)(hv:VCl w J b5 b3 b7 c G fr)(hP:P (f a t l)):Calls Tryz.prog 96 #[.agg (aE pv t.ptr).toArray,.int .i64 (l:Int),.pointer (some ⟨b5,0,none⟩),.pointer (some ⟨b3,0,none⟩),.pointer (some ⟨b7,0,none⟩)] w (cL I w J (f a t l)):=by
 have HYI:=O hI;have HYC:=O hY;have HI:=O hi;have HK:=O hK;have HBJ:=O hBJ;have HT:=O ht;have HV:=O hv;have H0:=O h0;have HPP:=O hP;clear hP hPm;have HPT:=O hp;obtain⟨p,hpe⟩:∃p,t.ptr=p:=⟨_,rfl⟩
 have HPE:=O hpe;rw[hpe] at HPT hp ⊢;obtain⟨pc,HPC,hpc,HOP⟩:=nmPt hp.pt;rw[HPC.out];have HL:=O (Loc.nil aB aB w);have hll:0≤(l:Int):=by omega
 clear hp hpe hi hK hBJ ht hv h0
 by_cases hz:l=0
 ·subst hz
  go_enter Tryz.func96,Tryz.ntmps96
  go_wp2_with ((with_reducible show WL _ _);refine bxL HL 35 (.tmp 0) (pc.toArray) ?_)
  intro b55 w1 hk HL;replace HPT:=O (aQ.keep0 HPT.out hk);replace HK:=O (HK.out.keep0 hk);replace HI:=O (HYI.out.keep _ _ _ _ HI.out hk);replace HV:=O (VCl.keep0 HV.out hk);clear hk;have c1:w1.cell? ⟨b5,0,none⟩=some (.func (.func G) #[] fr):=(aC (i:=0) HV.out.y rfl)
  go_wp2_with ((with_reducible show WL _ _);refine wpList_load_mid rfl 35 (.tmp 5) rfl b55 0 rfl pc _ (aD (HL.out.b 0)) aJ rfl (szP9 hpc) ?_)
  clear c1;have HC:=(HYC.out a J w1 pv t 0 HI.out HK.out HBJ.out (by omega) (.inl rfl) HT.out (by rw[HPE.out];exact HPT.out) HPP.out:Calls _ _ _ w1 (cL I w1 J (f a t 0)))
  rw[HPE.out,HPC.out] at HC;refine HC.mono ?_;rintro e w9 hm;have HP:=O (hm.trans (J:=J) (w:=w) (fun k h=>.inl h) HL.out.keep.any);obtain⟨rfl,-⟩:=hm;clear HC HL HPT HK HI HV;go_wp2_with fail;go_ret;exact HP.out
 ·have hz2:((l:Int) == 0)=false:=by rw[beq_eq_false_iff_ne];omega
  have hz3:decide (l=0)=false:=decide_eq_false hz;have HH:Hid (p.hole=true):=O (by rw[←HPE.out,HT.out.hole_eq];exact H0.out.resolve_left hz);clear hz;go_enter Tryz.func96,Tryz.ntmps96
  go_wp2_with ((with_reducible show WL _ _);refine bxL HL 35 (.tmp 0) (pc.toArray) ?_)
  intro b55 w1 hk HL;replace HPT:=O (aQ.keep0 HPT.out hk);replace HK:=O (HK.out.keep0 hk);replace HI:=O (HYI.out.keep _ _ _ _ HI.out hk);replace HV:=O (VCl.keep0 HV.out hk);clear hk
  go_wp2_with ((with_reducible show WL _ _);refine aY (by rfl) 35 (.tmp 5) rfl b55 0 rfl pc _ (aD (HL.out.b 0)) aJ rfl (szP9 hpc) ?_)
  refine((by rw[←HPC.out];exact cJ w1 pv p HPT.out.pt:Calls _ _ _ w1 (aX w1 p.hole))).mono ?_;rintro e w2 ⟨rfl,hk⟩;replace HL:=O (HL.out.keeps hk);replace HPT:=O (aQ.keep0 HPT.out hk);replace HK:=O (HK.out.keep0 hk);replace HI:=O (HYI.out.keep _ _ _ _ HI.out hk);replace HV:=O (VCl.keep0 HV.out hk);clear hk;rw[HH.out];have c1:w2.cell? ⟨b5,0,none⟩=some (.func (.func G) #[] fr):=(aC (i:=0) HV.out.y rfl)
  go_wp2_with ((with_reducible show WL _ _);refine wpList_load_mid rfl 35 (.tmp 5) rfl b55 0 rfl pc _ (aD (HL.out.b 0)) aJ rfl (szP9 hpc) ?_)
  clear c1;have HC:=(HYC.out a J w2 pv t l HI.out HK.out HBJ.out (by omega) H0.out HT.out (by rw[HPE.out];exact HPT.out) HPP.out:Calls _ _ _ w2 (cL I w2 J (f a t l)))
  rw[HPE.out,HPC.out] at HC;refine HC.mono ?_;rintro e w9 hm;have HP:=O (hm.trans (J:=J) (w:=w) (fun k h=>.inl h) HL.out.keep.any);obtain⟨rfl,-⟩:=hm;clear HC HL HPT HK HI HV;go_wp2_with fail;go_ret;exact HP.out
def KY{α:Type}(I:α->(Nat->Prop)->World->Prop)(w:World)(J:Nat->Prop)(a:α)(w':World):Prop:=∃J',I a J' w'/\(∀k,J' k->J k\/w.heap.size≤k)/\aA J w w'
theorem Km{α:Type}{I:α->(Nat->Prop)->World->Prop}(hI:Yld I){f:α->Tr->Nat->α}{P:α->Prop}(hPm:∀a t l,P (f a t l)->P a){S:Kor}{c:Nat}{B:Nat->Prop}{G:Nat}{fr:Array Value}(eg:∀args w,(callFunc G args).run Tryz.prog w=.ok (.enter G args) w)(hY:FW I f P S c B G fr){b5 b3 b7:Nat}:∀(l:Nat),l≤3->∀(a:α) (J:Nat->Prop) (w:World) (pv:Value) (t:Tr),I a J w->KI w c S B->(∀k,B k->¬J k)->Tr.Ok S l t->aQ w J pv t.ptr->VCl w J b5 b3 b7 c G fr->P (eX f l a t)->Calls Tryz.prog 96 #[.agg (aE pv t.ptr).toArray,.int .i64 (l:Int),.pointer (some ⟨b5,0,none⟩),.pointer (some ⟨b3,0,none⟩),.pointer (some ⟨b7,0,none⟩)] w (cL I w J (eX f l a t)):=by
 intro l
 induction l with
 | zero =>
   intro hl a J w pv t hi hK hBJ ht hp hv hP;rw[A8 f ht (.inl rfl)] at hP ⊢;exact Dc hI hPm eg hY a J w pv t 0 hi hK hBJ hl (.inl rfl) ht hp hv hP
 | succ l ih =>
   intro hl a J w pv t hi hK hBJ ht hp hv hP;cases hh:t.isHole with
   | true =>
     rw[A8 f ht (.inr hh)] at hP ⊢;exact Dc hI hPm eg hY a J w pv t (l+1) hi hK hBJ hl (.inr hh) ht hp hv hP
   | false =>
     have hfold:eX f (l+1) a t=oF f l t.kid a 4:=by
      cases t with
      | hole=>cases hh
      | leaf p b=>exact ht.elim
      | node p k=>rfl
     rw[hfold] at hP ⊢;have HPK:=O (fun i (hi:i≤4)=>EC hPm l t.kid a 4 i hi hP);have HIH:=O (ih (by omega));have HYI:=O hI;have HYC:=O hY;have HI:=O hi;have HK:=O hK;have HBJ:=O hBJ;have HT:=O ht;have HV:=O hv;have HPT:=O hp;have hl2:l≤2:=by omega
     obtain⟨p,hpe⟩:∃p,t.ptr=p:=⟨_,rfl⟩
     have HPE:=O hpe;rw[hpe] at HPT hp ⊢;have HH:Hid (p.hole=false):=O (by rw[←hpe,ht.hole_eq];exact hh);obtain⟨pc,HPC,hpc,HOP⟩:=nmPt hp.pt;rw[HPC.out];have HLX:=O (fun k (e:J k)=>HYI.out.lt _ _ _ _ HI.out e);have HL:=O (Loc.nil aB aB w);have hll:0≤((l+1:Nat):Int):=by omega
     have hl0:(0:Int)≤(l:Int):=by omega
     have hz2:(((l:Int)+1) == 0)=false:=by rw[beq_eq_false_iff_ne];omega
     clear hp hpe hi hK hBJ ht hv hh hfold ih hP hPm;go_enter Tryz.func96,Tryz.ntmps96
     go_wp2_with ((with_reducible show WL _ _);refine bxL HL 35 (.tmp 0) (pc.toArray) ?_)
     intro b55 w1 hk HL;replace HPT:=O (aQ.keep0 HPT.out hk);replace HK:=O (HK.out.keep0 hk);replace HI:=O (HYI.out.keep _ _ _ _ HI.out hk);replace HV:=O (VCl.keep0 HV.out hk);clear hk
     go_wp2_with ((with_reducible show WL _ _);refine aY (by rfl) 35 (.tmp 5) rfl b55 0 rfl pc _ (aD (HL.out.b 0)) aJ rfl (szP9 hpc) ?_)
     refine((by rw[←HPC.out];exact cJ w1 pv p HPT.out.pt:Calls _ _ _ w1 (aX w1 p.hole))).mono ?_;rintro e w2 ⟨rfl,hk⟩;replace HL:=O (HL.out.keeps hk);replace HPT:=O (aQ.keep0 HPT.out hk);replace HK:=O (HK.out.keep0 hk);replace HI:=O (HYI.out.keep _ _ _ _ HI.out hk);replace HV:=O (VCl.keep0 HV.out hk);clear hk;rw[HH.out];have c1:w2.cell? ⟨b3,0,none⟩=some (.pointer (some ⟨c,0,none⟩)):=(aC (i:=0) HV.out.c rfl)
     go_wp2_with ((with_reducible show WL _ _);refine wpList_load_mid rfl 35 (.tmp 5) rfl b55 0 rfl pc _ (aD (HL.out.b 0)) aJ rfl (szP9 hpc) ?_)
     clear c1;have HLW:=O (fun k (e:J k)=>HYI.out.lt _ _ _ _ HI.out e);refine((by rw[←HPC.out,←HPE.out];exact IA HK.out hl2 pv t HT.out (by rw[HPE.out];exact HPT.out.pt):Calls _ _ _ w2 (fU w2 B l t))).mono ?_;rintro e w3 ⟨vs,rfl,hvs,hnew,hk⟩;have HNN:Hid (fI w3 J vs (fun i=>(t.kid i).ptr)):=O (fun q hq=>⟨(hvs q hq).pt,fun i hi=>⟨fun e=>by have:=hnew q hq i hi;have:=HLW.out i e;omega,((hvs q hq).off i hi).2⟩⟩);have hnn:=gS ((l+1:Nat):Int) vs hvs.nv;have HOF0:=dX ((l+1:Nat):Int) hvs.nv;obtain⟨nn,hnne⟩:∃x,cO ((l+1:Nat):Int) vs (fun i=>(t.kid i).ptr)=x:=⟨_,rfl⟩
     have HOF:Hid (∀u∈nn,u.oneCell'=true):=O (by rw[←hnne];exact HOF0);have HNF:=O hnne;rw[hnne] at hnn ⊢;clear HOF0 hnne hvs hnew;replace HL:=O (HL.out.keeps hk);replace HPT:=O (aQ.keep0 HPT.out hk);replace HK:=O (HK.out.keep0 hk);replace HI:=O (HYI.out.keep _ _ _ _ HI.out hk);replace HV:=O (VCl.keep0 HV.out hk);clear hk
     go_wp2_with ((with_reducible show WL _ _);refine al 104 (.agg dA.toArray) (dA.toArray) jD ?_)
     intro b8 w4 hbs hk0 hb0_
     go_wp2_with ((with_reducible show WL _ _);refine sta 104 (.tmp 8) (.tmp 26) b8 0 nn hb0_ (by first|decide|(rw[List.size_toArray,hnn];exact Nat.le_refl _)|simp[hnn,bS]) (by rw[hnn];exact dZ) HOF.out ?_)
     intro w5 hk hb;rw[aG _ _ (by first|rfl|(rw[List.size_toArray,hnn];rfl)|simp[hnn,bS])] at hb;replace hk:=hk0.trans' hk (U:=aB) (fun _ _ h=>h) (fun i hi e=>by omega);replace HL:=O (HL.out.new (fun _ h=>h.elim) hbs hk hb);replace HPT:=O (aQ.keep0 HPT.out hk);replace HK:=O (HK.out.keep0 hk);replace HI:=O (HYI.out.keep _ _ _ _ HI.out hk);replace HV:=O (VCl.keep0 HV.out hk);replace HNN:=O (fI.keep0 HNN.out hk);clear hbs hk hb hk0 hb0_;go_wp2_with fail;have HB8:=O (HL.out.b 0);have HG8:=O (HL.out.lt 0);have HJ8:=O (fun k (e:J k)=>HLW.out k e);have HO8:Hid (Off w5 J b8):=O ⟨fun e=>by have:=HLX.out _ e;have:=HG8.out.1;omega,HG8.out.2⟩;have HKW:=O HL.out.keep;obtain⟨W0,hW0⟩:∃W,w5=W:=⟨_,rfl⟩
     rw[hW0] at HI HK HV HNN HB8 HO8 HKW ⊢;clear HL HPT hW0
     go_loopw [9,10] (fun e i wr=>∃k:Nat,k≤4/\i=.int .i64 k/\e=.int .i64 0/\Hid (KY I W0 J (oF f l t.kid a k) wr)) (fun _ i _=>4-(intOf i).toNat)
     case atStart=>exact⟨0,by omega,rfl,rfl,O ⟨J,HI.out,fun k h=>.inl h,aA.refl _ _⟩⟩
     case round =>
      obtain⟨k,hk,rfl,rfl,HD⟩:=hrel;obtain⟨J2,hi2,hJ2,hk2⟩:=HD.out;have HI2:=O hi2;have HJ2:=O hJ2;have HK2:=O hk2;have HKI2:=O (HK.out.keepT hk2 (fun i e hb=>HBJ.out i hb e));have HBJ2:=O (fun i (hb:B i) (e:J2 i)=>show False from(hJ2 i e).elim (HBJ.out i hb) fun h=>by have:=HK.out.lt hb;omega);have HV2:=O (HV.out.keep hk2 hJ2);have HB82:=O (hk2.blk HB8.out HO8.out.1);have HO82:=O (HO8.out.keep hk2 hJ2);have HNN2:=O (HNN.out.keep hk2 hJ2);clear hi2 hJ2 hk2 HD
      by_cases hk8:k<4
      ·have hk0:(0:Int)≤(k:Int):=by omega
       have hk1:(k:Int)<4:=by omega
       have HQV:=O (HNN2.out k hk8);have hqc:=aO (v:=vs k) HQV.out.pt.sum;have HOQ0:=bM HQV.out.pt;have HX0:=wX HNN2.out.nv (by rw[HNF.out];exact aD HB82.out) hk8;obtain⟨qc,hqce⟩:∃x,aE (vs k) ((t.kid k).ptr)=x:=⟨_,rfl⟩
       have HOQ:Hid (∀u∈qc,u.oneCell'=true):=O (by rw[←hqce];exact HOQ0);have HQC:=O hqce;rw[hqce] at hqc HX0;have HX:=O HX0;have HL:=O (Loc.nil J2 J2 wr);clear hqce HOQ0 HX0;go_wp2_with fail;obtain⟨S,hS0⟩:∃S:World->Prop,S=fun w'=>aA J2 wr.drew w':=⟨_,rfl⟩
       have HSE:=O (show ∀w',S w'->aA J2 wr.drew w' from fun w' h=>by rw[hS0] at h;exact h);have HSI:=O (show ∀w',aA J2 wr.drew w'->S w' from fun w' h=>by rw[hS0];exact h);have hS:S wr.drew:=by rw[hS0];exact aA.refl _ _
       have hkd:=(aA.refl aB wr).drew;clear hS0;refine wp_region_held (S:=S) (by kernel_rfl) ?_;change wpAnyH _ _ _ _ _ _ _ _ wr.drew;generalize wr.drew=w7 at HSE HSI hS hkd ⊢;replace HL:=O (HL.out.keeps hkd);replace HI2:=O (HYI.out.keep _ _ _ _ HI2.out hkd);replace HKI2:=O (HKI2.out.keep0 hkd);replace HV2:=O (VCl.keep0 HV2.out hkd);replace HX:=O (hkd.rangeAt HX.out);replace HQV:=O (aQ.keep0 HQV.out hkd);clear hkd;have HLs:=HL;have HI2s:=HI2;have HKI2s:=HKI2;have HV2s:=HV2;have HXs:=HX;have HQVs:=HQV;refine tnd 0 (.func (.func 96) #[] #[.pointer (some ⟨b5,0,none⟩),.pointer (some ⟨b3,0,none⟩),.pointer (some ⟨b7,0,none⟩)]) rfl (.inl ⟨by rfl,fun w' hw'=>by have c:World.cell? w' ⟨b7,0,none⟩=some (.func (.func 96) #[] #[.pointer (some ⟨b5,0,none⟩),.pointer (some ⟨b3,0,none⟩),.pointer (some ⟨b7,0,none⟩)]):=(HSE.out w' hw').cell (cell_of_one HV2s.out.d) HV2s.out.o7.1;go_simp⟩) hS ?_;refine tna 1 (.int .i64 (k:Int)) rfl hS ?_;refine tnb 2 (.pointer (some ⟨b8,1,none⟩)) rfl hS ?_;refine tnd 3 (.pointer (some ⟨b8,1+k*35,none⟩)) rfl (.inl ⟨by rfl,fun _ _=>by go_simp<;>omega⟩) hS ?_;refine tnd 4 (.agg qc.toArray) rfl (yieldsIf_load_mid (by rfl) 35 (.tmp 39) rfl b8 (1+k*35) rfl qc _ (fun w' h=>(HSE.out w' h).rangeAt2 HXs.out HO82.out.1) aJ rfl (szP9 hqc)) hS ?_;refine tna 5 (.int .i64 ((l+1:Nat):Int)) rfl hS ?_;refine tnd 6 (.int .i64 (l:Int)) rfl (.inl ⟨by rfl,fun _ _=>by go_simp;exact IntWalk.i64_in _ (by omega)⟩) hS ?_;refine wA9 7 ?_;go_wp2_with fail;refine((by rw[←HQC.out];exact HIH.out (oF f l t.kid a k) J2 w7 (vs k) (t.kid k) HI2.out HKI2.out HBJ2.out (HT.out.kid hk8) HQV.out HV2.out (HPK.out (k+1) (by omega)):Calls _ _ _ w7 (cL I w7 J2 (eX f l (oF f l t.kid a k) (t.kid k))))).mono ?_;rintro e w8 hm;have hmk:aA J2 w7 w8:=by obtain⟨-,J3,-,-,h⟩:=hm;exact h
       have HM:Hid (cL I wr J2 (oF f l t.kid a (k+1)) e w8):=O (hm.trans (w:=wr) (J:=J2) (fun k h=>.inl h) HL.out.keep);obtain⟨rfl,-⟩:=hm;have hS1:=HSI.out _ ((HSE.out _ hS).trans hmk);clear hS hmk HL HI2 HKI2 HV2 HX HQV;go_wp2_with fail;refine⟨hS1,?_⟩;refine tna 8 (.int .i64 0) rfl hS1 ?_;refine wpAnyH_done (by kernel_rfl) ?_ _;clear hS1 HSE HSI HLs HI2s HKI2s HV2s HXs HQVs
       have HE:Hid (KY I W0 J (oF f l t.kid a (k+1)) w8):=O (by
        obtain⟨-,J3,h1,h2,h3⟩:=HM.out;exact⟨J3,h1,fun i hi=>(h2 i hi).elim (HJ2.out i) (fun h=>.inr (Nat.le_trans HK2.out.size h)),HK2.out.trans' h3 (fun _ _ h=>h) (fun i hi e=>(HJ2.out i e).elim id fun h=>by omega)⟩)
       clear HM HK2 HJ2 HB82 HNN2;go_wp2_with fail
       go_roundw
       case rel=>exact⟨k+1,by omega,by go_num,rfl,HE⟩
       case measure=>simp[intOf];omega
      ·obtain rfl:k=4:=by omega
       go_wp2_with fail;go_ret;exact⟨rfl,J2,HI2.out,fun i hi=>(HJ2.out i hi).imp id (fun h=>Nat.le_trans HKW.out.size h),HKW.out.any.trans' HK2.out (fun _ _ h=>h) (fun _ _ h=>h)⟩
theorem Nq:Hid (∀w,(zeroValue 121).run Tryz.prog w=.ok .nilFunc w):=O fun w=>by kernel_rfl
theorem FX{α:Type}{I:α->(Nat->Prop)->World->Prop}(hI:Yld I){f:α->Tr->Nat->α}{P:α->Prop}(hPm:∀a t l,P (f a t l)->P a){S:Kor}{c:Nat}{B:Nat->Prop}{G:Nat}{fr:Array Value}(eg:∀args w,(callFunc G args).run Tryz.prog w=.ok (.enter G args) w)(hY:FW I f P S c B G fr)(a:α)(J:Nat->Prop)(w:World)(pv:Value)(t:Tr)(hi:I a J w)(hK:KI w c S B)(hBJ:∀k,B k->¬J k)(ht:Tr.Ok S 3 t)(hp:aQ w J pv t.ptr)(hP:P (eX f 3 a t)):Calls Tryz.prog 67 #[.pointer (some ⟨c,0,none⟩),.agg (aE pv t.ptr).toArray,.func (.func G) #[] fr] w (cL I w J (eX f 3 a t)):=by
 have HDN:=O (fun b5 b3 b7=>Km (b5:=b5) (b3:=b3) (b7:=b7) hI hPm eg hY 3 (by omega) a J);have HYI:=O hI;have HI:=O hi;have HK:=O hK;have HBJ:=O hBJ;have HT:=O ht;have HPP:=O hP;have HPT:=O hp;have HLX:=O (fun k (e:J k)=>HYI.out.lt _ _ _ _ HI.out e);obtain⟨p,hpe⟩:∃p,t.ptr=p:=⟨_,rfl⟩
 have HPE:=O hpe;rw[hpe] at HPT hp ⊢;obtain⟨pc,HPC,hpc,HOP⟩:=nmPt hp.pt;rw[HPC.out];have HL:=O (Loc.nil aB aB w);clear hp hpe hi hK hBJ ht hP hPm;have HPT0:=HPT;have HK0:=HK;have HI0:=HI;go_enter Tryz.func67,Tryz.ntmps67
 go_wp2_with ((with_reducible show WL _ _);refine bxL HL 25 (.tmp 0) (#[.pointer (some ⟨c,0,none⟩)]) ?_)
 intro b3 w1 hk HL;replace HPT:=O (aQ.keep0 HPT.out hk);replace HK:=O (HK.out.keep0 hk);replace HI:=O (HYI.out.keep _ _ _ _ HI.out hk);clear hk
 go_wp2_with ((with_reducible show WL _ _);refine bxL HL 35 (.tmp 1) (pc.toArray) ?_)
 intro b4 w2 hk HL;replace HPT:=O (aQ.keep0 HPT.out hk);replace HK:=O (HK.out.keep0 hk);replace HI:=O (HYI.out.keep _ _ _ _ HI.out hk);clear hk
 go_wp2_with ((with_reducible show WL _ _);refine bxL HL 121 (.tmp 2) (#[.func (.func G) #[] fr]) ?_)
 intro b5 w3 hk HL;replace HPT:=O (aQ.keep0 HPT.out hk);replace HK:=O (HK.out.keep0 hk);replace HI:=O (HYI.out.keep _ _ _ _ HI.out hk);clear hk
 go_wp2_with ((with_reducible show WL _ _);refine alL HL 121 (.nilFunc) (#[.nilFunc]) Nq ?_)
 intro b7 w4 hk HL;replace HPT:=O (aQ.keep0 HPT.out hk);replace HK:=O (HK.out.keep0 hk);replace HI:=O (HYI.out.keep _ _ _ _ HI.out hk);clear hk
 go_wp2_with ((with_reducible show WL _ _);refine sta 121 (.tmp 7) (.tmp 8) b7 0 ([.func (.func 96) #[] #[.pointer (some ⟨b5,0,none⟩),.pointer (some ⟨b3,0,none⟩),.pointer (some ⟨b7,0,none⟩)]]) (HL.out.b 0) (by simp) (by kernel_rfl) (one9) ?_)
 intro w5 hk hb;replace hb:w5.heap[b7]?=some (.cells #[.func (.func 96) #[] #[.pointer (some ⟨b5,0,none⟩),.pointer (some ⟨b3,0,none⟩),.pointer (some ⟨b7,0,none⟩)]] 121 (0,0)):=hb;replace HL:=O (HL.out.set 0 hk hb);replace HPT:=O (aQ.keep0 HPT0.out HL.out.keep);replace HK:=O (HK0.out.keep0 HL.out.keep);replace HI:=O (HYI.out.keep _ _ _ _ HI0.out HL.out.keep);clear hk hb;have HV:=O (VCl.mk (J:=J) (HL.out.b 1) (HL.out.b 3) (HL.out.b 0) ⟨fun e=>by have:=HLX.out _ e;have:=(HL.out.lt 1).1;omega,(HL.out.lt 1).2⟩ ⟨fun e=>by have:=HLX.out _ e;have:=(HL.out.lt 3).1;omega,(HL.out.lt 3).2⟩ ⟨fun e=>by have:=HLX.out _ e;have:=(HL.out.lt 0).1;omega,(HL.out.lt 0).2⟩:VCl w5 J b5 b3 b7 c G fr);have HB7:=O (cell_of_one (HL.out.b 0));have c1:w5.cell? ⟨b7,0,none⟩=some (.func (.func 96) #[] #[.pointer (some ⟨b5,0,none⟩),.pointer (some ⟨b3,0,none⟩),.pointer (some ⟨b7,0,none⟩)]):=HB7.out
 go_wp2_with ((with_reducible show WL _ _);refine wpList_load_mid rfl 35 (.tmp 4) rfl b4 0 rfl pc _ (aD (HL.out.b 2)) aJ rfl (szP9 hpc) ?_)
 clear c1;have HC:=(HDN.out b5 b3 b7 w5 pv t HI.out HK.out HBJ.out HT.out (by rw[HPE.out];exact HPT.out) HV.out HPP.out:Calls _ _ _ w5 (cL I w5 J (eX f 3 a t)))
 rw[HPE.out,HPC.out] at HC;refine HC.mono ?_;rintro e w9 hm;have HP:=O (hm.trans (J:=J) (w:=w) (fun k h=>.inl h) HL.out.keep.any);obtain⟨rfl,-⟩:=hm;clear HC HL HPT HK HI HV HB7;go_wp2_with fail;go_ret;exact HP.out
theorem KZ{W:World}{l:Nat}{o:Obj}(ho:W.heap[l]?=some o)(hc:o.isCells=false){i:Nat}(h:IsC W i):¬(some l=some i):=fun e=>by
 obtain⟨cs,t,h⟩:=h;injection e with e
 rw[←e,ho] at h;injection h with h
 rw[h] at hc;cases hc
open Go.RowKit Go.Maps Go.ChangeMaps
set_option maxRecDepth 100000
theorem Tr.Ok.blk_len{S:Kor}:∀{l:Nat}{t:Tr},Tr.Ok S l t->∀(i:Nat),(t.blk l i).length=256
 | l,.hole,h,i=>by rw[Tr.blk_hole];exact MP
 | 0,.leaf p b,h,i=>h.1.len
 | 0,.node p k,h,i=>h.elim
 | l+1,.leaf p b,h,i=>h.elim
 | l+1,.node p k,h,i=>(h.2.1 _ (tW i l)).blk_len i
theorem Loc.wide{S B:Nat->Prop}{w0 w:World}{l:List (Nat×Array Value×TypeId)}(h:Loc aB aB w0 w l)(hB:∀k,B k->k<w0.heap.size):Loc S B w0 w l:=
 ⟨h.keep.any,h.ge,h.nd,h.at_,fun x hx e=>by have:=h.ge x hx;have:=hB _ e;omega⟩
theorem aQ.grow{W0 W:World}{B0 B' T:Nat->Prop}{v:Value}{p:Pt}(h:aQ W0 B0 v p)(k:aA (fun i=>B0 i\/T i) W0 W)(hb:∀i,v.ownBlock=some i->¬T i)(hB:∀i,B' i->B0 i\/W0.heap.size≤i):aQ W B' v p:=
 ⟨h.pt.keep k fun i hi e=>e.elim (h.off i hi).1 (hb i hi),fun i hi=>⟨fun e=>(hB i e).elim (h.off i hi).1 fun e=>by have:=(h.off i hi).2.lt;omega,(h.off i hi).2.keep k fun e=>e.elim (h.off i hi).1 (hb i hi)⟩⟩
theorem fI.keepT{T:Nat->Prop}{w w':World}{B:Nat->Prop}{vs:Nat->Value}{ps:Nat->Pt}(h:fI w B vs ps)(k:aA T w w')(hT:∀q,q<4->∀i,(vs q).ownBlock=some i->¬T i):fI w' B vs ps:=fun q hq=>(h q hq).keepT k (hT q hq)
theorem Cl.onT{T:Nat->Prop}{w w1 w2:World}{B B':Nat->Prop}(h:Cl w w1 B B')(k:aA T w1 w2)(hT:∀i,B' i->¬T i):Cl w w2 B B':=fun i hi=>(h i hi).imp (fun c=>c.keep k (hT i hi)) id
theorem IB(f:Nat->Value)(d n c s l:Int):Tryz.prog.built 130 [(0,.agg ((List.range 32).map f).toArray),(1,.int .i64 d),(2,.int .i64 n),(3,.int .i64 c),(4,.int .i64 s),(5,.int .i64 l)]=some ((List.range 32).map f++([.int .i64 d,.int .i64 n,.int .i64 c,.int .i64 s,.int .i64 l]:List Value)).toArray:=by kernel_rfl
theorem IC(L:Lab)(h:L.pool.length=32)(w:World):(Instr.build 130 #[(0,.agg (L.pool.map vb).toArray),(1,.int .i64 L.dev),(2,.int .i64 L.devs),(3,.int .i64 L.copies),(4,.int .i64 L.sectors),(5,.int .i64 L.life)]).run Tryz.prog w=.ok (.agg L.cells.toArray) w:=by
 refine run_build w 130 _ _ ?_;unfold Lab.cells Lab.nums;rw[EA (L.pool.map vb) (by rw[List.length_map,h])];exact IB _ _ _ _ _ _
def gU(b:List UInt8)(Mm:Nat->Nat->List UInt8)(d:Nat):Nat->Nat->Nat->List UInt8
 | 0=>Mm
 | k+1=>iF (gU b Mm d k) d k (if k=0 then b else zB)
theorem ID(b:List UInt8)(Mm:Nat->Nat->List UInt8)(d:Nat):iF Mm d 0 b=gU b Mm d 1:=rfl
theorem FY(b:List UInt8)(Mm:Nat->Nat->List UInt8)(d:Nat){k:Nat}(hk:0<k):iF (gU b Mm d k) d k zB=gU b Mm d (k+1):=by
 show _=iF (gU b Mm d k) d k (if k=0 then b else zB);rw[if_neg (by omega)]
theorem yX(b:List UInt8)(Mm:Nat->Nat->List UInt8)(d:Nat):∀k,0<k->gU b Mm d k d 0=b
 | 1,_=>by show iF Mm d 0 b d 0=b;unfold iF;rw[if_pos ⟨rfl,rfl⟩]
 | k+2,_=>by
   show iF (gU b Mm d (k+1)) d (k+1) _ d 0=b;unfold iF;rw[if_neg (by omega)];exact yX b Mm d (k+1) (by omega)
theorem vS(b:List UInt8)(Mm:Nat->Nat->List UInt8)(d:Nat){e s:Nat}(h:e≠d):∀k,gU b Mm d k e s=Mm e s
 | 0=>rfl
 | k+1=>by
   show iF (gU b Mm d k) d k _ e s=_;unfold iF;rw[if_neg (by omega)];exact vS b Mm d h k
def Dd(w:World)(a:Nat)(B:Nat->Prop)(D Z:Nat)(Mm:Nat->Nat->List UInt8)(nw d:Nat)(b:List UInt8)(k:Nat)(w':World):Prop:=
 ∃B',bI w' a B' D Z (gU b Mm d k) (nw+k)/\(∀i,B' i->B i\/w.heap.size≤i)/\aA B w w'
theorem Dd.next{w w1 w2:World}{a D Z nw d k:Nat}{B B':Nat->Prop}{Mm:Nat->Nat->List UInt8}{b b':List UInt8}(hB:∀i,B' i->B i\/w.heap.size≤i)(hk:aA B w w1){e:Ending}(h:mX w1 a B' D Z (gU b Mm d k) (nw+k) d k b' e w2)(hb:iF (gU b Mm d k) d k b'=gU b Mm d (k+1)):Dd w a B D Z Mm nw d b (k+1) w2:=by
 obtain⟨-,B2,h1,h2,h3⟩:=h;rw[hb] at h1;refine⟨B2,h1,fun i hi=>?_,hk.trans' h3 (fun _ _ h=>h) fun i hi e=>?_⟩
 ·rcases h2 i hi with h|h
  ·exact hB i h
  ·exact .inr (Nat.le_trans hk.size h)
 ·rcases hB i e with h|h
  ·exact h
  ·omega
def De(w:World)(a:Nat)(B:Nat->Prop)(D Z:Nat)(Mm:Nat->Nat->List UInt8)(nw d:Nat)(b:List UInt8)(e:Ending)(w':World):Prop:=
 e=.returned (.int .i64 0)/\∃B' nw',bI w' a B' D Z (gU b Mm d 5) nw'/\nw'≤nw+5/\(∀k,B' k->B k\/w.heap.size≤k)/\aA B w w'
theorem Kn{w:World}{c a m:Nat}{pid:List UInt8}{cp:Nat}{lv gv:Value}{t:Lst}(h:aW w c a m pid cp lv gv t){D Z nw:Nat}{B:Nat->Prop}{Mm:Nat->Nat->List UInt8}(ha:bI w a B D Z Mm nw){d:Nat}(hd:d<D)(hcB:¬B c)(htB:∀i,B i->¬t.Own i)(hcp:1≤cp/\cp≤3/\cp≤D)(hn:nw<1000000):Calls Tryz.prog 44 #[.pointer (some ⟨c,0,none⟩),.int .i64 (d:Int),.int .i64 0] w (De w a B D Z Mm nw d (dQ (cZ pid d D cp Z))):=by
 have hbd:=ha.bd;have HM:Hid ((cZ pid d D cp Z).may=true):=O (rX hd hbd hcp.1 hcp.2.1 hcp.2.2);have HPID:=O h.idl;have hpl:(pid.map vb).length=32:=by rw[List.length_map];exact h.idl
 have HBL:=O (fun w=>IC (cZ pid d D cp Z) h.idl w);have HPL:=O (uE (cZ pid d D cp Z) h.idl HM.out);obtain⟨b,hbe⟩:∃b,dQ (cZ pid d D cp Z)=b:=⟨_,rfl⟩
 obtain⟨lc,hlc⟩:∃l,(cZ pid d D cp Z).cells=l:=⟨_,rfl⟩
 have HLC:=O hlc;have HBE:=O hbe;rw[hbe] at HPL ⊢;rw[hlc] at HBL;have HC:=O h;have HA:=O ha;have HD:=O hd;have HCB:=O hcB;have HTB:=O htB;have HA0:=HA;have HC0:=HC;have HL:=O (Loc.nil aB aB w);have hZ5:8≤Z:=hbd.2.2.1;clear h ha hbe hlc hbd hcB htB;go_enter Tryz.func44,Tryz.ntmps44;go_wp2_with fail;obtain⟨S,hS0⟩:∃S:World->Prop,S=fun w'=>aA aB w.drew w':=⟨_,rfl⟩
 have HSE:=O (show ∀w',S w'->aA aB w.drew w' from fun w' h=>by rw[hS0] at h;exact h);have HSI:=O (show ∀w',aA aB w.drew w'->S w' from fun w' h=>by rw[hS0];exact h);have hS:S w.drew:=by rw[hS0];exact aA.refl _ _
 have hkd:=(aA.refl aB w).drew;clear hS0;refine wp_region_held (S:=S) (by kernel_rfl) ?_;change wpAnyH _ _ _ _ _ _ _ _ w.drew;generalize w.drew=w1 at HSE HSI hS hkd ⊢;replace HL:=O (HL.out.keeps hkd);replace HC:=O (HC.out.keep0 hkd);replace HA:=O (HA.out.keep0 hkd);clear hkd;have HLs:=HL;have HCs:=HC;have HAs:=HA;refine tna 0 (.pointer (some ⟨c,0,none⟩)) rfl hS ?_;refine tnb 1 (.pointer (some ⟨c,0,none⟩)) rfl hS ?_;refine tnb 2 (.pointer (some ⟨c,2,none⟩)) rfl hS ?_;refine tnd 3 (.agg (pid.map vb).toArray) rfl (yieldsIf_load_mid (by rfl) 33 (.tmp 14) rfl c 2 rfl (pid.map vb) _ (fun w' h=>(HSE.out w' h).rangeAt (aW.id_ HCs.out)) Tryz.underlying33 rfl (by rw[hpl];exact wH)) hS ?_;refine tna 4 (.int .i64 (d:Int)) rfl hS ?_;refine tna 5 (.pointer (some ⟨c,0,none⟩)) rfl hS ?_;refine tnb 6 (.pointer (some ⟨c,0,none⟩)) rfl hS ?_;refine tnb 7 (.pointer (some ⟨c,0,none⟩)) rfl hS ?_;refine tnd 8 (.pointer (some ⟨a,0,none⟩)) rfl (.inl ⟨by rfl,fun w' hw'=>by have c:World.cell? w' ⟨c,0,none⟩=some (.pointer (some ⟨a,0,none⟩)):=(HSE.out w' hw').cell (aW.c0 HCs.out) id;go_simp⟩) hS ?_;refine tna 10 (.pointer (some ⟨c,0,none⟩)) rfl hS ?_;refine tnb 11 (.pointer (some ⟨c,0,none⟩)) rfl hS ?_;refine tnb 12 (.pointer (some ⟨c,34,none⟩)) rfl hS ?_;refine tnd 13 (.int .i64 (cp:Int)) rfl (.inl ⟨by rfl,fun w' hw'=>by have c:World.cell? w' ⟨c,34,none⟩=some (.int .i64 (cp:Int)):=(HSE.out w' hw').cell (aW.cp_ HCs.out) id;go_simp⟩) hS ?_;refine tna 14 (.pointer (some ⟨c,0,none⟩)) rfl hS ?_;refine tnb 15 (.pointer (some ⟨c,0,none⟩)) rfl hS ?_;refine tnb 16 (.pointer (some ⟨c,0,none⟩)) rfl hS ?_;refine tnd 17 (.pointer (some ⟨a,0,none⟩)) rfl (.inl ⟨by rfl,fun w' hw'=>by have c:World.cell? w' ⟨c,0,none⟩=some (.pointer (some ⟨a,0,none⟩)):=(HSE.out w' hw').cell (aW.c0 HCs.out) id;go_simp⟩) hS ?_;refine tna 19 (.int .i64 0) rfl hS ?_;refine wA9 9 ?_;go_wp2_with fail;refine(kD HA.out).mono ?_;rintro e w2 ⟨rfl,hk⟩;have hS1:=HSI.out _ ((HSE.out _ hS).trans hk);replace HL:=O (HL.out.keeps hk);replace HC:=O (HC.out.keep0 hk);replace HA:=O (HA.out.keep0 hk);clear hS hk;go_wp2_with fail;refine⟨hS1,?_⟩;refine wA9 18 ?_;go_wp2_with fail;refine(tZ HA.out).mono ?_;rintro e w3 ⟨rfl,hk⟩;have hS2:=HSI.out _ ((HSE.out _ hS1).trans hk);replace HL:=O (HL.out.keeps hk);replace HC:=O (HC.out.keep0 hk);replace HA:=O (HA.out.keep0 hk);clear hS1 hk;go_wp2_with fail;refine⟨hS2,?_⟩;refine tnd 20 (.agg lc.toArray) rfl (kB 130 #[(0,.tmp 15),(1,.tmp 16),(2,.tmp 21),(3,.tmp 25),(4,.tmp 30),(5,.tmp 31)] [(0,.agg (pid.map vb).toArray),(1,.int .i64 (d:Int)),(2,.int .i64 (D:Int)),(3,.int .i64 (cp:Int)),(4,.int .i64 (Z:Int)),(5,.int .i64 0)] (.agg lc.toArray) HBL.out) hS2 ?_;refine wA9 21 ?_;go_wp2_with fail;have HS33:=O HL.out.keep.size;refine((by rw[←HLC.out];exact C6 (cZ pid d D cp Z) HPID.out w3:Calls _ _ _ w3 (C5 w3 (cZ pid d D cp Z)))).mono ?_;rintro e w4 ⟨v1,rfl,ho,hk⟩;rw[HM.out,if_pos rfl];rw[HBE.out,HPL.out] at ho;obtain⟨la,lc2,rfl,-,-⟩:=(Rd.of_owns ho).form;have HO:=O ho;clear ho;have hS3:=HSI.out _ ((HSE.out _ hS2).trans hk);replace HL:=O (HL.out.keeps hk);replace HC:=O (HC.out.keep0 hk);replace HA:=O (HA.out.keep0 hk);clear hS2 hk;go_wp2_with fail;refine⟨hS3,?_⟩;refine tna 22 (.tuple #[.slice la 256 lc2,.int .i64 0]) rfl hS3 ?_;refine tnb 23 (.slice la 256 lc2) rfl hS3 ?_;refine tnb 24 (.int .i64 0) rfl hS3 ?_;refine tna 25 (.slice la 256 lc2) rfl hS3 ?_;refine tna 26 (.int .i64 0) rfl hS3 ?_;refine wpAnyH_done (by kernel_rfl) ?_ _;clear hS3 HSE HSI HLs HCs HAs;go_wp2_with fail;have HSZ:=O HL.out.keep;have HOB:Hid (∀i,(Value.slice la 256 lc2).ownBlock=some i->¬B i):=O (fun i hi e=>by have h1:=aR HO.out hi;have h2:=HA0.out.lt e;have h3:=HS33.out;omega);clear HL
 go_loopw [7,39] (fun u i wr=>∃k:Nat,k≤5/\i=.int .i64 k/\(∃ua un uc,u=.slice ua un uc/\((k=0/\la=ua/\256=un/\lc2=uc)\/0<k))/\Hid (Dd w a B D Z Mm nw d b k wr)/\Hid (k=0->aA aB w4 wr)) (fun _ i _=>5-(intOf i).toNat)
 case atStart=>exact⟨0,by omega,rfl,⟨_,_,_,rfl,.inl ⟨rfl,rfl,rfl,rfl⟩⟩,O ⟨B,HA.out,fun i h=>.inl h,HSZ.out.any⟩,O fun _=>aA.refl _ _⟩
 case round =>
  obtain⟨k,hk,rfl,⟨ua,un,uc,rfl,hu⟩,HI,HK0⟩:=hrel;obtain⟨B2,ha2,hB2,hkw⟩:=HI.out;have HA2:=O ha2;have HB2:=O hB2;have HKW:=O hkw;have HC2:=O (HC0.out.keep hkw HCB.out HTB.out);have HAL:=O (fun i (e:B2 i)=>ha2.lt e);clear ha2 hB2 hkw HI
  by_cases hk8:k<5
  ·have hk0:(0:Int)≤(k:Int):=by omega
   have hk1:(k:Int)<5:=by omega
   have HL:=O (Loc.nil aB aB wr);rcases hu with⟨rfl,rfl,rfl,rfl⟩|hz0
   ·clear HA2 HB2 HKW HAL
    have HA2:=O (HA.out.keep0 (HK0.out rfl));have HB2:Hid (∀i,B i->B i\/w.heap.size≤i):=O (fun i h=>.inl h);have HKW:Hid (aA B w wr):=O (HSZ.out.trans (HK0.out rfl)).any;have HAL:=O (fun i (e:B i)=>HA2.out.lt e);have HO2:=O ((HK0.out rfl).owns HO.out fun _ _=>id);have c1:wr.cell? ⟨c,0,none⟩=some (.pointer (some ⟨a,0,none⟩)):=(aW.c0 HC2.out)
    go_wp2_with fail;clear c1;refine(rR (s:=0) HA2.out HD.out (by omega) b HPL.out (.slice la 256 lc2) (Rd.of_owns HO2.out) HOB.out (by omega)).mono ?_;rintro e w5 hm;have HE:=O (Dd.next HB2.out (HKW.out.trans HL.out.keep.any) hm (ID b Mm d));obtain⟨rfl,-⟩:=hm;clear HL HC2 HA2 HB2 HKW HAL;go_wp2_with fail
    go_roundw
    case rel=>exact⟨0+1,by omega,by go_num,⟨_,_,_,rfl,.inr (by omega)⟩,HE,O fun h=>by omega⟩
    case measure=>simp[intOf]
   ·have hz1:(0:Int)<(k:Int):=by omega
    go_wp2_with ((with_reducible show WL _ _);refine mkz (.const (.int .i64 256)) (.const (.int .i64 256)) ?_)
    intro b44 w5 hbs hk hb;replace HL:=O (HL.out.new (fun _ h=>h.elim) hbs hk hb);replace HC2:=O (HC2.out.keep0 hk);replace HA2:=O (HA2.out.keep0 hk);clear hbs hk hb;have c1:w5.cell? ⟨c,0,none⟩=some (.pointer (some ⟨a,0,none⟩)):=(aW.c0 HC2.out)
    go_wp2_with fail;clear c1;refine(rR (s:=k) HA2.out HD.out (by omega) zB rfl (.slice (some ⟨b44,0,none⟩) 256 256) (Rd.of_owns (xB (base:=0) (HL.out.b 0) rfl (Nat.zero_le _))) (fun i hi e=>by have h8:=HAL.out _ e;have h9:=(HL.out.lt 0).1;have h7:i=b44:=(by cases hi;rfl);omega) (by omega)).mono ?_;rintro e w6 hm;have HE:=O (Dd.next HB2.out (HKW.out.trans HL.out.keep.any) hm (FY b Mm d hz0));obtain⟨rfl,-⟩:=hm;clear HL HC2 HA2 HB2 HKW HAL;go_wp2_with fail
    go_roundw
    case rel=>exact⟨k+1,by omega,by go_num,⟨_,_,_,rfl,.inr (by omega)⟩,HE,O fun h=>by omega⟩
    case measure=>simp[intOf];omega
  ·obtain rfl:k=5:=by omega
   clear hu;have HL:=O (Loc.nil aB aB wr);have c1:wr.cell? ⟨c,0,none⟩=some (.pointer (some ⟨a,0,none⟩)):=(aW.c0 HC2.out)
   go_wp2_with fail;clear c1;refine(Fv HA2.out HD.out (by omega)).mono ?_;rintro e w5 ⟨rfl,B3,nw3,ha3,hn3,hB3,hk3⟩;have HP:Hid (De w a B D Z Mm nw d b (.returned (.int .i64 0)) w5):=O ⟨rfl,B3,nw3,ha3,hn3,fun i hi=>(hB3 i hi).elim (HB2.out i) (fun h=>.inr (Nat.le_trans (HKW.out.trans HL.out.keep.any).size h)),(HKW.out.trans HL.out.keep.any).trans' hk3 (fun _ _ h=>h) (fun i hi e=>(HB2.out i e).elim id fun h=>by omega)⟩;clear ha3 hn3 hB3 hk3 HL HC2 HA2 HB2 HKW HAL;go_wp2_with fail;go_ret;exact HP.out
theorem MQ{w:World}{D Z:Nat}(hb:2≤D/\D≤8/\8≤Z/\Z≤4096)(v:Value)(hr:Rd w 2 v 0 []):Calls Tryz.prog 82 #[.int .i64 (D:Int),.int .i64 (Z:Int),v] w (fun e w'=>∃g b2 lc,e=.returned (.tuple #[.pointer (some ⟨g,0,none⟩),.int .i64 0])/\cP w' w.heap.size g b2 lc D Z []/\aA aB w w'):=by
 refine(FZ w (D:Int) (Z:Int) v [] hr).mono fun e w' h=>?_
 have hB:sC (D:Int) (Z:Int) []=true:=by unfold sC;simp;omega
 unfold oK at h;rw[if_pos hB] at h;exact h
def F1(w:World)(D Z:Nat)(e:Ending)(w':World):Prop:=∃g b2 lc,e=.returned (.tuple #[.pointer (some ⟨g,0,none⟩),.int .i64 0])/\cP w' w.heap.size g b2 lc D Z []/\aA aB w w'
def A9(w:World)(c a m:Nat)(pid:List UInt8)(cp:Nat)(lv:Value)(D Z:Nat)(e:Ending)(w':World):Prop:=
 e=.returned (.tuple #[])/\∃g b2 lc,aW w' c a m pid cp lv (.pointer (some ⟨g,0,none⟩)) nL/\cP w' 0 g b2 lc D Z []/\(∀k,Own g b2 lc D k->w.heap.size≤k)/\aA (fun k=>k=c) w w'
theorem MR(a m:Nat)(pid:List UInt8)(hp:pid.length=32)(cp:Nat)(lv gv gv':Value)(t:Lst):spl (gA a m pid cp lv gv t).toArray 36 [gv']=(gA a m pid cp lv gv' t).toArray:=by
 have h:=lZ (.pointer (some ⟨a,0,none⟩)::.pointer (some ⟨m,0,none⟩)::(pid.map vb++[.int .i64 (cp:Int),lv])) [gv] [gv'] (t.ov::t.vv::kR t) rfl;have hl:(.pointer (some ⟨a,0,none⟩)::.pointer (some ⟨m,0,none⟩)::(pid.map vb++[.int .i64 (cp:Int),lv])).length=36:=by simp[hp]
 rw[hl] at h;unfold gA
 simpa [List.append_assoc] using h
theorem MS(a m:Nat)(pid:List UInt8)(hp:pid.length=32)(cp:Nat)(lv lv' gv:Value)(t:Lst):spl (gA a m pid cp lv gv t).toArray 35 [lv']=(gA a m pid cp lv' gv t).toArray:=by
 have h:=lZ (.pointer (some ⟨a,0,none⟩)::.pointer (some ⟨m,0,none⟩)::(pid.map vb++[.int .i64 (cp:Int)])) [lv] [lv'] (gv::t.ov::t.vv::kR t) rfl;have hl:(.pointer (some ⟨a,0,none⟩)::.pointer (some ⟨m,0,none⟩)::(pid.map vb++[.int .i64 (cp:Int)])).length=35:=by simp[hp]
 rw[hl] at h;unfold gA
 simpa [List.append_assoc] using h
def jZ(w:World)(c a m:Nat)(pid:List UInt8)(cp:Nat)(lv:Value):Prop:=∃gv,aW w c a m pid cp lv gv nL
theorem jZ.keep0{w w':World}{c a m:Nat}{pid:List UInt8}{cp:Nat}{lv:Value}(h:jZ w c a m pid cp lv)(k:aA aB w w'):jZ w' c a m pid cp lv:=h.imp fun _ h=>h.keep0 k
theorem jZ.c0{w:World}{c a m:Nat}{pid:List UInt8}{cp:Nat}{lv:Value}(h:jZ w c a m pid cp lv):w.cell? ⟨c,0,none⟩=some (.pointer (some ⟨a,0,none⟩)):=h.elim fun _ h=>h.c0
theorem jZ.old_{w:World}{c a m:Nat}{pid:List UInt8}{cp:Nat}{lv:Value}(h:jZ w c a m pid cp lv):w.cell? ⟨c,37,none⟩=some (.slice none 0 0):=h.elim fun _ h=>h.old_
theorem jZ.live_{w:World}{c a m:Nat}{pid:List UInt8}{cp:Nat}{lv:Value}(h:jZ w c a m pid cp lv):w.cell? ⟨c,38,none⟩=some (.slice none 0 0):=h.elim fun _ h=>h.live_
theorem cP.low{w:World}{lo lo' g b2 D Z:Nat}{lc:Nat->Option Nat}{L:List Ad}(h:cP w lo g b2 lc D Z L)(h2:lo'≤lo):cP w lo' g b2 lc D Z L:=⟨h.top,h.words,h.chans,h.inj,h.bd,Nat.le_trans h2 h.lo.1,Nat.le_trans h2 h.lo.2.1,fun d k hd hk=>Nat.le_trans h2 (h.lo.2.2 d k hd hk)⟩
theorem IF{w:World}{c a m:Nat}{pid:List UInt8}{cp:Nat}{lv gv:Value}(h:aW w c a m pid cp lv gv nL){D Z nw:Nat}{B:Nat->Prop}{Mm:Nat->Nat->List UInt8}(ha:bI w a B D Z Mm nw)(hcB:¬B c):Calls Tryz.prog 45 #[.pointer (some ⟨c,0,none⟩)] w (A9 w c a m pid cp lv D Z):=by
 have hbd:=ha.bd;have HBD:=O hbd;have HPID:=O h.idl;have HCLT:=O (lt_of_block h.top);have HC:=O h;have HA:=O ha;have HL:=O (Loc.nil aB aB w);have HCB:Hid (∀i,i=c->¬B i):=O fun i e=>e▸hcB
 clear h ha hbd hcB;go_enter Tryz.func45,Tryz.ntmps45;go_wp2_with fail;obtain⟨S,hS0⟩:∃S:World->Prop,S=fun w'=>aA (fun k=>k=c) w.drew w'/\jZ w' c a m pid cp lv:=⟨_,rfl⟩
 have HSE:=O (show ∀w',S w'->aA (fun k=>k=c) w.drew w'/\jZ w' c a m pid cp lv from fun w' h=>by rw[hS0] at h;exact h);have HSI:=O (show ∀w',aA (fun k=>k=c) w.drew w'/\jZ w' c a m pid cp lv->S w' from fun w' h=>by rw[hS0];exact h);have hS:S w.drew:=by rw[hS0];exact⟨aA.refl _ _,_,HC.out.keep0 (aA.refl aB w).drew⟩
 have hkd:=(aA.refl aB w).drew;clear hS0;refine wp_region_held (S:=S) (by kernel_rfl) ?_;change wpAnyH _ _ _ _ _ _ _ _ w.drew;generalize w.drew=w1 at HSE HSI hS hkd ⊢;replace HL:=O (HL.out.keeps hkd);replace HC:=O (HC.out.keep0 hkd);replace HA:=O (HA.out.keep0 hkd);clear hkd;have HLs:=HL;have HCs:=HC;have HAs:=HA;refine tna 0 (.pointer (some ⟨c,0,none⟩)) rfl hS ?_;refine tna 1 (.pointer (some ⟨c,0,none⟩)) rfl hS ?_;refine tnb 2 (.pointer (some ⟨c,0,none⟩)) rfl hS ?_;refine tnb 3 (.pointer (some ⟨c,0,none⟩)) rfl hS ?_;refine tnd 4 (.pointer (some ⟨a,0,none⟩)) rfl (.inl ⟨by rfl,fun w' hw'=>by have c:World.cell? w' ⟨c,0,none⟩=some (.pointer (some ⟨a,0,none⟩)):=jZ.c0 (HSE.out w' hw').2;go_simp⟩) hS ?_;refine tna 6 (.pointer (some ⟨c,0,none⟩)) rfl hS ?_;refine tnb 7 (.pointer (some ⟨c,0,none⟩)) rfl hS ?_;refine tnb 8 (.pointer (some ⟨c,0,none⟩)) rfl hS ?_;refine tnd 9 (.pointer (some ⟨a,0,none⟩)) rfl (.inl ⟨by rfl,fun w' hw'=>by have c:World.cell? w' ⟨c,0,none⟩=some (.pointer (some ⟨a,0,none⟩)):=jZ.c0 (HSE.out w' hw').2;go_simp⟩) hS ?_;refine tna 11 (.pointer (some ⟨c,0,none⟩)) rfl hS ?_;refine tnb 12 (.pointer (some ⟨c,0,none⟩)) rfl hS ?_;refine tnb 13 (.pointer (some ⟨c,37,none⟩)) rfl hS ?_;refine tnd 14 (.slice none 0 0) rfl (.inl ⟨by rfl,fun w' hw'=>by have c:World.cell? w' ⟨c,37,none⟩=some (.slice none 0 0):=jZ.old_ (HSE.out w' hw').2;go_simp⟩) hS ?_;refine tna 15 (.pointer (some ⟨c,0,none⟩)) rfl hS ?_;refine tnb 16 (.pointer (some ⟨c,0,none⟩)) rfl hS ?_;refine tnb 17 (.pointer (some ⟨c,38,none⟩)) rfl hS ?_;refine tnd 18 (.slice none 0 0) rfl (.inl ⟨by rfl,fun w' hw'=>by have c:World.cell? w' ⟨c,38,none⟩=some (.slice none 0 0):=jZ.live_ (HSE.out w' hw').2;go_simp⟩) hS ?_;refine wA9 5 ?_;go_wp2_with fail;refine(kD HA.out).mono ?_;rintro e w2 ⟨rfl,hk⟩;have hS1:=HSI.out _ ⟨(HSE.out _ hS).1.trans hk.any,(HSE.out _ hS).2.keep0 hk⟩;replace HL:=O (HL.out.keeps hk);replace HC:=O (HC.out.keep0 hk);replace HA:=O (HA.out.keep0 hk);clear hS hk;go_wp2_with fail;refine⟨hS1,?_⟩;refine wA9 10 ?_;go_wp2_with fail;refine(tZ HA.out).mono ?_;rintro e w3 ⟨rfl,hk⟩;have hS2:=HSI.out _ ⟨(HSE.out _ hS1).1.trans hk.any,(HSE.out _ hS1).2.keep0 hk⟩;replace HL:=O (HL.out.keeps hk);replace HC:=O (HC.out.keep0 hk);replace HA:=O (HA.out.keep0 hk);clear hS1 hk;go_wp2_with fail;refine⟨hS2,?_⟩;refine wA9 19 ?_;go_wp2_with fail;refine(IE w3 (.slice none 0 0) (.slice none 0 0) [] [] (fun x hx=>by cases hx) (fun x hx=>by cases hx) (Rd.nil _ _) (Rd.nil _ _) (by decide)).mono ?_;rintro e w4 ⟨v1,rfl,ho,hk⟩;have e0:(mF ([]++[]:List Ad))=[]:=List.eq_nil_iff_forall_not_mem.2 (fun x hx=>by rw[AO] at hx;cases hx);rw[e0] at ho;obtain⟨ua,uc,hv1,-,-⟩:=(Rd.of_owns ho).form;have hv2:v1=.slice ua 0 uc:=hv1;clear hv1 e0;subst hv2;have HO:=O ho;clear ho;have hS3:=HSI.out _ ⟨(HSE.out _ hS2).1.trans hk.any,(HSE.out _ hS2).2.keep0 hk⟩;replace HL:=O (HL.out.keeps hk);replace HC:=O (HC.out.keep0 hk);replace HA:=O (HA.out.keep0 hk);clear hS2 hk;go_wp2_with fail;refine⟨hS3,?_⟩;refine wA9 20 ?_;go_wp2_with fail;have HWS:=O HL.out.keep.size;refine((MQ HBD.out _ (Rd.of_owns HO.out):Calls _ _ _ w4 (F1 w4 D Z))).mono ?_;rintro e w5 ⟨g,b2,lc,rfl,hled,hk⟩;have HLE:=O hled;have HW0:=O (lt_of_block HC.out.top);clear hled;have hS4:=HSI.out _ ⟨(HSE.out _ hS3).1.trans hk.any,(HSE.out _ hS3).2.keep0 hk⟩;replace HL:=O (HL.out.keeps hk);replace HC:=O (HC.out.keep0 hk);replace HA:=O (HA.out.keep0 hk);replace HO:=O (hk.owns HO.out fun _ _=>id);clear hS3 hk;go_wp2_with fail;refine⟨hS4,?_⟩;refine tna 21 (.tuple #[.pointer (some ⟨g,0,none⟩),.int .i64 0]) rfl hS4 ?_;refine tnb 22 (.pointer (some ⟨g,0,none⟩)) rfl hS4 ?_;refine tnb 23 (.int .i64 0) rfl hS4 ?_;refine tnb 24 (.pointer (some ⟨c,0,none⟩)) rfl hS4 ?_;refine tnb 25 (.pointer (some ⟨c,36,none⟩)) rfl hS4 ?_;refine wA9 26 ?_;refine sta 61 (.tmp 27) (.tmp 24) c 36 [.pointer (some ⟨g,0,none⟩)] HC.out.top (by rw[List.size_toArray,yR HPID.out rfl];simp) (by kernel_rfl) (one9) ?_;intro w6 hk hb;rw[MR _ _ _ HPID.out] at hb;have hS5:S w6:=HSI.out _ ⟨(HSE.out _ hS4).1.trans hk,_,hb,HPID.out,nM.zero _⟩;have HLX:Hid (∀i,i=c->¬Own g b2 lc D i):=O (by rintro i rfl e;have:=(HLE.out.own_lt e).1;have:=HCLT.out;have:=HWS.out;omega);have HP:Hid (A9 w c a m pid cp lv D Z (.returned (.tuple #[])) w6):=O ⟨rfl,g,b2,lc,⟨hb,HPID.out,nM.zero _⟩,(HLE.out.keep hk HLX.out).low (Nat.zero_le _),fun k e=>by have:=(HLE.out.own_lt e).1;have:=HWS.out;omega,HL.out.keep.any.trans hk⟩;clear hS4 hk hb;refine wpList_nil ?_;refine⟨hS5,?_⟩;refine wpAnyH_done (by kernel_rfl) ?_ _;clear hS5 HSE HSI HLs HCs HAs;clear HC HA HL HO HLE;go_wp2_with fail
 go_end0
 exact HP.out
end
end Go.Proofs.YthihofpfonfjfaaGreatDoor
